/- The document's automaton: events, whatever comes. -/
import Derived.Test.YtimmclibnfdjhaaWD6d
import Derived.Test.YtimmclibnfdjhaaWD6c
import Derived.Test.YtimmclibnfdjhaaWD7c
import Derived.Test.YtimmclibnfdjhaaWW3b
set_option linter.unusedVariables false
set_option linter.unusedSimpArgs false
set_option linter.unusedSectionVars false
section
namespace Go.Proofs.Ytimmclibnfdjhaa
open Go.SL
set_option maxRecDepth 100000
set_option maxHeartbeats 16000000
attribute [local irreducible] SL.T PFn OpV SOL SWP HOp ChU
theorem dtake_calls {βd : Nat} {b1 b2 b3 : Option Addr} {n k c1 c2 c3 : Nat} {HW HP HT : Heap} {δ : DS} {e : Ev} [nn : NN b3] [n1 : NN b1] [n2 : NN b2] (m : MemD b1 b2 b3 n k c1 c2 c3 HW HP HT δ) (hsm : n ≤ 1000000) (hsk : k ≤ 1000000) :
    SL.T Try.prog 38 [ptr βd, .agg ⟨ecells e⟩] [specD βd b1 b2 b3 n k c1 c2 c3 δ.rel, HW, HP, HT] (RetD βd b1 b2 b3 n k c1 c2 c3 (takeD δ e)) := by
  have hn := m.hn
  by_cases h0 : 0 ≤ e.thread ∧ e.thread < n
  · obtain ⟨x, hx⟩ : ∃ x, δ.th[e.thread.toNat]? = some x := ⟨_, List.getElem?_eq_getElem (by omega)⟩
    by_cases k0 : e.kind = 0
    · exact dtake_call m hsm hsk h0 hx k0
    by_cases k1 : e.kind = 1
    · exact dtake_act m hsm hsk h0 hx k1
    by_cases k2 : e.kind = 2
    · exact dtake_ret m hsm hsk h0 hx k2
    · exact dtake_no m hsm hsk h0 hx k0 k1 k2
  · have e0 : takeD δ e = (false, δ) := by unfold takeD; rw [if_pos (by rw [hn]; exact h0)]
    rw [e0]
    unfold RetD
    refine t_of_body Try.func38 rfl (Nat.le_of_ble_eq_true rfl) fun F => ?_
    repeat' (first
      | refine swp_seq ?_
      | (refine gk 0 rfl ?_; first | refine sl_op rfl rfl rfl (by first | exact opv_move rfl rfl | exact opv_assign rfl rfl | exact opv_pick_t rfl rfl rfl | exact opv_pick_f rfl rfl rfl ) ?_ | refine sl_pass rfl rfl rfl rfl ?_)
      | (refine gk 2 rfl ?_; first | refine sl_pass rfl rfl rfl rfl ?_ | refine sl_yes rfl rfl rfl (by first | exact opv_lss rfl rfl rfl | exact opv_geq rfl rfl rfl ) (by first | omega ) ?_ | refine sl_if rfl rfl rfl (by first | exact opv_lss rfl rfl rfl ) (fun h => ?_) (fun h => ?_) )
      | (refine gk 3 rfl ?_; first | refine sl_op rfl rfl rfl (by first | exact opv_load rfl (by exact rfl) rfl (by exact rfl) | exact opv_fieldAddr rfl rfl ) ?_ | refine sl_pass rfl rfl rfl rfl ?_)
      | (refine gk 4 rfl ?_; first | refine sl_pass rfl rfl rfl rfl ?_ | refine sl_op rfl rfl rfl (by first | exact opv_len rfl rfl rfl rfl rfl ) ?_)
      | (refine gk 5 rfl ?_; first | refine sl_op rfl rfl rfl (by first | exact opv_nilCheck rfl rfl ) ?_ | refine sl_pass rfl rfl rfl rfl ?_ | refine sl_box rfl rfl rfl rfl rfl rfl (fun β => ?_) )
      | refine sl_region rfl ?_
      | refine sl_draw (by kernel_rfl) (by kernel_rfl) rfl ?_
      | refine sl_nil ?_
      | refine thn_k ?_
      | refine swp_true rfl ?_
      | refine swp_ret ?_
      | refine thn_ret ?_
      )
    all_goals first | (exfalso; omega) | exact end_retL [specD βd b1 b2 b3 n k c1 c2 c3 δ.rel, HW, HP, HT] (resOk_one (resV_tmp rfl)) ⟨rfl, HW, HP, HT, rfl, m⟩
end Go.Proofs.Ytimmclibnfdjhaa
end
section
/- The document's automaton: events whose outcome is known. -/
namespace Go.Proofs.Ytimmclibnfdjhaa
open Go.SL
theorem dtake_is {βd : Nat} {b1 b2 b3 : Option Addr} {n k c1 c2 c3 : Nat} {HW HP HT : Heap} {δ δ' : DS} (e : Ev) {v : Bool} (n3 : NN b3) (n1 : NN b1) (n2 : NN b2) (m : MemD b1 b2 b3 n k c1 c2 c3 HW HP HT δ) (hsm : n ≤ 1000000) (hsk : k ≤ 1000000) (hr : takeD δ e = (v, δ')) :
    SL.T Try.prog 38 [ptr βd, .agg ⟨ecells e⟩] [specD βd b1 b2 b3 n k c1 c2 c3 δ.rel, HW, HP, HT] fun en w => en = .returned (.bool v) ∧ ∃ HW' HP' HT', w = [specD βd b1 b2 b3 n k c1 c2 c3 δ'.rel, HW', HP', HT'] ∧ MemD b1 b2 b3 n k c1 c2 c3 HW' HP' HT' δ' := by
  have h := dtake_calls (βd := βd) (e := e) m hsm hsk
  unfold RetD at h
  rw [hr] at h
  exact h
end Go.Proofs.Ytimmclibnfdjhaa
end
section
/- What comes next of a thread: some event, or none. -/
namespace Go.Proofs.Ytimmclibnfdjhaa
open Go.SL
set_option maxRecDepth 100000
set_option maxHeartbeats 16000000
attribute [local irreducible] SL.T PFn OpV SOL SWP HOp ChU
-- CHANGES 38
section
variable {βd : Nat} {b1 b2 b3 : Option Addr} {n k c1 c2 c3 : Nat}
theorem dnext_calls {HW HP HT : Heap} {δ : DS} {t : Nat} (p q : Nat) (hp : p < 256) (hq : q < 256) [nn : NN b3] [n1 : NN b1] [n2 : NN b2] (m : MemD b1 b2 b3 n k c1 c2 c3 HW HP HT δ) (h0n : 0 < n) (h0k : 0 < k) (hsm : n ≤ 1000000) (hsk : k ≤ 1000000) (ht : t < n) :
    SL.T Try.prog 37 [ptr βd, i64 (t : Int), .int .u8 (p : Int), .int .u8 (q : Int)] [specD βd b1 b2 b3 n k c1 c2 c3 δ.rel, HW, HP, HT] fun en w => ∃ ev is, en = .returned (.tuple #[.agg ⟨ecells ev⟩, .bool is]) ∧ w = [specD βd b1 b2 b3 n k c1 c2 c3 δ.rel, HW, HP, HT] := by
  obtain ⟨osW, osP, os, hn, hk, hd⟩ := id m
  haveI slT := os.sl
  have hl := dts_length δ.th
  obtain ⟨x, h⟩ : ∃ x, δ.th[t]? = some x := ⟨_, List.getElem?_eq_getElem (by omega)⟩
  have hl1 : ((t : Nat) : Int).toNat * 11 < (dts δ.th).length := by simp; omega
  have hta : ∀ (i : Nat) (v : Value), (dcells x)[i]? = some v → (dts δ.th)[((t : Nat) : Int).toNat * 11 + i]? = some v := dts_at h
  have hE := devents_calls (βd := βd) (b1 := b1) (b2 := b2) (b3 := b3) (k := k) (c1 := c1) (c2 := c2) (c3 := c3) (rel := δ.rel) (HT := HT) hn hsm h
  have hC := dcopy_calls (βd := βd) m h0n h0k hsm hsk
  unfold CopyD at hC
  have hpw : Value.int .i64 (IntKind.i64.wrap ((p : Nat) : Int)) = .int .i64 ((p : Nat) : Int) := by rw [wrapN (by omega)]
  rcases Bool.eq_false_or_eq_true x.opn with hop | hop
  · have hta1 : dcells x = [i64 x.calls, .bool true, i64 x.op, i64 x.obj, i64 x.arg, i64 x.far, i64 x.code, i64 x.val, .bool x.flag, i64 x.saved, i64 x.since] := by rw [dcells, hop]
    rw [hta1] at hta
    refine t_of_body Try.func37 rfl (Nat.le_of_ble_eq_true rfl) fun F => ?_
    repeat' (first
      | refine sl_op rfl rfl rfl (opv_loadEA (vs := [i64 x.calls, .bool true, i64 x.op, i64 x.obj, i64 x.arg, i64 x.far, i64 x.code, i64 x.val, .bool x.flag, i64 x.saved, i64 x.since]) rfl rfl (Nat.succ_pos _) rfl hta) ?_
      | refine swp_seq ?_
      | (refine gk 0 rfl ?_; first | refine sl_op rfl rfl rfl (by first | exact opv_move rfl rfl | exact opv_assign rfl rfl | exact opv_not_t rfl rfl ) ?_ )
      | (refine gk 3 rfl ?_; first | refine sl_op rfl rfl rfl (by first | exact opv_load rfl (by exact rfl) rfl (by exact rfl) | exact opv_fieldAddr rfl rfl | exact opv_indexAddrI rfl rfl rfl (by omega) (by omega) (by first | omega ) ) ?_ )
      | (refine gk 4 rfl ?_; first | (refine sl_callT rfl rfl rfl rfl rfl rfl rfl rfl (hE) ?_; rintro _ _ ⟨N, b, c, es, rfl, rfl, osE, hel⟩; refine ⟨_, _, rfl, rfl, ?_⟩))
      | (refine gk 5 rfl ?_; first | refine sl_op rfl rfl rfl (by first | exact opv_nilCheck rfl rfl ) ?_ | refine sl_alloc rfl rfl rfl rfl (by exact rfl) (fun β => ?_) | refine sl_store rfl rfl rfl rfl rfl rfl (by exact rfl) rfl (by exact rfl) ?_)
      | refine sl_region rfl ?_
      | refine sl_nil ?_
      | refine thn_k ?_
      | refine swp_false rfl ?_
      | refine swp_block ?_
      | refine swp_skip ?_
      )
    rename_i β0
    refine swp_loopS (fun i : Nat => [(0, ptr βd), (1, i64 (t : Int)), (2, .int .u8 (p : Int)), (8, ptr β0), (9, .bool false), (11, .slice b 101 c), (12, i64 (i : Int))])
      (fun _ => [specD βd b1 b2 b3 n k c1 c2 c3 δ.rel, HW, HP, HT, N, blk β0 (.cells ⟨[i64 0, i64 0, i64 0, i64 0, i64 0, i64 0, i64 0, i64 0]⟩ 37 (0, 0))])
      (fun i => i ≤ 101) (fun i => 101 - i) 0 (by repeat first | exact Sub.nil _ | refine Sub.cons rfl ?_) (Nat.zero_le _) ?_
    intro i hi
    by_cases hi2 : i < 101
    · haveI slE := osE.sl
      have lE := osE.hlen
      obtain ⟨ev, hev⟩ : ∃ ev, es[(i + p) % 101]? = some ev := ⟨_, List.getElem?_eq_getElem (by rw [hel]; exact Nat.mod_lt _ (by decide))⟩
      have hrm : Value.int .i64 (((i : Int) + (p : Int)).tmod ((101 : Nat) : Int)) = i64 (((i + p) % 101 : Nat) : Int) := by
        rw [show (i : Int) + (p : Int) = ((i + p : Nat) : Int) from rfl, tm (by omega)]; rfl
      have hml : (i + p) % 101 < 101 := Nat.mod_lt _ (by decide)
      have hea := evs_at hev
      have hil : (((i + p) % 101 : Nat) : Int).toNat * 8 < (evs es).length := by rw [lE]; simp; omega
      cases hr : takeD δ ev with
      | mk v δ' =>
        cases v with
        | true =>
          repeat' (first
            | refine sl_op rfl rfl rfl ((opv_convert rfl rfl).to hpw) ?_
            | refine sl_op rfl rfl rfl ((opv_rem rfl rfl rfl (by omega)).to hrm) ?_
            | refine sl_op rfl rfl rfl (opv_loadEA (vs := ecells ev) rfl rfl (Nat.succ_pos _) rfl hea) ?_
            | refine swp_seq ?_
            | (refine gk 0 rfl ?_; first | refine sl_op rfl rfl rfl (by first | exact opv_move rfl rfl ) ?_ )
            | (refine gk 1 rfl ?_; first | refine sl_op rfl rfl rfl (by first | exact opv_add64 rfl rfl rfl (by omega) (by omega) ) ?_ )
            | (refine gk 2 rfl ?_; first | refine sl_yes rfl rfl rfl (by first | exact opv_lss rfl rfl rfl ) (by first | omega ) ?_ )
            | (refine gk 3 rfl ?_; first | refine sl_op rfl rfl rfl (by first | exact opv_indexAddrI rfl rfl rfl (by omega) (by omega) (by first | omega ) ) ?_ )
            | (refine gk 4 rfl ?_; first | refine sl_op rfl rfl rfl (by first | exact opv_len rfl rfl rfl rfl rfl ) ?_)
            | (refine gk 5 rfl ?_; first | refine sl_alloc rfl rfl rfl rfl (by exact rfl) (fun β => ?_) | refine sl_store rfl rfl rfl rfl rfl rfl (by exact rfl) rfl (by exact rfl) ?_)
            | refine sl_region rfl ?_
            | refine sl_nil ?_
            | refine thn_k ?_
            | refine swp_true rfl ?_
            | refine swp_block ?_
            | refine swp_skip ?_
            )
          refine sl_drawC [.q [0, 2], .h false 1, .h true 3] [] (by kernel_rfl) (by kernel_rfl) (by kernel_rfl) (by kernel_rfl) ?_
          repeat' (first
            | refine swp_seq ?_
            | (refine gk 0 rfl ?_; first | refine sl_op rfl rfl rfl (by first | exact opv_move rfl rfl | exact opv_assign rfl rfl ) ?_ )
            | (refine gk 3 rfl ?_; first | refine sl_op rfl rfl rfl (by first | exact opv_loadA rfl (by exact rfl) rfl (by exact rfl) (by exact rfl) ) ?_ )
            | (refine gk 5 rfl ?_; first | refine sl_store rfl rfl rfl rfl rfl rfl (by exact rfl) rfl (by exact rfl) ?_)
            | refine sl_region rfl ?_
            | refine chu_nil ?_
            | refine chu_q rfl ?_
            | (refine chu_T rfl rfl rfl rfl rfl rfl rfl rfl (hC) (by rintro _ _ ⟨βc, d1, d2, d3, e1, e2, e3, KW, KP, KT, rfl, rfl, mC, m1, m2, m3⟩; exact ⟨_, rfl⟩) ?_; rintro _ _ ⟨βc, d1, d2, d3, e1, e2, e3, KW, KP, KT, rfl, rfl, mC, m1, m2, m3⟩; refine ⟨_, _, rfl, rfl, ?_⟩)
            | (refine chu_Tc rfl rfl rfl rfl rfl rfl rfl rfl (dtake_is ev m3 m1 m2 mC hsm hsk hr) ?_; rintro _ _ ⟨rfl, HW2, HP2, HT2, rfl, mm2⟩; refine ⟨_, _, rfl, rfl, ?_⟩)
            | refine sl_nil ?_
            | refine thn_k ?_
            | refine swp_true rfl ?_
            | refine swp_ret ?_
            | refine thn_ret ?_
            | refine inb_ret ?_
            )
          exact end_retL [specD βd b1 b2 b3 n k c1 c2 c3 δ.rel, HW, HP, HT] (resOk_two (resV_cellA rfl rfl rfl rfl) (resV_tmp rfl)) ⟨ev, true, rfl, rfl⟩
        | false =>
          repeat' (first
            | refine sl_op rfl rfl rfl ((opv_convert rfl rfl).to hpw) ?_
            | refine sl_op rfl rfl rfl ((opv_rem rfl rfl rfl (by omega)).to hrm) ?_
            | refine sl_op rfl rfl rfl (opv_loadEA (vs := ecells ev) rfl rfl (Nat.succ_pos _) rfl hea) ?_
            | refine swp_seq ?_
            | (refine gk 0 rfl ?_; first | refine sl_op rfl rfl rfl (by first | exact opv_move rfl rfl ) ?_ )
            | (refine gk 1 rfl ?_; first | refine sl_op rfl rfl rfl (by first | exact opv_add64 rfl rfl rfl (by omega) (by omega) ) ?_ )
            | (refine gk 2 rfl ?_; first | refine sl_yes rfl rfl rfl (by first | exact opv_lss rfl rfl rfl ) (by first | omega ) ?_ )
            | (refine gk 3 rfl ?_; first | refine sl_op rfl rfl rfl (by first | exact opv_indexAddrI rfl rfl rfl (by omega) (by omega) (by first | omega ) ) ?_ )
            | (refine gk 4 rfl ?_; first | refine sl_op rfl rfl rfl (by first | exact opv_len rfl rfl rfl rfl rfl ) ?_)
            | (refine gk 5 rfl ?_; first | refine sl_alloc rfl rfl rfl rfl (by exact rfl) (fun β => ?_) | refine sl_store rfl rfl rfl rfl rfl rfl (by exact rfl) rfl (by exact rfl) ?_)
            | refine sl_region rfl ?_
            | refine sl_nil ?_
            | refine thn_k ?_
            | refine swp_true rfl ?_
            | refine swp_block ?_
            | refine swp_skip ?_
            )
          refine sl_drawC [.q [0, 2], .h false 1, .h true 3] [] (by kernel_rfl) (by kernel_rfl) (by kernel_rfl) (by kernel_rfl) ?_
          repeat' (first
            | (refine gk 0 rfl ?_; first | refine sl_op rfl rfl rfl (by first | exact opv_move rfl rfl | exact opv_assign rfl rfl ) ?_ )
            | (refine gk 1 rfl ?_; first | refine sl_op rfl rfl rfl (by first | exact opv_add64 rfl rfl rfl (by omega) (by omega) ) ?_ )
            | (refine gk 3 rfl ?_; first | refine sl_op rfl rfl rfl (by first | exact opv_loadA rfl (by exact rfl) rfl (by exact rfl) (by exact rfl) ) ?_ )
            | refine sl_region rfl ?_
            | refine chu_nil ?_
            | refine chu_q rfl ?_
            | (refine chu_T rfl rfl rfl rfl rfl rfl rfl rfl (hC) (by rintro _ _ ⟨βc, d1, d2, d3, e1, e2, e3, KW, KP, KT, rfl, rfl, mC, m1, m2, m3⟩; exact ⟨_, rfl⟩) ?_; rintro _ _ ⟨βc, d1, d2, d3, e1, e2, e3, KW, KP, KT, rfl, rfl, mC, m1, m2, m3⟩; refine ⟨_, _, rfl, rfl, ?_⟩)
            | (refine chu_Tc rfl rfl rfl rfl rfl rfl rfl rfl (dtake_is ev m3 m1 m2 mC hsm hsk hr) ?_; rintro _ _ ⟨rfl, HW2, HP2, HT2, rfl, mm2⟩; refine ⟨_, _, rfl, rfl, ?_⟩)
            | refine sl_nil ?_
            | refine thn_k ?_
            | refine swp_false rfl ?_
            | refine swp_skip ?_
            )
          exact ⟨rfl, i + 1, next_ok (by repeat first | exact Sub.nil _ | refine Sub.cons rfl ?_), hi2, by omega⟩
    · repeat' (first
        | refine swp_seq ?_
        | (refine gk 0 rfl ?_; first | refine sl_op rfl rfl rfl (by first | exact opv_move rfl rfl | exact opv_assign rfl rfl ) ?_ )
        | (refine gk 2 rfl ?_; first | refine sl_no rfl rfl rfl (by first | exact opv_lss rfl rfl rfl ) (by first | omega ) ?_ )
        | (refine gk 4 rfl ?_; first | refine sl_op rfl rfl rfl (by first | exact opv_len rfl rfl rfl rfl rfl ) ?_)
        | (refine gk 5 rfl ?_; first | refine sl_op rfl rfl rfl (by first | exact opv_build rfl rfl (by exact rfl) ) ?_ | refine sl_store rfl rfl rfl rfl rfl rfl (by exact rfl) rfl (by exact rfl) ?_)
        | refine sl_region rfl ?_
        | refine sl_nil ?_
        | refine thn_k ?_
        | refine swp_false rfl ?_
        | refine swp_ret ?_
        | refine swp_exit ?_
        )
      exact end_retL [specD βd b1 b2 b3 n k c1 c2 c3 δ.rel, HW, HP, HT] (resOk_two (resV_cellA rfl rfl rfl rfl) (resV_tmp rfl)) ⟨⟨0, 0, 0, 0, 0, 0, 0, 0⟩, false, rfl, rfl⟩
  · have hta1 : dcells x = [i64 x.calls, .bool false, i64 x.op, i64 x.obj, i64 x.arg, i64 x.far, i64 x.code, i64 x.val, .bool x.flag, i64 x.saved, i64 x.since] := by rw [dcells, hop]
    rw [hta1] at hta
    refine t_of_body Try.func37 rfl (Nat.le_of_ble_eq_true rfl) fun F => ?_
    repeat' (first
      | refine sl_op rfl rfl rfl (opv_loadEA (vs := [i64 x.calls, .bool false, i64 x.op, i64 x.obj, i64 x.arg, i64 x.far, i64 x.code, i64 x.val, .bool x.flag, i64 x.saved, i64 x.since]) rfl rfl (Nat.succ_pos _) rfl hta) ?_
      | refine swp_seq ?_
      | (refine gk 0 rfl ?_; first | refine sl_op rfl rfl rfl (by first | exact opv_move rfl rfl | exact opv_assign rfl rfl | exact opv_not_f rfl rfl ) ?_ )
      | (refine gk 3 rfl ?_; first | refine sl_op rfl rfl rfl (by first | exact opv_load rfl (by exact rfl) rfl (by exact rfl) | exact opv_fieldAddr rfl rfl | exact opv_indexAddrI rfl rfl rfl (by omega) (by omega) (by first | omega ) ) ?_ )
      | (refine gk 5 rfl ?_; first | refine sl_op rfl rfl rfl (by first | exact opv_nilCheck rfl rfl ) ?_ | refine sl_alloc rfl rfl rfl rfl (by exact rfl) (fun β => ?_) | refine sl_store rfl rfl rfl rfl rfl rfl (by exact rfl) rfl (by exact rfl) ?_)
      | refine sl_region rfl ?_
      | refine sl_nil ?_
      | refine thn_k ?_
      | refine swp_true rfl ?_
      )
    refine sl_drawC [.q [0, 1, 2, 3, 4, 5, 6, 7, 8, 9, 10, 11, 12, 13, 14, 15, 16, 17, 18, 19, 20, 21, 22, 23, 24], .h true 25, .q [26]] [] (by kernel_rfl) (by kernel_rfl) (by kernel_rfl) (by kernel_rfl) ?_
    repeat' (first
      | (refine gk 0 rfl ?_; first | refine sl_op rfl rfl rfl (by first | exact opv_move rfl rfl | exact opv_assign rfl rfl ) ?_ )
      | (refine gk 1 rfl ?_; first | refine sl_op rfl rfl rfl (by first | exact opv_add64 rfl rfl rfl (by omega) (by omega) | exact opv_rem rfl rfl rfl (by omega) | exact opv_quo rfl rfl rfl (by omega) ) ?_ )
      | (refine gk 3 rfl ?_; first | refine sl_op rfl rfl rfl (by first | exact opv_load rfl (by exact rfl) rfl (by exact rfl) | exact opv_fieldAddr rfl rfl ) ?_ )
      | (refine gk 4 rfl ?_; first | refine sl_op rfl rfl rfl (by first | exact opv_len rfl rfl rfl rfl rfl ) ?_)
      | (refine gk 5 rfl ?_; first | refine sl_op rfl rfl rfl (by first | exact opv_nilCheck rfl rfl | exact opv_build rfl rfl (by exact rfl) | exact opv_convert rfl rfl ) ?_ )
      | refine chu_nil ?_
      | refine chu_q rfl ?_
      | refine chu_store rfl rfl rfl rfl rfl rfl (by exact rfl) rfl (by exact rfl) (by exact rfl) ?_
      | refine sl_nil ?_
      | refine thn_k ?_
      | refine swp_ret ?_
      | refine thn_ret ?_
      )
    exact end_retL [specD βd b1 b2 b3 n k c1 c2 c3 δ.rel, HW, HP, HT] (resOk_two (resV_cellA rfl rfl rfl rfl) (resV_tmp rfl)) ⟨⟨0, (t : Int), x.calls, IntKind.i64.wrap ((q : Int).tmod 10), (IntKind.i64.wrap (p : Int)).tmod (k : Int), (IntKind.i64.wrap (IntKind.u8.wrap ((p : Int).tdiv 8))).tmod ((n : Int) + 1), 0, 0⟩, true, rfl, rfl⟩
end
end Go.Proofs.Ytimmclibnfdjhaa
end
