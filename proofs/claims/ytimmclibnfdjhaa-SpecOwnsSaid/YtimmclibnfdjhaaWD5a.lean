/- The document's automaton: acts (dact_0). -/
import Derived.Test.YtimmclibnfdjhaaWD6
set_option linter.unusedVariables false
set_option linter.unusedSimpArgs false
set_option linter.unusedSectionVars false
set_option linter.unusedVariables false
set_option linter.unusedSimpArgs false
set_option linter.unusedSectionVars false
namespace Go.Proofs.Ytimmclibnfdjhaa
open Go.SL
set_option maxRecDepth 100000
set_option maxHeartbeats 16000000
attribute [local irreducible] SL.T PFn OpV SOL SWP HOp ChU
-- CHANGES 63 64 65
section
variable {βd : Nat} {b1 b2 b3 : Option Addr} {n k c1 c2 c3 : Nat}
theorem dact_0 {HW HP HT : Heap} {δ : DS} {x : DT} {e : Ev} [nn : NN b3] [n1 : NN b1] [n2 : NN b2] (m : MemD b1 b2 b3 n k c1 c2 c3 HW HP HT δ) (hsm : n ≤ 1000000) (hsk : k ≤ 1000000) (h0 : 0 ≤ e.thread ∧ e.thread < n) (h : δ.th[e.thread.toNat]? = some x) (hno : ¬ noD n k x e) {ow dp : Int} (how : δ.ow[e.obj.toNat]? = some ow) (hdp : δ.dp[e.obj.toNat]? = some dp) (hop : x.op = 0) :
    SL.T Try.prog 54 [ptr βd, .agg ⟨ecells e⟩] [specD βd b1 b2 b3 n k c1 c2 c3 δ.rel, HW, HP, HT] (RetD βd b1 b2 b3 n k c1 c2 c3 (stepD δ e.thread.toNat e.obj.toNat x ow dp e)) := by
  obtain ⟨osW, osP, os, hn, hk, hd⟩ := id m
  haveI slT := os.sl
  haveI slW := osW.sl
  haveI slP := osP.sl
  have hl := dts_length δ.th
  have htl : e.thread.toNat < δ.th.length := (List.getElem?_eq_some_iff.1 h).1
  have hl1 : e.thread.toNat * 11 < (dts δ.th).length := by omega
  have a1 : (dts δ.th)[e.thread.toNat * 11 + 1]? = some (.bool x.opn) := dts_at h 1 _ rfl
  have a2 : (dts δ.th)[e.thread.toNat * 11 + 2]? = some (i64 x.op) := dts_at h 2 _ rfl
  have a3 : (dts δ.th)[e.thread.toNat * 11 + 2 + 1]? = some (i64 x.obj) := dts_at h 3 _ rfl
  have a4 : (dts δ.th)[e.thread.toNat * 11 + 2 + 2]? = some (i64 x.arg) := dts_at h 4 _ rfl
  have a5 : (dts δ.th)[e.thread.toNat * 11 + 5]? = some (i64 x.far) := dts_at h 5 _ rfl
  have lW : (δ.ow.map i64).length = k := by simp [hk]
  have lP : (δ.dp.map i64).length = k := by simp [hd]
  have hwc := dwrong_calls (βd := βd) (b1 := b1) (b2 := b2) (b3 := b3) (n := n) (k := k) (c1 := c1) (c2 := c2) (c3 := c3) (rel := δ.rel) x.op x.obj x.arg
  have hno' := hno
  unfold noD wrongB at hno'
  simp only [not_or] at hno'
  obtain ⟨q1, ⟨w1, w2, w3, w4, w5⟩, q2, q3⟩ := hno'
  have q1 : x.opn = true := by simpa using q1
  have q2 : e.obj = x.obj := Classical.byContradiction q2
  rw [q1] at a1
  have hw0 : ¬ wrongB n k x.op x.obj x.arg := fun hh => hno (.inr (.inl hh))
  have hwf := hwc.to (congrArg Value.bool (decide_eq_false hw0))
  clear hwc
  have hWk : (δ.ow.map i64)[e.obj.toNat * 1]? = some (i64 ow) := by simp [how]
  have hPk : (δ.dp.map i64)[e.obj.toNat * 1]? = some (i64 dp) := by simp [hdp]
  have hkW : e.obj.toNat < δ.ow.length := by omega
  have hkP : e.obj.toNat < δ.dp.length := by omega
  have sW := fun z => ints_set (x := z) hkW
  have sP := fun z => ints_set (x := z) hkP
  have a20 : (dts δ.th)[e.thread.toNat * 11 + 2 + 0]? = some (i64 x.op) := a2
  have fin : ∀ r, stepD δ e.thread.toNat e.obj.toNat x ow dp e = r → SL.T Try.prog 54 [ptr βd, .agg ⟨ecells e⟩] [specD βd b1 b2 b3 n k c1 c2 c3 δ.rel, HW, HP, HT] (RetD βd b1 b2 b3 n k c1 c2 c3 r) → SL.T Try.prog 54 [ptr βd, .agg ⟨ecells e⟩] [specD βd b1 b2 b3 n k c1 c2 c3 δ.rel, HW, HP, HT] (RetD βd b1 b2 b3 n k c1 c2 c3 (stepD δ e.thread.toNat e.obj.toNat x ow dp e)) := fun r e h => by rw [e]; exact h
  unfold RetD at fin ⊢
  have hfi := fun c v => finish_calls c v os h
  by_cases hown : ow = e.thread
  · by_cases hc : e.act = 0 ∧ e.other = 0
    · refine fin (true, (δ.obj e.obj.toNat e.thread (inc dp)).mod e.thread.toNat (dfin · 0 0)) (by unfold stepD; rw [if_pos hop, if_pos (by omega)]) ?_
      have hfi4 := hfi 0 0
      rw [← mod_set (f := (dfin · 0 0)) h] at hfi4
      refine t_of_body Try.func54 rfl (Nat.le_of_ble_eq_true rfl) fun F => ?_
      repeat' ((fail_if_success (refine stop_at2 9 ?_)); (first
        | refine swp_seq ?_
        | (refine gk 0 rfl ?_; first | refine sl_op rfl rfl rfl (by first | exact opv_move rfl rfl | exact opv_assign rfl rfl | exact opv_pick_t rfl rfl rfl | exact opv_pick_f rfl rfl rfl | exact opv_not_t rfl rfl ) ?_ | refine sl_pass rfl rfl rfl rfl ?_)
        | (refine gk 2 rfl ?_; first | refine sl_pass rfl rfl rfl rfl ?_ | refine sl_yes rfl rfl rfl (by first | exact opv_eql rfl rfl rfl | exact opv_neq rfl rfl rfl) (by first | omega ) ?_ | refine sl_no rfl rfl rfl (by first | exact opv_eql rfl rfl rfl | exact opv_neq rfl rfl rfl) (by first | omega ) ?_ )
        | (refine gk 3 rfl ?_; first | refine sl_op rfl rfl rfl (by first | exact opv_load rfl (by exact rfl) rfl (by exact rfl) | exact opv_fieldAddr rfl rfl | exact opv_indexAddrI rfl rfl rfl (by omega) (by omega) (by first | omega ) | exact opv_fieldAddrE rfl rfl (by first | assumption | omega) | exact opv_loadEx rfl (by exact rfl) (by infer_instance) (by first | assumption ) | exact opv_load3 rfl (by exact rfl) (by infer_instance) (by assumption) (by assumption) (by assumption)) ?_ | refine sl_pass rfl rfl rfl rfl ?_)
        | (refine gk 4 rfl ?_; first | refine sl_op rfl rfl rfl (opv_call rfl rfl rfl rfl rfl (hwf)) ?_)
        | (refine gk 5 rfl ?_; first | refine sl_op rfl rfl rfl (by first | exact opv_nilCheck rfl rfl | exact opv_nilCheckE rfl rfl ) ?_ | refine sl_pass rfl rfl rfl rfl ?_ | refine sl_box rfl rfl rfl rfl rfl rfl (fun β => ?_) )
        | refine sl_region rfl ?_
        | refine sl_draw (by kernel_rfl) (by kernel_rfl) rfl ?_
        | refine sl_nil ?_
        | refine thn_k ?_
        | refine swp_true rfl ?_
        | refine swp_false rfl ?_
        | refine swp_block ?_
        | refine swp_skip ?_
        ))
      repeat' (first
        | refine swp_seq ?_
        )
      refine sl_drawC [.q [0, 1, 2, 3, 4, 5, 6, 7], .h true 8] [] (by kernel_rfl) (by kernel_rfl) (by kernel_rfl) (by kernel_rfl) ?_
      repeat' (first
        | (refine sl_storeE rfl rfl rfl rfl rfl osP rfl rfl rfl (Nat.succ_pos _) (by simp; omega) (sP (inc dp)) (fun HP2 osP2 => ?_); haveI slHP2 := osP2.sl)
        | refine swp_seq ?_
        | (refine gk 0 rfl ?_; first | refine sl_op rfl rfl rfl (by first | exact opv_move rfl rfl | exact opv_assign rfl rfl ) ?_ )
        | (refine gk 1 rfl ?_; first | refine sl_op rfl rfl rfl (by first | exact opv_add rfl rfl rfl ) ?_ )
        | (refine gk 3 rfl ?_; first | refine sl_op rfl rfl rfl (by first | exact opv_load rfl (by exact rfl) rfl (by exact rfl) | exact opv_fieldAddr rfl rfl | exact opv_indexAddrI rfl rfl rfl (by omega) (by omega) (by first | omega ) | exact opv_loadEx rfl (by exact rfl) (by infer_instance) (by first | assumption ) ) ?_ )
        | (refine gk 4 rfl ?_; first | (refine sl_callT rfl rfl rfl rfl rfl rfl rfl rfl (hfi4) ?_; rintro _ _ ⟨rfl, HT2, rfl, os2⟩; refine ⟨_, _, rfl, rfl, ?_⟩))
        | (refine gk 5 rfl ?_; first | refine sl_op rfl rfl rfl (by first | exact opv_nilCheck rfl rfl ) ?_ )
        | refine sl_region rfl ?_
        | refine chu_nil ?_
        | refine chu_q rfl ?_
        | (refine chu_storeE rfl rfl rfl rfl rfl rfl osW rfl rfl rfl (Nat.succ_pos _) (by simp; omega) (sW e.thread) (fun HW2 osW2 => ?_); haveI slHW2 := osW2.sl)
        | refine sl_nil ?_
        | refine thn_k ?_
        | refine swp_ret ?_
        | refine thn_ret ?_
        | refine inb_ret ?_
        )
      exact end_retL [specD βd b1 b2 b3 n k c1 c2 c3 δ.rel, HW2, HP2, HT2] (resOk_one (resV_tmp rfl)) ⟨rfl, HW2, HP2, HT2, rfl, osW2, osP2, os2, by simp [DS.mod, DS.obj, hn], by simp [DS.mod, DS.obj, hk], by simp [DS.mod, DS.obj, hd]⟩
    · by_cases hr : e.act = 8 ∧ (e.other = 5 ∨ e.other = 3)
      · refine fin (true, δ.mod e.thread.toNat (dfin · e.other 0)) (by unfold stepD; rw [if_pos hop, if_neg (by omega), if_pos (by omega)]) ?_
        have hfi4 := hfi e.other 0
        rw [← mod_set (f := (dfin · e.other 0)) h] at hfi4
        refine t_of_body Try.func54 rfl (Nat.le_of_ble_eq_true rfl) fun F => ?_
        repeat' (first
          | refine swp_seq ?_
          | (refine gk 0 rfl ?_; first | refine sl_op rfl rfl rfl (by first | exact opv_move rfl rfl | exact opv_assign rfl rfl | exact opv_pick_t rfl rfl rfl | exact opv_pick_f rfl rfl rfl | exact opv_not_t rfl rfl ) ?_ | refine sl_pass rfl rfl rfl rfl ?_)
          | (refine gk 2 rfl ?_; first | refine sl_pass rfl rfl rfl rfl ?_ | refine sl_yes rfl rfl rfl (by first | exact opv_eql rfl rfl rfl | exact opv_neq rfl rfl rfl) (by first | omega ) ?_ | refine sl_no rfl rfl rfl (by first | exact opv_eql rfl rfl rfl | exact opv_neq rfl rfl rfl) (by first | omega ) ?_ | refine sl_if rfl rfl rfl (by first | exact opv_eql rfl rfl rfl ) (fun h => ?_) (fun h => ?_) )
          | (refine gk 3 rfl ?_; first | refine sl_op rfl rfl rfl (by first | exact opv_load rfl (by exact rfl) rfl (by exact rfl) | exact opv_fieldAddr rfl rfl | exact opv_indexAddrI rfl rfl rfl (by omega) (by omega) (by first | omega ) | exact opv_fieldAddrE rfl rfl (by first | assumption | omega) | exact opv_loadEx rfl (by exact rfl) (by infer_instance) (by first | assumption ) | exact opv_load3 rfl (by exact rfl) (by infer_instance) (by assumption) (by assumption) (by assumption)) ?_ | refine sl_pass rfl rfl rfl rfl ?_)
          | (refine gk 4 rfl ?_; first | refine sl_op rfl rfl rfl (opv_call rfl rfl rfl rfl rfl (hwf)) ?_ | (refine sl_callT rfl rfl rfl rfl rfl rfl rfl rfl (hfi4) ?_; rintro _ _ ⟨rfl, HT2, rfl, os2⟩; refine ⟨_, _, rfl, rfl, ?_⟩))
          | (refine gk 5 rfl ?_; first | refine sl_op rfl rfl rfl (by first | exact opv_nilCheck rfl rfl | exact opv_nilCheckE rfl rfl ) ?_ | refine sl_pass rfl rfl rfl rfl ?_ | refine sl_box rfl rfl rfl rfl rfl rfl (fun β => ?_) )
          | refine sl_region rfl ?_
          | refine sl_draw (by kernel_rfl) (by kernel_rfl) rfl ?_
          | refine sl_nil ?_
          | refine thn_k ?_
          | refine swp_true rfl ?_
          | refine swp_false rfl ?_
          | refine swp_block ?_
          | refine swp_ret ?_
          | refine swp_skip ?_
          | refine thn_ret ?_
          | refine inb_ret ?_
          )
        all_goals exact end_retL [specD βd b1 b2 b3 n k c1 c2 c3 δ.rel, HW, HP, HT2] (resOk_one (resV_tmp rfl)) ⟨rfl, HW, HP, HT2, rfl, m.mod os2⟩
      · refine fin (false, δ) (by unfold stepD; rw [if_pos hop, if_neg (by omega), if_neg (by omega)]) ?_
        refine t_of_body Try.func54 rfl (Nat.le_of_ble_eq_true rfl) fun F => ?_
        repeat' (first
          | refine swp_seq ?_
          | (refine gk 0 rfl ?_; first | refine sl_op rfl rfl rfl (by first | exact opv_move rfl rfl | exact opv_assign rfl rfl | exact opv_pick_t rfl rfl rfl | exact opv_pick_f rfl rfl rfl | exact opv_not_t rfl rfl ) ?_ | refine sl_pass rfl rfl rfl rfl ?_)
          | (refine gk 2 rfl ?_; first | refine sl_pass rfl rfl rfl rfl ?_ | refine sl_yes rfl rfl rfl (by first | exact opv_eql rfl rfl rfl | exact opv_neq rfl rfl rfl) (by first | omega ) ?_ | refine sl_no rfl rfl rfl (by first | exact opv_eql rfl rfl rfl | exact opv_neq rfl rfl rfl) (by first | omega ) ?_ | refine sl_if rfl rfl rfl (by first | exact opv_eql rfl rfl rfl ) (fun h => ?_) (fun h => ?_) )
          | (refine gk 3 rfl ?_; first | refine sl_op rfl rfl rfl (by first | exact opv_load rfl (by exact rfl) rfl (by exact rfl) | exact opv_fieldAddr rfl rfl | exact opv_indexAddrI rfl rfl rfl (by omega) (by omega) (by first | omega ) | exact opv_fieldAddrE rfl rfl (by first | assumption | omega) | exact opv_loadEx rfl (by exact rfl) (by infer_instance) (by first | assumption ) | exact opv_load3 rfl (by exact rfl) (by infer_instance) (by assumption) (by assumption) (by assumption)) ?_ | refine sl_pass rfl rfl rfl rfl ?_)
          | (refine gk 4 rfl ?_; first | refine sl_pass rfl rfl rfl rfl ?_ | refine sl_op rfl rfl rfl (opv_call rfl rfl rfl rfl rfl (hwf)) ?_)
          | (refine gk 5 rfl ?_; first | refine sl_op rfl rfl rfl (by first | exact opv_nilCheck rfl rfl | exact opv_nilCheckE rfl rfl ) ?_ | refine sl_pass rfl rfl rfl rfl ?_ | refine sl_box rfl rfl rfl rfl rfl rfl (fun β => ?_) )
          | refine sl_region rfl ?_
          | refine sl_draw (by kernel_rfl) (by kernel_rfl) rfl ?_
          | refine sl_nil ?_
          | refine thn_k ?_
          | refine swp_true rfl ?_
          | refine swp_false rfl ?_
          | refine swp_block ?_
          | refine swp_ret ?_
          | refine swp_skip ?_
          | refine thn_ret ?_
          | refine inb_ret ?_
          )
        all_goals exact end_retL [specD βd b1 b2 b3 n k c1 c2 c3 δ.rel, HW, HP, HT] (resOk_one (resV_tmp rfl)) ⟨rfl, HW, HP, HT, rfl, m⟩
  · by_cases hc : e.act = 0 ∧ e.other = 0 ∧ ow < 0
    · refine fin (true, (δ.obj e.obj.toNat e.thread (inc dp)).mod e.thread.toNat (dfin · 0 0)) (by unfold stepD; rw [if_pos hop, if_pos (by omega)]) ?_
      have hfi4 := hfi 0 0
      rw [← mod_set (f := (dfin · 0 0)) h] at hfi4
      refine t_of_body Try.func54 rfl (Nat.le_of_ble_eq_true rfl) fun F => ?_
      repeat' ((fail_if_success (refine stop_at2 9 ?_)); (first
        | refine swp_seq ?_
        | (refine gk 0 rfl ?_; first | refine sl_op rfl rfl rfl (by first | exact opv_move rfl rfl | exact opv_assign rfl rfl | exact opv_pick_t rfl rfl rfl | exact opv_pick_f rfl rfl rfl | exact opv_not_t rfl rfl ) ?_ )
        | (refine gk 2 rfl ?_; first | refine sl_yes rfl rfl rfl (by first | exact opv_lss rfl rfl rfl | exact opv_eql rfl rfl rfl | exact opv_neq rfl rfl rfl) (by first | omega ) ?_ | refine sl_no rfl rfl rfl (by first | exact opv_eql rfl rfl rfl | exact opv_neq rfl rfl rfl) (by first | omega ) ?_ )
        | (refine gk 3 rfl ?_; first | refine sl_op rfl rfl rfl (by first | exact opv_load rfl (by exact rfl) rfl (by exact rfl) | exact opv_fieldAddr rfl rfl | exact opv_indexAddrI rfl rfl rfl (by omega) (by omega) (by first | omega ) | exact opv_fieldAddrE rfl rfl (by first | assumption | omega) | exact opv_loadEx rfl (by exact rfl) (by infer_instance) (by first | assumption ) | exact opv_load3 rfl (by exact rfl) (by infer_instance) (by assumption) (by assumption) (by assumption)) ?_ )
        | (refine gk 4 rfl ?_; first | refine sl_op rfl rfl rfl (opv_call rfl rfl rfl rfl rfl (hwf)) ?_)
        | (refine gk 5 rfl ?_; first | refine sl_op rfl rfl rfl (by first | exact opv_nilCheck rfl rfl | exact opv_nilCheckE rfl rfl ) ?_ | refine sl_box rfl rfl rfl rfl rfl rfl (fun β => ?_) )
        | refine sl_region rfl ?_
        | refine sl_draw (by kernel_rfl) (by kernel_rfl) rfl ?_
        | refine sl_nil ?_
        | refine thn_k ?_
        | refine swp_true rfl ?_
        | refine swp_false rfl ?_
        | refine swp_block ?_
        | refine swp_skip ?_
        ))
      repeat' (first
        | refine swp_seq ?_
        )
      refine sl_drawC [.q [0, 1, 2, 3, 4, 5, 6, 7], .h true 8] [] (by kernel_rfl) (by kernel_rfl) (by kernel_rfl) (by kernel_rfl) ?_
      repeat' (first
        | (refine sl_storeE rfl rfl rfl rfl rfl osP rfl rfl rfl (Nat.succ_pos _) (by simp; omega) (sP (inc dp)) (fun HP2 osP2 => ?_); haveI slHP2 := osP2.sl)
        | refine swp_seq ?_
        | (refine gk 0 rfl ?_; first | refine sl_op rfl rfl rfl (by first | exact opv_move rfl rfl | exact opv_assign rfl rfl ) ?_ )
        | (refine gk 1 rfl ?_; first | refine sl_op rfl rfl rfl (by first | exact opv_add rfl rfl rfl ) ?_ )
        | (refine gk 3 rfl ?_; first | refine sl_op rfl rfl rfl (by first | exact opv_load rfl (by exact rfl) rfl (by exact rfl) | exact opv_fieldAddr rfl rfl | exact opv_indexAddrI rfl rfl rfl (by omega) (by omega) (by first | omega ) | exact opv_loadEx rfl (by exact rfl) (by infer_instance) (by first | assumption ) ) ?_ )
        | (refine gk 4 rfl ?_; first | (refine sl_callT rfl rfl rfl rfl rfl rfl rfl rfl (hfi4) ?_; rintro _ _ ⟨rfl, HT2, rfl, os2⟩; refine ⟨_, _, rfl, rfl, ?_⟩))
        | (refine gk 5 rfl ?_; first | refine sl_op rfl rfl rfl (by first | exact opv_nilCheck rfl rfl ) ?_ )
        | refine sl_region rfl ?_
        | refine chu_nil ?_
        | refine chu_q rfl ?_
        | (refine chu_storeE rfl rfl rfl rfl rfl rfl osW rfl rfl rfl (Nat.succ_pos _) (by simp; omega) (sW e.thread) (fun HW2 osW2 => ?_); haveI slHW2 := osW2.sl)
        | refine sl_nil ?_
        | refine thn_k ?_
        | refine swp_ret ?_
        | refine thn_ret ?_
        | refine inb_ret ?_
        )
      exact end_retL [specD βd b1 b2 b3 n k c1 c2 c3 δ.rel, HW2, HP2, HT2] (resOk_one (resV_tmp rfl)) ⟨rfl, HW2, HP2, HT2, rfl, osW2, osP2, os2, by simp [DS.mod, DS.obj, hn], by simp [DS.mod, DS.obj, hk], by simp [DS.mod, DS.obj, hd]⟩
    · by_cases hr : e.act = 8 ∧ e.other = 3
      · refine fin (true, δ.mod e.thread.toNat (dfin · e.other 0)) (by unfold stepD; rw [if_pos hop, if_neg (by omega), if_pos (by omega)]) ?_
        have hfi4 := hfi e.other 0
        rw [← mod_set (f := (dfin · e.other 0)) h] at hfi4
        refine t_of_body Try.func54 rfl (Nat.le_of_ble_eq_true rfl) fun F => ?_
        repeat' (first
          | refine swp_seq ?_
          | (refine gk 0 rfl ?_; first | refine sl_op rfl rfl rfl (by first | exact opv_move rfl rfl | exact opv_assign rfl rfl | exact opv_pick_t rfl rfl rfl | exact opv_pick_f rfl rfl rfl | exact opv_not_t rfl rfl ) ?_ | refine sl_pass rfl rfl rfl rfl ?_)
          | (refine gk 2 rfl ?_; first | refine sl_pass rfl rfl rfl rfl ?_ | refine sl_yes rfl rfl rfl (by first | exact opv_eql rfl rfl rfl | exact opv_neq rfl rfl rfl) (by first | omega ) ?_ | refine sl_no rfl rfl rfl (by first | exact opv_eql rfl rfl rfl | exact opv_neq rfl rfl rfl) (by first | omega ) ?_ )
          | (refine gk 3 rfl ?_; first | refine sl_op rfl rfl rfl (by first | exact opv_load rfl (by exact rfl) rfl (by exact rfl) | exact opv_fieldAddr rfl rfl | exact opv_indexAddrI rfl rfl rfl (by omega) (by omega) (by first | omega ) | exact opv_fieldAddrE rfl rfl (by first | assumption | omega) | exact opv_loadEx rfl (by exact rfl) (by infer_instance) (by first | assumption ) | exact opv_load3 rfl (by exact rfl) (by infer_instance) (by assumption) (by assumption) (by assumption)) ?_ | refine sl_pass rfl rfl rfl rfl ?_)
          | (refine gk 4 rfl ?_; first | refine sl_op rfl rfl rfl (opv_call rfl rfl rfl rfl rfl (hwf)) ?_ | (refine sl_callT rfl rfl rfl rfl rfl rfl rfl rfl (hfi4) ?_; rintro _ _ ⟨rfl, HT2, rfl, os2⟩; refine ⟨_, _, rfl, rfl, ?_⟩))
          | (refine gk 5 rfl ?_; first | refine sl_op rfl rfl rfl (by first | exact opv_nilCheck rfl rfl | exact opv_nilCheckE rfl rfl ) ?_ | refine sl_pass rfl rfl rfl rfl ?_ | refine sl_box rfl rfl rfl rfl rfl rfl (fun β => ?_) )
          | refine sl_region rfl ?_
          | refine sl_draw (by kernel_rfl) (by kernel_rfl) rfl ?_
          | refine sl_nil ?_
          | refine thn_k ?_
          | refine swp_true rfl ?_
          | refine swp_false rfl ?_
          | refine swp_block ?_
          | refine swp_ret ?_
          | refine swp_skip ?_
          | refine thn_ret ?_
          | refine inb_ret ?_
          )
        all_goals exact end_retL [specD βd b1 b2 b3 n k c1 c2 c3 δ.rel, HW, HP, HT2] (resOk_one (resV_tmp rfl)) ⟨rfl, HW, HP, HT2, rfl, m.mod os2⟩
      · refine fin (false, δ) (by unfold stepD; rw [if_pos hop, if_neg (by omega), if_neg (by omega)]) ?_
        refine t_of_body Try.func54 rfl (Nat.le_of_ble_eq_true rfl) fun F => ?_
        repeat' (first
          | refine swp_seq ?_
          | (refine gk 0 rfl ?_; first | refine sl_op rfl rfl rfl (by first | exact opv_move rfl rfl | exact opv_assign rfl rfl | exact opv_pick_t rfl rfl rfl | exact opv_pick_f rfl rfl rfl | exact opv_not_t rfl rfl ) ?_ | refine sl_pass rfl rfl rfl rfl ?_)
          | (refine gk 2 rfl ?_; first | refine sl_pass rfl rfl rfl rfl ?_ | refine sl_yes rfl rfl rfl (by first | exact opv_lss rfl rfl rfl | exact opv_eql rfl rfl rfl | exact opv_neq rfl rfl rfl) (by first | omega ) ?_ | refine sl_no rfl rfl rfl (by first | exact opv_lss rfl rfl rfl | exact opv_eql rfl rfl rfl | exact opv_neq rfl rfl rfl) (by first | omega ) ?_ | refine sl_if rfl rfl rfl (by first | exact opv_eql rfl rfl rfl ) (fun h => ?_) (fun h => ?_) )
          | (refine gk 3 rfl ?_; first | refine sl_op rfl rfl rfl (by first | exact opv_load rfl (by exact rfl) rfl (by exact rfl) | exact opv_fieldAddr rfl rfl | exact opv_indexAddrI rfl rfl rfl (by omega) (by omega) (by first | omega ) | exact opv_fieldAddrE rfl rfl (by first | assumption | omega) | exact opv_loadEx rfl (by exact rfl) (by infer_instance) (by first | assumption ) | exact opv_load3 rfl (by exact rfl) (by infer_instance) (by assumption) (by assumption) (by assumption)) ?_ | refine sl_pass rfl rfl rfl rfl ?_)
          | (refine gk 4 rfl ?_; first | refine sl_pass rfl rfl rfl rfl ?_ | refine sl_op rfl rfl rfl (opv_call rfl rfl rfl rfl rfl (hwf)) ?_)
          | (refine gk 5 rfl ?_; first | refine sl_op rfl rfl rfl (by first | exact opv_nilCheck rfl rfl | exact opv_nilCheckE rfl rfl ) ?_ | refine sl_pass rfl rfl rfl rfl ?_ | refine sl_box rfl rfl rfl rfl rfl rfl (fun β => ?_) )
          | refine sl_region rfl ?_
          | refine sl_draw (by kernel_rfl) (by kernel_rfl) rfl ?_
          | refine sl_nil ?_
          | refine thn_k ?_
          | refine swp_true rfl ?_
          | refine swp_false rfl ?_
          | refine swp_block ?_
          | refine swp_ret ?_
          | refine swp_skip ?_
          | refine thn_ret ?_
          | refine inb_ret ?_
          )
        all_goals exact end_retL [specD βd b1 b2 b3 n k c1 c2 c3 δ.rel, HW, HP, HT] (resOk_one (resV_tmp rfl)) ⟨rfl, HW, HP, HT, rfl, m⟩
end
end Go.Proofs.Ytimmclibnfdjhaa
