/- SpecCopies, walked (draft). -/
import Derived.Test.YtimmclibnfdjhaaWC5p
import Derived.Test.YtimmclibnfdjhaaWC3
import Derived.Test.YtimmclibnfdjhaaWB21
import Derived.Test.YtimmclibnfdjhaaWB20
import Derived.Test.YtimmclibnfdjhaaSlG3
set_option linter.unusedVariables false
set_option linter.unusedSimpArgs false
set_option linter.unusedSectionVars false
section
namespace Go.Proofs.Ytimmclibnfdjhaa
open Go.SL
set_option maxRecDepth 100000
set_option maxHeartbeats 16000000
attribute [local irreducible] SL.T PFn OpV SOL SWP HOp ChU
theorem copies_calls {BB : Heap} {bb : Option Addr} {bl bc : Nat} {zs : List Nat} (a b p : Nat) (w v z : Int) (ha : a < 256) (hb : b < 256) (hp : p < 256) [slB : Sl BB bb (zs.map fun z : Nat => Value.int .u8 (z : Int))] (hz : ∀ z ∈ zs, z < 256) (hm : zs.length = bl) (hbc : bl ≤ bc) (hml : bl ≤ 9223372036854775807) :
    PFn Try.prog 5 [.agg ⟨[.int .u8 (a : Int), .int .u8 (b : Int), .slice bb bl bc]⟩, .int .u8 (p : Int), .agg ⟨[.int .u8 w, .int .u8 v, .int .i8 z]⟩] [BB] (.bool true) := by
  have hw := works_calls
  have hs := size_calls a b ha hb bb bl bc
  have hD := drawnwalk_calls (BB := BB) (bb := bb) (bc := bc) a b ha hb hz hm hbc hml
  unfold WalkQ at hD
  have hnT : 1 ≤ nT a ∧ nT a ≤ 4 := by unfold nT; omega
  have hnO : 1 ≤ nO b ∧ nO b ≤ 3 := by unfold nO; omega
  have hN := new_any (nT a) (nO b) hnT.1 (by omega) hnO.1 hnO.2
  have hpw : Value.int .i64 (IntKind.i64.wrap ((p : Nat) : Int)) = .int .i64 ((p : Nat) : Int) := by rw [wrapN (by omega)]
  refine pure_of_body Try.func5 rfl (Nat.le_of_ble_eq_true rfl) fun F => ?_
  repeat' ((fail_if_success (refine stop_at 6 ?_)); (first
    | refine swp_seq ?_
    | (refine gk 0 rfl ?_; first | refine sl_op rfl rfl rfl (by first | exact opv_move rfl rfl | exact opv_assign rfl rfl | exact opv_not_t rfl rfl | exact opv_extract rfl rfl rfl ) ?_ )
    | (refine gk 3 rfl ?_; first | refine sl_op rfl rfl rfl (by first | exact opv_loadA rfl (by exact rfl) rfl (by exact rfl) (by exact rfl) ) ?_ )
    | (refine gk 4 rfl ?_; first | refine sl_op rfl rfl rfl (opv_call rfl rfl rfl rfl rfl (hw)) ?_ | refine sl_op rfl rfl rfl (opv_call rfl rfl rfl rfl rfl (hs)) ?_ | (refine sl_callT rfl rfl rfl rfl rfl rfl rfl rfl (hD) ?_; rintro _ _ ⟨N, be, ce, es, rfl, rfl, osE, hel, htk⟩; refine ⟨_, _, rfl, rfl, ?_⟩))
    | (refine gk 5 rfl ?_; first | refine sl_box rfl rfl rfl rfl rfl rfl (fun β => ?_) )
    | refine sl_region rfl ?_
    | refine sl_nil ?_
    | refine thn_k ?_
    | refine swp_false rfl ?_
    | refine swp_skip ?_
    ))
  obtain ⟨hall, -⟩ := walk_bis (new_rel (nT a) (nO b)) (newF_wf (nT a) (nO b)) htk
  have hes : es.length ≤ 600 := by omega
  have slE := osE.sl
  have hlen := osE.hlen
  have hle := osE.hle
  obtain ⟨K, hK⟩ : ∃ K : Nat, K = if 0 < es.length then p % es.length else 0 := ⟨_, rfl⟩
  have hKl : K ≤ es.length := by
    rw [hK]; split
    · exact Nat.le_of_lt (Nat.mod_lt _ (by assumption))
    · omega
  have hsplit : es = es.take K ++ es.drop K := (List.take_append_drop K es).symm
  obtain ⟨q1, q2⟩ := takesF_append (l1 := es.take K) (l2 := es.drop K) (σ := newF (nT a) (nO b)) (by rw [← hsplit]; exact hall)
  have hF1 : takesF (newF (nT a) (nO b)) (es.take K) = (true, (takesF (newF (nT a) (nO b)) (es.take K)).2) := Prod.ext q1 rfl
  generalize (takesF (newF (nT a) (nO b)) (es.take K)).2 = σ1 at hF1 q2
  rw [← hsplit] at q2
  have hF2 : takesF σ1 (es.drop K) = (true, (takesF σ1 (es.drop K)).2) := Prod.ext (by rw [q2]; exact hall) rfl
  generalize (takesF σ1 (es.drop K)).2 = σ2 at hF2
  have sl1 : Unit → Sl N be (evs (es.take K)) := fun _ => by rw [evs_take es K hKl]; exact slE.take _
  have sl2 : Unit → Sl N (sub be K ce 8) (evs (es.drop K)) := fun _ => by rw [evs_drop es K hKl]; exact slE.drop K ce 8 (by rw [hlen]; omega)
  have hl1 : (es.take K).length = K := by simp; omega
  have hl2 : (es.drop K).length = es.length - K := by simp
  by_cases hpos : 0 < es.length
  · rw [if_pos hpos] at hK
    have hKp : K < es.length := by rw [hK]; exact Nat.mod_lt _ hpos
    have hrk : Value.int .i64 (((p : Nat) : Int).tmod ((es.length : Nat) : Int)) = i64 ((K : Nat) : Int) := by rw [hK, tm (by omega)]; rfl
    obtain ⟨ev, hev⟩ : ∃ ev, es[K]? = some ev := ⟨_, List.getElem?_eq_getElem hKp⟩
    have hea := evs_at hev
    have hil : ((K : Nat) : Int).toNat * 8 < (evs es).length := by rw [hlen]; simp; omega
    clear hsplit hK
    repeat' (first
      | refine sl_op rfl rfl rfl ((opv_convert rfl rfl).to hpw) ?_
      | refine sl_op rfl rfl rfl ((opv_rem rfl rfl rfl (by omega)).to hrk) ?_
      | refine swp_seq ?_
      | (refine gk 0 rfl ?_; first | refine sl_op rfl rfl rfl (by first | exact opv_move rfl rfl | exact opv_assign rfl rfl | exact opv_pick_f rfl rfl rfl | exact opv_not_t rfl rfl ) ?_ )
      | (refine gk 2 rfl ?_; first | refine sl_yes rfl rfl rfl (by first | exact opv_lss rfl rfl rfl | exact opv_gtr rfl rfl rfl | exact opv_neq rfl rfl rfl) (by first | omega ) ?_ | refine sl_no rfl rfl rfl (by first | exact opv_neq rfl rfl rfl) (by first | omega ) ?_ )
      | (refine gk 4 rfl ?_; first | refine sl_op rfl rfl rfl (by first | exact opv_len rfl rfl rfl rfl rfl ) ?_ | (refine sl_callT rfl rfl rfl rfl rfl rfl rfl rfl (hN) ?_; rintro _ _ ⟨βs, bt, bo, HT, HO, OP, rfl, rfl, au⟩; refine ⟨_, _, rfl, rfl, ?_⟩) | (refine sl_callT rfl rfl rfl rfl rfl rfl rfl rfl (takes_any (βs := βs) (r := 0) (es.take K) (sl1 ()) au (by omega) (by omega) (hl1.trans rfl) (by first | omega ) hF1 rfl rfl) ?_; rintro _ _ ⟨rfl, HT1, HO1, OP1, rfl, au1⟩; refine ⟨_, _, rfl, rfl, ?_⟩) | (refine sl_callT rfl rfl rfl rfl rfl rfl rfl rfl (check_calls (EV := N) (be := be) (c := ce) (es := es.take K) (slE := sl1 ()) hnT.1 (by omega) hnO.1 hnO.2 (hl1.trans rfl) (by first | omega ) q1) ?_; rintro _ _ ⟨rfl, rfl⟩; refine ⟨_, _, rfl, rfl, ?_⟩) | (refine sl_callT rfl rfl rfl rfl rfl rfl rfl rfl (copy_calls (βs := βs) au1 (by omega) (by omega) (by omega) (by omega) rfl) ?_; rintro _ _ ⟨βc, bt2, bo2, ct2, co2, HT2, HO2, OP2, rfl, rfl, au2⟩; refine ⟨_, _, rfl, rfl, ?_⟩))
      | (refine gk 5 rfl ?_; first | refine sl_op rfl rfl rfl (by first | exact opv_build rfl rfl (by exact rfl) | exact opv_sliceHi rfl rfl rfl (by omega) (by omega) ) ?_ | refine sl_alloc rfl rfl rfl rfl (by exact rfl) (fun β => ?_) | refine sl_store rfl rfl rfl rfl rfl rfl (by exact rfl) rfl (by exact rfl) ?_)
      | refine sl_region rfl ?_
      | refine sl_nil ?_
      | refine thn_k ?_
      | refine swp_true rfl ?_
      | refine swp_false rfl ?_
      | refine swp_skip ?_
      )
    refine sl_drawC [.q [0, 1, 2, 3, 4], .h false 5, .h true 6] [] (by kernel_rfl) (by kernel_rfl) (by kernel_rfl) (by kernel_rfl) ?_
    repeat' ((fail_if_success (refine stop_at 16 ?_)); (first
      | refine sl_op rfl rfl rfl (opv_loadEA (vs := ecells ev) rfl rfl (Nat.succ_pos _) rfl hea) ?_
      | refine swp_seq ?_
      | (refine gk 0 rfl ?_; first | refine sl_op rfl rfl rfl (by first | exact opv_move rfl rfl | exact opv_assign rfl rfl ) ?_ )
      | (refine gk 3 rfl ?_; first | refine sl_op rfl rfl rfl (by first | exact opv_loadA rfl (by exact rfl) rfl (by exact rfl) (by exact rfl) | exact opv_indexAddrI rfl rfl rfl (by omega) (by omega) (by first | omega ) ) ?_ )
      | (refine gk 4 rfl ?_; first | (refine sl_callT rfl rfl rfl rfl rfl rfl rfl rfl (copy_calls (βs := βs) au1 (by omega) (by omega) (by omega) (by omega) rfl) ?_; rintro _ _ ⟨βe, bt3, bo3, ct3, co3, HT3, HO3, OP3, rfl, rfl, au3⟩; refine ⟨_, _, rfl, rfl, ?_⟩))
      | refine sl_region rfl ?_
      | refine chu_nil ?_
      | refine chu_q rfl ?_
      | refine chu_store rfl rfl rfl rfl rfl rfl (by exact rfl) rfl (by exact rfl) (by exact rfl) ?_
      | (refine chu_T rfl rfl rfl rfl rfl rfl rfl rfl (turned_calls w v z ev) (by rintro _ _ ⟨e', rfl, rfl⟩; exact ⟨_, rfl⟩) ?_; rintro _ _ ⟨e', rfl, rfl⟩; refine ⟨_, _, rfl, rfl, ?_⟩)
      | refine sl_nil ?_
      ))
    cases hr : takeF σ1 e' with
    | mk u σe =>
      cases u with
      | true =>
        repeat' (first
          | refine swp_seq ?_
          | (refine gk 0 rfl ?_; first | refine sl_op rfl rfl rfl (by first | exact opv_move rfl rfl | exact opv_assign rfl rfl | exact opv_pick_t rfl rfl rfl | exact opv_pick_f rfl rfl rfl | exact opv_not_t rfl rfl ) ?_ | refine sl_pass rfl rfl rfl rfl ?_)
          | (refine gk 2 rfl ?_; first | refine sl_yes rfl rfl rfl (by first | exact opv_eql rfl rfl rfl ) (by first | omega ) ?_ )
          | (refine gk 3 rfl ?_; first | refine sl_op rfl rfl rfl (by first | exact opv_loadA rfl (by exact rfl) rfl (by exact rfl) (by exact rfl) ) ?_ | refine sl_pass rfl rfl rfl rfl ?_)
          | (refine gk 4 rfl ?_; first | refine sl_pass rfl rfl rfl rfl ?_ | (refine sl_callT rfl rfl rfl rfl rfl rfl rfl rfl (take_is (βs := βe) e' (ecells e') au3 (by omega) (by omega) rfl hr rfl rfl) ?_; rintro _ _ ⟨rfl, HT5, HO5, OP5, rfl, au5⟩; refine ⟨_, _, rfl, rfl, ?_⟩) | (refine sl_callT rfl rfl rfl rfl rfl rfl rfl rfl (take_is (βs := βc) ⟨7, 0, 0, 0, 0, 0, 0, 0⟩ [i64 7, i64 0, i64 0, i64 0, i64 0, i64 0, i64 0, i64 0] au2 (by omega) (by omega) rfl (take_kind7 (by rw [au2.hn]; omega)) rfl rfl) ?_; rintro _ _ ⟨rfl, HT8, HO8, OP8, rfl, au8⟩; refine ⟨_, _, rfl, rfl, ?_⟩) | (refine sl_callT rfl rfl rfl rfl rfl rfl rfl rfl (take_is (βs := βc) ⟨0, -1, 0, 0, 0, 0, 0, 0⟩ [i64 0, i64 (-1), i64 0, i64 0, i64 0, i64 0, i64 0, i64 0] au8 (by omega) (by omega) rfl take_neg rfl rfl) ?_; rintro _ _ ⟨rfl, HT9, HO9, OP9, rfl, au9⟩; refine ⟨_, _, rfl, rfl, ?_⟩) | (refine sl_callT rfl rfl rfl rfl rfl rfl rfl rfl (take_is (βs := βc) ⟨0, ((nT a : Nat) : Int), 0, 0, 0, 0, 0, 0⟩ [i64 0, i64 ((nT a : Nat) : Int), i64 0, i64 0, i64 0, i64 0, i64 0, i64 0] au9 (by omega) (by omega) rfl (take_far au9.hn) rfl rfl) ?_; rintro _ _ ⟨rfl, HT10, HO10, OP10, rfl, au10⟩; refine ⟨_, _, rfl, rfl, ?_⟩) | (refine sl_callT rfl rfl rfl rfl rfl rfl rfl rfl (takes_any (βs := βc) (es.drop K) (sl2 ()) au10 (by omega) (by omega) (hl2.trans rfl) (by first | omega ) hF2 rfl rfl) ?_; rintro _ _ ⟨rfl, HT11, HO11, OP11, rfl, au11⟩; refine ⟨_, _, rfl, rfl, ?_⟩) | (refine sl_callT rfl rfl rfl rfl rfl rfl rfl rfl (check_calls (EV := N) (be := be) (c := ce) (es := es) (slE := slE) hnT.1 (by omega) hnO.1 hnO.2 rfl (by omega) hall) ?_; rintro _ _ ⟨rfl, rfl⟩; refine ⟨_, _, rfl, rfl, ?_⟩))
          | (refine gk 5 rfl ?_; first | refine sl_op rfl rfl rfl (by first | exact opv_build rfl rfl (by exact rfl) | exact opv_sliceLo rfl rfl rfl (by omega) (by omega) ) ?_ | refine sl_pass rfl rfl rfl rfl ?_ )
          | refine sl_region rfl ?_
          | refine sl_nil ?_
          | refine thn_k ?_
          | refine swp_false rfl ?_
          | refine swp_ret ?_
          | refine swp_skip ?_
          )
        exact end_retL [BB] (resOk_one (resV_tmp rfl)) ⟨rfl, rfl⟩
      | false =>
        have hse : σe = σ1 := by
          have := takeF_no (σ := σ1) (e := e') (by rw [hr])
          rw [hr] at this; exact this
        subst hse
        repeat' (first
          | refine swp_seq ?_
          | (refine gk 0 rfl ?_; first | refine sl_op rfl rfl rfl (by first | exact opv_move rfl rfl | exact opv_assign rfl rfl | exact opv_pick_t rfl rfl rfl | exact opv_pick_f rfl rfl rfl | exact opv_not_t rfl rfl | exact opv_not_f rfl rfl ) ?_ )
          | (refine gk 2 rfl ?_; first | refine sl_yes rfl rfl rfl (by first | exact opv_eql rfl rfl rfl ) (by first | omega ) ?_ )
          | (refine gk 3 rfl ?_; first | refine sl_op rfl rfl rfl (by first | exact opv_loadA rfl (by exact rfl) rfl (by exact rfl) (by exact rfl) ) ?_ )
          | (refine gk 4 rfl ?_; first | (refine sl_callT rfl rfl rfl rfl rfl rfl rfl rfl (take_is (βs := βe) e' (ecells e') au3 (by omega) (by omega) rfl hr rfl rfl) ?_; rintro _ _ ⟨rfl, HT5, HO5, OP5, rfl, au5⟩; refine ⟨_, _, rfl, rfl, ?_⟩) | (refine sl_callT rfl rfl rfl rfl rfl rfl rfl rfl (take_is (βs := βs) e' (ecells e') au1 (by omega) (by omega) rfl hr rfl rfl) ?_; rintro _ _ ⟨rfl, HT6, HO6, OP6, rfl, au6⟩; refine ⟨_, _, rfl, rfl, ?_⟩) | (refine sl_callT rfl rfl rfl rfl rfl rfl rfl rfl (takes_any (βs := βs) (es.drop K) (sl2 ()) au6 (by omega) (by omega) (hl2.trans rfl) (by first | omega ) hF2 rfl rfl) ?_; rintro _ _ ⟨rfl, HT7, HO7, OP7, rfl, au7⟩; refine ⟨_, _, rfl, rfl, ?_⟩) | (refine sl_callT rfl rfl rfl rfl rfl rfl rfl rfl (take_is (βs := βc) ⟨7, 0, 0, 0, 0, 0, 0, 0⟩ [i64 7, i64 0, i64 0, i64 0, i64 0, i64 0, i64 0, i64 0] au2 (by omega) (by omega) rfl (take_kind7 (by rw [au2.hn]; omega)) rfl rfl) ?_; rintro _ _ ⟨rfl, HT8, HO8, OP8, rfl, au8⟩; refine ⟨_, _, rfl, rfl, ?_⟩) | (refine sl_callT rfl rfl rfl rfl rfl rfl rfl rfl (take_is (βs := βc) ⟨0, -1, 0, 0, 0, 0, 0, 0⟩ [i64 0, i64 (-1), i64 0, i64 0, i64 0, i64 0, i64 0, i64 0] au8 (by omega) (by omega) rfl take_neg rfl rfl) ?_; rintro _ _ ⟨rfl, HT9, HO9, OP9, rfl, au9⟩; refine ⟨_, _, rfl, rfl, ?_⟩) | (refine sl_callT rfl rfl rfl rfl rfl rfl rfl rfl (take_is (βs := βc) ⟨0, ((nT a : Nat) : Int), 0, 0, 0, 0, 0, 0⟩ [i64 0, i64 ((nT a : Nat) : Int), i64 0, i64 0, i64 0, i64 0, i64 0, i64 0] au9 (by omega) (by omega) rfl (take_far au9.hn) rfl rfl) ?_; rintro _ _ ⟨rfl, HT10, HO10, OP10, rfl, au10⟩; refine ⟨_, _, rfl, rfl, ?_⟩) | (refine sl_callT rfl rfl rfl rfl rfl rfl rfl rfl (takes_any (βs := βc) (es.drop K) (sl2 ()) au10 (by omega) (by omega) (hl2.trans rfl) (by first | omega ) hF2 rfl rfl) ?_; rintro _ _ ⟨rfl, HT11, HO11, OP11, rfl, au11⟩; refine ⟨_, _, rfl, rfl, ?_⟩) | (refine sl_callT rfl rfl rfl rfl rfl rfl rfl rfl (check_calls (EV := N) (be := be) (c := ce) (es := es) (slE := slE) hnT.1 (by omega) hnO.1 hnO.2 rfl (by omega) hall) ?_; rintro _ _ ⟨rfl, rfl⟩; refine ⟨_, _, rfl, rfl, ?_⟩))
          | (refine gk 5 rfl ?_; first | refine sl_op rfl rfl rfl (by first | exact opv_build rfl rfl (by exact rfl) | exact opv_sliceLo rfl rfl rfl (by omega) (by omega) ) ?_ )
          | refine sl_region rfl ?_
          | refine sl_nil ?_
          | refine thn_k ?_
          | refine swp_false rfl ?_
          | refine swp_ret ?_
          | refine swp_skip ?_
          )
        exact end_retL [BB] (resOk_one (resV_tmp rfl)) ⟨rfl, rfl⟩
  · rw [if_neg hpos] at hK
    clear hsplit
    subst hK
    have h7 : takeF σ1 ⟨7, 0, 0, 0, 0, 0, 0, 0⟩ = (false, σ1) := take_kind7 (by have := takesF_keep (es := es.take 0) (σ := newF (nT a) (nO b)); rw [hF1] at this; rw [this.tl]; simp [newF]; omega)
    repeat' ((fail_if_success (refine stop_at2 15 ?_)); (first
      | refine swp_seq ?_
      | (refine gk 0 rfl ?_; first | refine sl_op rfl rfl rfl (by first | exact opv_move rfl rfl | exact opv_assign rfl rfl | exact opv_pick_f rfl rfl rfl | exact opv_not_t rfl rfl ) ?_ )
      | (refine gk 2 rfl ?_; first | refine sl_no rfl rfl rfl (by first | exact opv_lss rfl rfl rfl | exact opv_gtr rfl rfl rfl | exact opv_neq rfl rfl rfl) (by first | omega ) ?_ )
      | (refine gk 4 rfl ?_; first | refine sl_op rfl rfl rfl (by first | exact opv_len rfl rfl rfl rfl rfl ) ?_ | (refine sl_callT rfl rfl rfl rfl rfl rfl rfl rfl (hN) ?_; rintro _ _ ⟨βs, bt, bo, HT, HO, OP, rfl, rfl, au⟩; refine ⟨_, _, rfl, rfl, ?_⟩) | (refine sl_callT rfl rfl rfl rfl rfl rfl rfl rfl (takes_any (βs := βs) (r := 0) (es.take 0) (sl1 ()) au (by omega) (by omega) (hl1.trans rfl) (by first | omega ) hF1 rfl rfl) ?_; rintro _ _ ⟨rfl, HT1, HO1, OP1, rfl, au1⟩; refine ⟨_, _, rfl, rfl, ?_⟩) | (refine sl_callT rfl rfl rfl rfl rfl rfl rfl rfl (check_calls (EV := N) (be := be) (c := ce) (es := es.take 0) (slE := sl1 ()) hnT.1 (by omega) hnO.1 hnO.2 (hl1.trans rfl) (by first | omega ) q1) ?_; rintro _ _ ⟨rfl, rfl⟩; refine ⟨_, _, rfl, rfl, ?_⟩) | (refine sl_callT rfl rfl rfl rfl rfl rfl rfl rfl (copy_calls (βs := βs) au1 (by omega) (by omega) (by omega) (by omega) rfl) ?_; rintro _ _ ⟨βc, bt2, bo2, ct2, co2, HT2, HO2, OP2, rfl, rfl, au2⟩; refine ⟨_, _, rfl, rfl, ?_⟩))
      | (refine gk 5 rfl ?_; first | refine sl_op rfl rfl rfl (by first | exact opv_build rfl rfl (by exact rfl) | exact opv_sliceHi rfl rfl rfl (by omega) (by omega) ) ?_ | refine sl_alloc rfl rfl rfl rfl (by exact rfl) (fun β => ?_) | refine sl_store rfl rfl rfl rfl rfl rfl (by exact rfl) rfl (by exact rfl) ?_)
      | refine sl_region rfl ?_
      | refine sl_nil ?_
      | refine thn_k ?_
      | refine swp_false rfl ?_
      | refine swp_skip ?_
      ))
    repeat' (first
      | refine swp_seq ?_
      | (refine gk 0 rfl ?_; first | refine sl_op rfl rfl rfl (by first | exact opv_move rfl rfl | exact opv_assign rfl rfl | exact opv_pick_t rfl rfl rfl | exact opv_pick_f rfl rfl rfl | exact opv_not_t rfl rfl | exact opv_not_f rfl rfl ) ?_ )
      | (refine gk 2 rfl ?_; first | refine sl_yes rfl rfl rfl (by first | exact opv_eql rfl rfl rfl ) (by first | omega ) ?_ )
      | (refine gk 3 rfl ?_; first | refine sl_op rfl rfl rfl (by first | exact opv_loadA rfl (by exact rfl) rfl (by exact rfl) (by exact rfl) ) ?_ )
      | (refine gk 4 rfl ?_; first | (refine sl_callT rfl rfl rfl rfl rfl rfl rfl rfl (copy_calls (βs := βs) au1 (by omega) (by omega) (by omega) (by omega) rfl) ?_; rintro _ _ ⟨βe, bt3, bo3, ct3, co3, HT3, HO3, OP3, rfl, rfl, au3⟩; refine ⟨_, _, rfl, rfl, ?_⟩) | (refine sl_callT rfl rfl rfl rfl rfl rfl rfl rfl (take_is (βs := βe) ⟨7, 0, 0, 0, 0, 0, 0, 0⟩ [i64 7, i64 0, i64 0, i64 0, i64 0, i64 0, i64 0, i64 0] au3 (by omega) (by omega) rfl h7 rfl rfl) ?_; rintro _ _ ⟨rfl, HT5, HO5, OP5, rfl, au5⟩; refine ⟨_, _, rfl, rfl, ?_⟩) | (refine sl_callT rfl rfl rfl rfl rfl rfl rfl rfl (take_is (βs := βs) ⟨7, 0, 0, 0, 0, 0, 0, 0⟩ [i64 7, i64 0, i64 0, i64 0, i64 0, i64 0, i64 0, i64 0] au1 (by omega) (by omega) rfl h7 rfl rfl) ?_; rintro _ _ ⟨rfl, HT6, HO6, OP6, rfl, au6⟩; refine ⟨_, _, rfl, rfl, ?_⟩) | (refine sl_callT rfl rfl rfl rfl rfl rfl rfl rfl (takes_any (βs := βs) (es.drop 0) (sl2 ()) au6 (by omega) (by omega) (hl2.trans rfl) (by first | omega ) hF2 rfl rfl) ?_; rintro _ _ ⟨rfl, HT7, HO7, OP7, rfl, au7⟩; refine ⟨_, _, rfl, rfl, ?_⟩) | (refine sl_callT rfl rfl rfl rfl rfl rfl rfl rfl (take_is (βs := βc) ⟨7, 0, 0, 0, 0, 0, 0, 0⟩ [i64 7, i64 0, i64 0, i64 0, i64 0, i64 0, i64 0, i64 0] au2 (by omega) (by omega) rfl (take_kind7 (by rw [au2.hn]; omega)) rfl rfl) ?_; rintro _ _ ⟨rfl, HT8, HO8, OP8, rfl, au8⟩; refine ⟨_, _, rfl, rfl, ?_⟩) | (refine sl_callT rfl rfl rfl rfl rfl rfl rfl rfl (take_is (βs := βc) ⟨0, -1, 0, 0, 0, 0, 0, 0⟩ [i64 0, i64 (-1), i64 0, i64 0, i64 0, i64 0, i64 0, i64 0] au8 (by omega) (by omega) rfl take_neg rfl rfl) ?_; rintro _ _ ⟨rfl, HT9, HO9, OP9, rfl, au9⟩; refine ⟨_, _, rfl, rfl, ?_⟩) | (refine sl_callT rfl rfl rfl rfl rfl rfl rfl rfl (take_is (βs := βc) ⟨0, ((nT a : Nat) : Int), 0, 0, 0, 0, 0, 0⟩ [i64 0, i64 ((nT a : Nat) : Int), i64 0, i64 0, i64 0, i64 0, i64 0, i64 0] au9 (by omega) (by omega) rfl (take_far au9.hn) rfl rfl) ?_; rintro _ _ ⟨rfl, HT10, HO10, OP10, rfl, au10⟩; refine ⟨_, _, rfl, rfl, ?_⟩) | (refine sl_callT rfl rfl rfl rfl rfl rfl rfl rfl (takes_any (βs := βc) (es.drop 0) (sl2 ()) au10 (by omega) (by omega) (hl2.trans rfl) (by first | omega ) hF2 rfl rfl) ?_; rintro _ _ ⟨rfl, HT11, HO11, OP11, rfl, au11⟩; refine ⟨_, _, rfl, rfl, ?_⟩) | (refine sl_callT rfl rfl rfl rfl rfl rfl rfl rfl (check_calls (EV := N) (be := be) (c := ce) (es := es) (slE := slE) hnT.1 (by omega) hnO.1 hnO.2 rfl (by omega) hall) ?_; rintro _ _ ⟨rfl, rfl⟩; refine ⟨_, _, rfl, rfl, ?_⟩))
      | (refine gk 5 rfl ?_; first | refine sl_op rfl rfl rfl (by first | exact opv_build rfl rfl (by exact rfl) | exact opv_sliceLo rfl rfl rfl (by omega) (by omega) ) ?_ )
      | refine sl_region rfl ?_
      | refine sl_nil ?_
      | refine thn_k ?_
      | refine swp_false rfl ?_
      | refine swp_ret ?_
      | refine swp_skip ?_
      )
    exact end_retL [BB] (resOk_one (resV_tmp rfl)) ⟨rfl, rfl⟩
end Go.Proofs.Ytimmclibnfdjhaa
end
section
/- What laws get: what is drawn, opened. -/
namespace Go.Proofs.Ytimmclibnfdjhaa
open Go Go.SL
open Go.ChangeShapes Go.WideShapes Go.ChangeAt Go.RowKit
/-- What is drawn, opened. -/
theorem drawn_open {H : Type} {enc : TypeId × Value → H} {w : World} {sp : Nat → Bool} {held : Bool} {fuel : Nat} {cs : List Value} {x : DataW H × List MemPlace}
    (h : DataW.trod enc Try.prog w 0 sp held fuel 24 cs = some x) :
    ∃ (a b : Nat) (bb : Option Addr) (bl bc : Nat) (B : List Nat), cs = [.int .u8 (a : Int), .int .u8 (b : Int), .slice bb bl bc] ∧ B.length = bl ∧ Sl (wh w) bb (B.map fun z : Nat => Value.int .u8 (z : Int)) ∧ bl ≤ maxLen ∧ bl ≤ bc ∧
      (∀ x ∈ B, x < 256) ∧ a < 256 ∧ b < 256 := by
  have k22 : Try.prog.cellsOf 22 = 1 := by kernel_rfl
  have k5 : Try.prog.cellsOf 5 = 1 := by kernel_rfl
  obtain ⟨hl, n, hf⟩ := struct_open (m := 3) Try.underlying24 (by kernel_rfl) h
  obtain ⟨a, b, c, rfl⟩ := list_three hl
  obtain ⟨y0, h0⟩ := hf _ (List.mem_of_getElem? (i := 0) rfl)
  obtain ⟨y1, h1⟩ := hf _ (List.mem_of_getElem? (i := 1) rfl)
  obtain ⟨y2, h2⟩ := hf _ (List.mem_of_getElem? (i := 2) rfl)
  simp only [k5] at h0
  simp only [k5] at h1
  simp only [k22] at h2
  replace h0 : DataW.trod enc Try.prog w 0 sp held n 5 [a] = some y0 := h0
  replace h1 : DataW.trod enc Try.prog w 0 sp held n 5 [b] = some y1 := h1
  replace h2 : DataW.trod enc Try.prog w 0 sp held n 22 [c] = some y2 := h2
  obtain ⟨a0, e0, -, w0⟩ := DataW.trod_int Try.underlying5 h0
  obtain ⟨b0, e1, -, w1⟩ := DataW.trod_int Try.underlying5 h1
  simp only [List.cons.injEq, and_true] at e0 e1
  subst e0 e1
  obtain ⟨a, rfl, ha⟩ := wf_u8 w0
  obtain ⟨b, rfl, hb⟩ := wf_u8 w1
  have hsl : ∃ (bb : Option Addr) (bl bc : Nat), c = .slice bb bl bc := by
    rcases DataW.trod_slice Try.underlying22 h2 with ⟨e0, -⟩ | ⟨ad, len, cap, _, _, _, _, e0, -⟩
    · simp only [List.cons.injEq, and_true] at e0; exact ⟨_, _, _, e0⟩
    · simp only [List.cons.injEq, and_true] at e0; exact ⟨_, _, _, e0⟩
  obtain ⟨bb, bl, bc, rfl⟩ := hsl
  obtain ⟨B, g1, g2, g3, g4, g5⟩ := sl_open_ints Try.underlying22 Try.underlying5 k5 h2
  have hB : B.map (Value.int .u8) = (B.map Int.toNat).map fun z : Nat => Value.int .u8 (z : Int) := by
    rw [List.map_map]
    refine List.map_congr_left fun z hz => ?_
    obtain ⟨m, rfl, -⟩ := wf_u8 (g5 z hz)
    rfl
  refine ⟨a, b, bb, bl, bc, B.map Int.toNat, rfl, by simp [g1], by rw [← hB]; exact g2, g3, g4, fun x hx => ?_, ha, hb⟩
  obtain ⟨z, hz, rfl⟩ := List.mem_map.1 hx
  obtain ⟨m, rfl, hm⟩ := wf_u8 (g5 z hz)
  simpa using hm
end Go.Proofs.Ytimmclibnfdjhaa
end
section
/- What laws get: a turn, opened; SpecCopies, over the whole of memory. -/
namespace Go.Proofs.Ytimmclibnfdjhaa
open Go Go.SL
open Go.ChangeShapes Go.WideShapes Go.ChangeAt Go.RowKit
theorem turn_open {H : Type} {enc : TypeId × Value → H} {w : World} {sp : Nat → Bool} {held : Bool} {fuel : Nat} {cs : List Value} {x : DataW H × List MemPlace}
    (h : DataW.trod enc Try.prog w 0 sp held fuel 52 cs = some x) :
    ∃ (a b z : Int), cs = [.int .u8 a, .int .u8 b, .int .i8 z] := by
  have k5 : Try.prog.cellsOf 5 = 1 := by kernel_rfl
  have k50 : Try.prog.cellsOf 50 = 1 := by kernel_rfl
  obtain ⟨hl, n, hf⟩ := struct_open (m := 3) Try.underlying52 (by kernel_rfl) h
  obtain ⟨a, b, c, rfl⟩ := list_three hl
  obtain ⟨y0, h0⟩ := hf _ (List.mem_of_getElem? (i := 0) rfl)
  obtain ⟨y1, h1⟩ := hf _ (List.mem_of_getElem? (i := 1) rfl)
  obtain ⟨y2, h2⟩ := hf _ (List.mem_of_getElem? (i := 2) rfl)
  simp only [k5] at h0
  simp only [k5] at h1
  simp only [k50] at h2
  replace h0 : DataW.trod enc Try.prog w 0 sp held n 5 [a] = some y0 := h0
  replace h1 : DataW.trod enc Try.prog w 0 sp held n 5 [b] = some y1 := h1
  replace h2 : DataW.trod enc Try.prog w 0 sp held n 50 [c] = some y2 := h2
  obtain ⟨a0, e0, -, -⟩ := DataW.trod_int Try.underlying5 h0
  obtain ⟨b0, e1, -, -⟩ := DataW.trod_int Try.underlying5 h1
  obtain ⟨c0, e2, -, -⟩ := DataW.trod_int Try.underlying50 h2
  simp only [List.cons.injEq, and_true] at e0 e1 e2
  subst e0 e1 e2
  exact ⟨a0, b0, c0, rfl⟩
theorem copies_row {w : World} {bb : Option Addr} {bl bc a b p : Nat} {B : List Nat} (u v z : Int) (hl : B.length = bl) (sl : Sl (wh w) bb (B.map fun z : Nat => Value.int .u8 (z : Int))) (hm : bl ≤ maxLen) (hc : bl ≤ bc) (hB : ∀ x ∈ B, x < 256) (ha : a < 256) (hb : b < 256) (hp : p < 256) :
    PFn Try.prog 5 [.agg ⟨[.int .u8 (a : Int), .int .u8 (b : Int), .slice bb bl bc]⟩, .int .u8 (p : Int), .agg ⟨[.int .u8 u, .int .u8 v, .int .i8 z]⟩] [wh w] (.bool true) :=
  copies_calls (slB := sl) a b p u v z ha hb hp hB hl hc (Nat.le_trans hm (by decide))
end Go.Proofs.Ytimmclibnfdjhaa
end
