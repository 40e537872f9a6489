/- The document's automaton: waiting, whatever comes. -/
import Derived.Test.YtimmclibnfdjhaaWD4c
import Derived.Test.YtimmclibnfdjhaaWD4b
import Derived.Test.YtimmclibnfdjhaaWD4e
import Derived.Test.YtimmclibnfdjhaaWD6
import Derived.Test.YtimmclibnfdjhaaWD5b
import Derived.Test.YtimmclibnfdjhaaWD5a
import Derived.Test.YtimmclibnfdjhaaWD5d
import Derived.Test.YtimmclibnfdjhaaWD5f
set_option linter.unusedVariables false
set_option linter.unusedSimpArgs false
set_option linter.unusedSectionVars false
section
namespace Go.Proofs.Ytimmclibnfdjhaa
open Go.SL
theorem dwait_calls {βd : Nat} {b1 b2 b3 : Option Addr} {n k c1 c2 c3 : Nat} {HW HP HT : Heap} {δ : DS} {t : Nat} {x : DT} (owns : Bool) (e : Ev) [nn : NN b3] [n1 : NN b1] [n2 : NN b2] (m : MemD b1 b2 b3 n k c1 c2 c3 HW HP HT δ) (hsm : n ≤ 1000000) (hsk : k ≤ 1000000) (h : δ.th[t]? = some x) (ho0 : 0 ≤ e.obj) (hok : e.obj < k) {ow dp : Int} (how : δ.ow[e.obj.toNat]? = some ow) (hdp : δ.dp[e.obj.toNat]? = some dp) :
    SL.T Try.prog 65 [ptr βd, ept b3 (t * 11), .bool owns, .agg ⟨ecells e⟩] [specD βd b1 b2 b3 n k c1 c2 c3 δ.rel, HW, HP, HT] (RetD βd b1 b2 b3 n k c1 c2 c3 (waitDf δ t e.obj.toNat x ow dp owns e)) := by
  by_cases h8 : e.act = 8
  · exact dwait_8 owns e m hsm hsk h ho0 hok h8 how hdp
  by_cases h7 : e.act = 7
  · exact dwait_7 owns e m hsm hsk h ho0 hok h7 how hdp
  by_cases h2 : e.act = 2
  · exact dwait_2 owns e m hsm hsk h ho0 hok h2 how hdp
  by_cases h4 : e.act = 4
  · exact dwait_4 owns e m hsm hsk h ho0 hok h4 how hdp
  · exact dwait_5 owns e m hsm hsk h ho0 hok h8 h7 h2 h4 how hdp
end Go.Proofs.Ytimmclibnfdjhaa
end
section
/- The document's automaton: acts (dact_2). -/
namespace Go.Proofs.Ytimmclibnfdjhaa
open Go.SL
set_option maxRecDepth 100000
set_option maxHeartbeats 16000000
attribute [local irreducible] SL.T PFn OpV SOL SWP HOp ChU
-- CHANGES 63 64 65
section
variable {βd : Nat} {b1 b2 b3 : Option Addr} {n k c1 c2 c3 : Nat}
theorem dact_2 {HW HP HT : Heap} {δ : DS} {x : DT} {e : Ev} [nn : NN b3] [n1 : NN b1] [n2 : NN b2] (m : MemD b1 b2 b3 n k c1 c2 c3 HW HP HT δ) (hsm : n ≤ 1000000) (hsk : k ≤ 1000000) (h0 : 0 ≤ e.thread ∧ e.thread < n) (h : δ.th[e.thread.toNat]? = some x) (hno : ¬ noD n k x e) {ow dp : Int} (how : δ.ow[e.obj.toNat]? = some ow) (hdp : δ.dp[e.obj.toNat]? = some dp) (hop : x.op = 2 ∨ x.op = 3) :
    SL.T Try.prog 54 [ptr βd, .agg ⟨ecells e⟩] [specD βd b1 b2 b3 n k c1 c2 c3 δ.rel, HW, HP, HT] (RetD βd b1 b2 b3 n k c1 c2 c3 (stepD δ e.thread.toNat e.obj.toNat x ow dp e)) := by
  obtain ⟨osW, osP, os, hn, hk, hd⟩ := id m
  haveI slT := os.sl
  haveI slW := osW.sl
  haveI slP := osP.sl
  have hl := dts_length δ.th
  have htl : e.thread.toNat < δ.th.length := (List.getElem?_eq_some_iff.1 h).1
  have hl1 : e.thread.toNat * 11 < (dts δ.th).length := by omega
  have a1 : (dts δ.th)[e.thread.toNat * 11 + 1]? = some (.bool x.opn) := dts_at h 1 _ rfl
  have a2 : (dts δ.th)[e.thread.toNat * 11 + 2]? = some (i64 x.op) := dts_at h 2 _ rfl
  have a3 : (dts δ.th)[e.thread.toNat * 11 + 2 + 1]? = some (i64 x.obj) := dts_at h 3 _ rfl
  have a4 : (dts δ.th)[e.thread.toNat * 11 + 2 + 2]? = some (i64 x.arg) := dts_at h 4 _ rfl
  have a5 : (dts δ.th)[e.thread.toNat * 11 + 5]? = some (i64 x.far) := dts_at h 5 _ rfl
  have lW : (δ.ow.map i64).length = k := by simp [hk]
  have lP : (δ.dp.map i64).length = k := by simp [hd]
  have hwc := dwrong_calls (βd := βd) (b1 := b1) (b2 := b2) (b3 := b3) (n := n) (k := k) (c1 := c1) (c2 := c2) (c3 := c3) (rel := δ.rel) x.op x.obj x.arg
  have hno' := hno
  unfold noD wrongB at hno'
  simp only [not_or] at hno'
  obtain ⟨q1, ⟨w1, w2, w3, w4, w5⟩, q2, q3⟩ := hno'
  have q1 : x.opn = true := by simpa using q1
  have q2 : e.obj = x.obj := Classical.byContradiction q2
  rw [q1] at a1
  have hw0 : ¬ wrongB n k x.op x.obj x.arg := fun hh => hno (.inr (.inl hh))
  have hwf := hwc.to (congrArg Value.bool (decide_eq_false hw0))
  clear hwc
  have hWk : (δ.ow.map i64)[e.obj.toNat * 1]? = some (i64 ow) := by simp [how]
  have hPk : (δ.dp.map i64)[e.obj.toNat * 1]? = some (i64 dp) := by simp [hdp]
  have hkW : e.obj.toNat < δ.ow.length := by omega
  have hkP : e.obj.toNat < δ.dp.length := by omega
  have sW := fun z => ints_set (x := z) hkW
  have sP := fun z => ints_set (x := z) hkP
  have a20 : (dts δ.th)[e.thread.toNat * 11 + 2 + 0]? = some (i64 x.op) := a2
  have fin : ∀ r, stepD δ e.thread.toNat e.obj.toNat x ow dp e = r → SL.T Try.prog 54 [ptr βd, .agg ⟨ecells e⟩] [specD βd b1 b2 b3 n k c1 c2 c3 δ.rel, HW, HP, HT] (RetD βd b1 b2 b3 n k c1 c2 c3 r) → SL.T Try.prog 54 [ptr βd, .agg ⟨ecells e⟩] [specD βd b1 b2 b3 n k c1 c2 c3 δ.rel, HW, HP, HT] (RetD βd b1 b2 b3 n k c1 c2 c3 (stepD δ e.thread.toNat e.obj.toNat x ow dp e)) := fun r e h => by rw [e]; exact h
  unfold RetD at fin ⊢
  have hfi := fun c v => finish_calls c v os h
  by_cases hown : ow = e.thread
  · have hN := dwait_calls (βd := βd) true e m hsm hsk h (by omega) (by omega) how hdp
    unfold RetD at hN
    refine fin (waitDf δ e.thread.toNat e.obj.toNat x ow dp true e) (by unfold stepD; rw [if_neg (by omega), if_neg (by omega), if_neg (by omega), if_neg (by omega), if_pos hop]; rw [decide_eq_true hown]) ?_
    generalize waitDf δ e.thread.toNat e.obj.toNat x ow dp true e = r at hN ⊢
    rcases hop with hop | hop
    · refine t_of_body Try.func54 rfl (Nat.le_of_ble_eq_true rfl) fun F => ?_
      repeat' (first
        | refine swp_seq ?_
        | (refine gk 0 rfl ?_; first | refine sl_op rfl rfl rfl (by first | exact opv_move rfl rfl | exact opv_assign rfl rfl | exact opv_pick_f rfl rfl rfl | exact opv_not_t rfl rfl ) ?_ )
        | (refine gk 2 rfl ?_; first | refine sl_yes rfl rfl rfl (by first | exact opv_eql rfl rfl rfl | exact opv_neq rfl rfl rfl) (by first | omega ) ?_ | refine sl_no rfl rfl rfl (by first | exact opv_eql rfl rfl rfl | exact opv_neq rfl rfl rfl) (by first | omega ) ?_ )
        | (refine gk 3 rfl ?_; first | refine sl_op rfl rfl rfl (by first | exact opv_load rfl (by exact rfl) rfl (by exact rfl) | exact opv_fieldAddr rfl rfl | exact opv_loadA rfl (by exact rfl) rfl (by exact rfl) (by exact rfl) | exact opv_indexAddrI rfl rfl rfl (by omega) (by omega) (by first | omega ) | exact opv_fieldAddrE rfl rfl (by first | assumption | omega) | exact opv_loadEx rfl (by exact rfl) (by infer_instance) (by first | assumption ) | exact opv_load3 rfl (by exact rfl) (by infer_instance) (by assumption) (by assumption) (by assumption)) ?_ )
        | (refine gk 4 rfl ?_; first | refine sl_op rfl rfl rfl (opv_call rfl rfl rfl rfl rfl (hwf)) ?_ | (refine sl_callT rfl rfl rfl rfl rfl rfl rfl rfl (hN) ?_; rintro _ _ ⟨rfl, HW2, HP2, HT2, rfl, m2⟩; refine ⟨_, _, rfl, rfl, ?_⟩))
        | (refine gk 5 rfl ?_; first | refine sl_op rfl rfl rfl (by first | exact opv_nilCheck rfl rfl | exact opv_nilCheckE rfl rfl ) ?_ | refine sl_box rfl rfl rfl rfl rfl rfl (fun β => ?_) )
        | refine sl_region rfl ?_
        | refine sl_draw (by kernel_rfl) (by kernel_rfl) rfl ?_
        | refine sl_nil ?_
        | refine thn_k ?_
        | refine swp_true rfl ?_
        | refine swp_false rfl ?_
        | refine swp_block ?_
        | refine swp_ret ?_
        | refine swp_skip ?_
        | refine thn_ret ?_
        | refine inb_ret ?_
        )
      all_goals exact end_retL [specD βd b1 b2 b3 n k c1 c2 c3 r.2.rel, HW2, HP2, HT2] (resOk_one (resV_tmp rfl)) ⟨rfl, HW2, HP2, HT2, rfl, m2⟩
    · refine t_of_body Try.func54 rfl (Nat.le_of_ble_eq_true rfl) fun F => ?_
      repeat' (first
        | refine swp_seq ?_
        | (refine gk 0 rfl ?_; first | refine sl_op rfl rfl rfl (by first | exact opv_move rfl rfl | exact opv_assign rfl rfl | exact opv_pick_f rfl rfl rfl | exact opv_not_t rfl rfl ) ?_ )
        | (refine gk 2 rfl ?_; first | refine sl_yes rfl rfl rfl (by first | exact opv_eql rfl rfl rfl | exact opv_neq rfl rfl rfl) (by first | omega ) ?_ | refine sl_no rfl rfl rfl (by first | exact opv_eql rfl rfl rfl | exact opv_neq rfl rfl rfl) (by first | omega ) ?_ )
        | (refine gk 3 rfl ?_; first | refine sl_op rfl rfl rfl (by first | exact opv_load rfl (by exact rfl) rfl (by exact rfl) | exact opv_fieldAddr rfl rfl | exact opv_loadA rfl (by exact rfl) rfl (by exact rfl) (by exact rfl) | exact opv_indexAddrI rfl rfl rfl (by omega) (by omega) (by first | omega ) | exact opv_fieldAddrE rfl rfl (by first | assumption | omega) | exact opv_loadEx rfl (by exact rfl) (by infer_instance) (by first | assumption ) | exact opv_load3 rfl (by exact rfl) (by infer_instance) (by assumption) (by assumption) (by assumption)) ?_ )
        | (refine gk 4 rfl ?_; first | refine sl_op rfl rfl rfl (opv_call rfl rfl rfl rfl rfl (hwf)) ?_ | (refine sl_callT rfl rfl rfl rfl rfl rfl rfl rfl (hN) ?_; rintro _ _ ⟨rfl, HW2, HP2, HT2, rfl, m2⟩; refine ⟨_, _, rfl, rfl, ?_⟩))
        | (refine gk 5 rfl ?_; first | refine sl_op rfl rfl rfl (by first | exact opv_nilCheck rfl rfl | exact opv_nilCheckE rfl rfl ) ?_ | refine sl_box rfl rfl rfl rfl rfl rfl (fun β => ?_) )
        | refine sl_region rfl ?_
        | refine sl_draw (by kernel_rfl) (by kernel_rfl) rfl ?_
        | refine sl_nil ?_
        | refine thn_k ?_
        | refine swp_true rfl ?_
        | refine swp_false rfl ?_
        | refine swp_block ?_
        | refine swp_ret ?_
        | refine swp_skip ?_
        | refine thn_ret ?_
        | refine inb_ret ?_
        )
      all_goals exact end_retL [specD βd b1 b2 b3 n k c1 c2 c3 r.2.rel, HW2, HP2, HT2] (resOk_one (resV_tmp rfl)) ⟨rfl, HW2, HP2, HT2, rfl, m2⟩
  · have hN := dwait_calls (βd := βd) false e m hsm hsk h (by omega) (by omega) how hdp
    unfold RetD at hN
    refine fin (waitDf δ e.thread.toNat e.obj.toNat x ow dp false e) (by unfold stepD; rw [if_neg (by omega), if_neg (by omega), if_neg (by omega), if_neg (by omega), if_pos hop]; rw [decide_eq_false hown]) ?_
    generalize waitDf δ e.thread.toNat e.obj.toNat x ow dp false e = r at hN ⊢
    rcases hop with hop | hop
    · refine t_of_body Try.func54 rfl (Nat.le_of_ble_eq_true rfl) fun F => ?_
      repeat' (first
        | refine swp_seq ?_
        | (refine gk 0 rfl ?_; first | refine sl_op rfl rfl rfl (by first | exact opv_move rfl rfl | exact opv_assign rfl rfl | exact opv_pick_f rfl rfl rfl | exact opv_not_t rfl rfl ) ?_ )
        | (refine gk 2 rfl ?_; first | refine sl_yes rfl rfl rfl (by first | exact opv_eql rfl rfl rfl | exact opv_neq rfl rfl rfl) (by first | omega ) ?_ | refine sl_no rfl rfl rfl (by first | exact opv_eql rfl rfl rfl | exact opv_neq rfl rfl rfl) (by first | omega ) ?_ )
        | (refine gk 3 rfl ?_; first | refine sl_op rfl rfl rfl (by first | exact opv_load rfl (by exact rfl) rfl (by exact rfl) | exact opv_fieldAddr rfl rfl | exact opv_loadA rfl (by exact rfl) rfl (by exact rfl) (by exact rfl) | exact opv_indexAddrI rfl rfl rfl (by omega) (by omega) (by first | omega ) | exact opv_fieldAddrE rfl rfl (by first | assumption | omega) | exact opv_loadEx rfl (by exact rfl) (by infer_instance) (by first | assumption ) | exact opv_load3 rfl (by exact rfl) (by infer_instance) (by assumption) (by assumption) (by assumption)) ?_ )
        | (refine gk 4 rfl ?_; first | refine sl_op rfl rfl rfl (opv_call rfl rfl rfl rfl rfl (hwf)) ?_ | (refine sl_callT rfl rfl rfl rfl rfl rfl rfl rfl (hN) ?_; rintro _ _ ⟨rfl, HW2, HP2, HT2, rfl, m2⟩; refine ⟨_, _, rfl, rfl, ?_⟩))
        | (refine gk 5 rfl ?_; first | refine sl_op rfl rfl rfl (by first | exact opv_nilCheck rfl rfl | exact opv_nilCheckE rfl rfl ) ?_ | refine sl_box rfl rfl rfl rfl rfl rfl (fun β => ?_) )
        | refine sl_region rfl ?_
        | refine sl_draw (by kernel_rfl) (by kernel_rfl) rfl ?_
        | refine sl_nil ?_
        | refine thn_k ?_
        | refine swp_true rfl ?_
        | refine swp_false rfl ?_
        | refine swp_block ?_
        | refine swp_ret ?_
        | refine swp_skip ?_
        | refine thn_ret ?_
        | refine inb_ret ?_
        )
      all_goals exact end_retL [specD βd b1 b2 b3 n k c1 c2 c3 r.2.rel, HW2, HP2, HT2] (resOk_one (resV_tmp rfl)) ⟨rfl, HW2, HP2, HT2, rfl, m2⟩
    · refine t_of_body Try.func54 rfl (Nat.le_of_ble_eq_true rfl) fun F => ?_
      repeat' (first
        | refine swp_seq ?_
        | (refine gk 0 rfl ?_; first | refine sl_op rfl rfl rfl (by first | exact opv_move rfl rfl | exact opv_assign rfl rfl | exact opv_pick_f rfl rfl rfl | exact opv_not_t rfl rfl ) ?_ )
        | (refine gk 2 rfl ?_; first | refine sl_yes rfl rfl rfl (by first | exact opv_eql rfl rfl rfl | exact opv_neq rfl rfl rfl) (by first | omega ) ?_ | refine sl_no rfl rfl rfl (by first | exact opv_eql rfl rfl rfl | exact opv_neq rfl rfl rfl) (by first | omega ) ?_ )
        | (refine gk 3 rfl ?_; first | refine sl_op rfl rfl rfl (by first | exact opv_load rfl (by exact rfl) rfl (by exact rfl) | exact opv_fieldAddr rfl rfl | exact opv_loadA rfl (by exact rfl) rfl (by exact rfl) (by exact rfl) | exact opv_indexAddrI rfl rfl rfl (by omega) (by omega) (by first | omega ) | exact opv_fieldAddrE rfl rfl (by first | assumption | omega) | exact opv_loadEx rfl (by exact rfl) (by infer_instance) (by first | assumption ) | exact opv_load3 rfl (by exact rfl) (by infer_instance) (by assumption) (by assumption) (by assumption)) ?_ )
        | (refine gk 4 rfl ?_; first | refine sl_op rfl rfl rfl (opv_call rfl rfl rfl rfl rfl (hwf)) ?_ | (refine sl_callT rfl rfl rfl rfl rfl rfl rfl rfl (hN) ?_; rintro _ _ ⟨rfl, HW2, HP2, HT2, rfl, m2⟩; refine ⟨_, _, rfl, rfl, ?_⟩))
        | (refine gk 5 rfl ?_; first | refine sl_op rfl rfl rfl (by first | exact opv_nilCheck rfl rfl | exact opv_nilCheckE rfl rfl ) ?_ | refine sl_box rfl rfl rfl rfl rfl rfl (fun β => ?_) )
        | refine sl_region rfl ?_
        | refine sl_draw (by kernel_rfl) (by kernel_rfl) rfl ?_
        | refine sl_nil ?_
        | refine thn_k ?_
        | refine swp_true rfl ?_
        | refine swp_false rfl ?_
        | refine swp_block ?_
        | refine swp_ret ?_
        | refine swp_skip ?_
        | refine thn_ret ?_
        | refine inb_ret ?_
        )
      all_goals exact end_retL [specD βd b1 b2 b3 n k c1 c2 c3 r.2.rel, HW2, HP2, HT2] (resOk_one (resV_tmp rfl)) ⟨rfl, HW2, HP2, HT2, rfl, m2⟩
end
end Go.Proofs.Ytimmclibnfdjhaa
end
section
/- The document's automaton: acts, whatever comes. -/
namespace Go.Proofs.Ytimmclibnfdjhaa
open Go.SL
theorem dact_calls {βd : Nat} {b1 b2 b3 : Option Addr} {n k c1 c2 c3 : Nat} {HW HP HT : Heap} {δ : DS} {e : Ev} [nn : NN b3] [n1 : NN b1] [n2 : NN b2] (m : MemD b1 b2 b3 n k c1 c2 c3 HW HP HT δ) (hsm : n ≤ 1000000) (hsk : k ≤ 1000000) (h0 : 0 ≤ e.thread ∧ e.thread < n) :
    SL.T Try.prog 54 [ptr βd, .agg ⟨ecells e⟩] [specD βd b1 b2 b3 n k c1 c2 c3 δ.rel, HW, HP, HT] (RetD βd b1 b2 b3 n k c1 c2 c3 (actD δ e)) := by
  have hn := m.hn
  have hk := m.hk
  have hd := m.hd
  obtain ⟨x, hx⟩ : ∃ x, δ.th[e.thread.toNat]? = some x := ⟨_, List.getElem?_eq_getElem (by omega)⟩
  unfold actD
  rw [hx]
  dsimp only
  rw [hn, hk]
  by_cases hno : noD n k x e
  · rw [if_pos hno]
    exact dact_no m hsm hsk h0 hx hno
  · rw [if_neg hno]
    have hno' := hno
    unfold noD wrongB at hno'
    simp only [not_or] at hno'
    obtain ⟨q1, ⟨w1, w2, w3, w4, w5⟩, q2, q3⟩ := hno'
    have q2 : e.obj = x.obj := Classical.byContradiction q2
    obtain ⟨ow, how⟩ : ∃ z, δ.ow[e.obj.toNat]? = some z := ⟨_, List.getElem?_eq_getElem (by omega)⟩
    obtain ⟨dp, hdp⟩ : ∃ z, δ.dp[e.obj.toNat]? = some z := ⟨_, List.getElem?_eq_getElem (by omega)⟩
    rw [how, hdp]
    dsimp only
    by_cases o0 : x.op = 0
    · exact dact_0 m hsm hsk h0 hx hno how hdp o0
    by_cases o1 : x.op = 1
    · exact dact_1 m hsm hsk h0 hx hno how hdp o1
    by_cases o7 : x.op = 7
    · exact dact_7 m hsm hsk h0 hx hno how hdp o7
    by_cases o4 : x.op = 4 ∨ x.op = 5
    · exact dact_4 m hsm hsk h0 hx hno how hdp o4
    by_cases o2 : x.op = 2 ∨ x.op = 3
    · exact dact_2 m hsm hsk h0 hx hno how hdp o2
    by_cases o6 : x.op = 6
    · exact dact_6 m hsm hsk h0 hx hno how hdp o6
    · exact dact_8 m hsm hsk h0 hx hno how hdp (by omega)
end Go.Proofs.Ytimmclibnfdjhaa
end
section
/- The document's automaton: events (dtake_act). -/
namespace Go.Proofs.Ytimmclibnfdjhaa
open Go.SL
set_option maxRecDepth 100000
set_option maxHeartbeats 16000000
attribute [local irreducible] SL.T PFn OpV SOL SWP HOp ChU
section
variable {βd : Nat} {b1 b2 b3 : Option Addr} {n k c1 c2 c3 : Nat}
theorem dtake_act {HW HP HT : Heap} {δ : DS} {x : DT} {e : Ev} [nn : NN b3] [n1 : NN b1] [n2 : NN b2] (m : MemD b1 b2 b3 n k c1 c2 c3 HW HP HT δ) (hsm : n ≤ 1000000) (hsk : k ≤ 1000000) (h0 : 0 ≤ e.thread ∧ e.thread < n) (h : δ.th[e.thread.toNat]? = some x) (hkind : e.kind = 1) :
    SL.T Try.prog 38 [ptr βd, .agg ⟨ecells e⟩] [specD βd b1 b2 b3 n k c1 c2 c3 δ.rel, HW, HP, HT] (RetD βd b1 b2 b3 n k c1 c2 c3 (takeD δ e)) := by
  obtain ⟨osW, osP, os, hn, hk, hd⟩ := id m
  haveI slT := os.sl
  have hl := dts_length δ.th
  have htl : e.thread.toNat < δ.th.length := (List.getElem?_eq_some_iff.1 h).1
  have hl1 : e.thread.toNat * 11 < (dts δ.th).length := by omega
  have a0 : (dts δ.th)[e.thread.toNat * 11 + 0]? = some (i64 x.calls) := dts_at h 0 _ rfl
  have a1 : (dts δ.th)[e.thread.toNat * 11 + 1]? = some (.bool x.opn) := dts_at h 1 _ rfl
  have a2 : (dts δ.th)[e.thread.toNat * 11 + 2]? = some (i64 x.op) := dts_at h 2 _ rfl
  have a3 : (dts δ.th)[e.thread.toNat * 11 + 2 + 1]? = some (i64 x.obj) := dts_at h 3 _ rfl
  have a4 : (dts δ.th)[e.thread.toNat * 11 + 2 + 2]? = some (i64 x.arg) := dts_at h 4 _ rfl
  have a5 : (dts δ.th)[e.thread.toNat * 11 + 5]? = some (i64 x.far) := dts_at h 5 _ rfl
  have a6 : (dts δ.th)[e.thread.toNat * 11 + 6]? = some (i64 x.code) := dts_at h 6 _ rfl
  have a7 : (dts δ.th)[e.thread.toNat * 11 + 6 + 1]? = some (i64 x.val) := dts_at h 7 _ rfl
  have hF0 : takeD δ e = (if e.index = 0 ∧ e.code = 0 ∧ e.val = 0 then actD δ e else (false, δ)) := by
    unfold takeD
    rw [if_neg (by rw [hn]; exact fun q => q h0), h]
    dsimp only
    rw [if_neg (by omega), if_pos hkind]
  have fin : ∀ r, takeD δ e = r → SL.T Try.prog 38 [ptr βd, .agg ⟨ecells e⟩] [specD βd b1 b2 b3 n k c1 c2 c3 δ.rel, HW, HP, HT] (RetD βd b1 b2 b3 n k c1 c2 c3 r) → SL.T Try.prog 38 [ptr βd, .agg ⟨ecells e⟩] [specD βd b1 b2 b3 n k c1 c2 c3 δ.rel, HW, HP, HT] (RetD βd b1 b2 b3 n k c1 c2 c3 (takeD δ e)) := fun r e h => by rw [e]; exact h
  unfold RetD at fin ⊢
  have hA := dact_calls (βd := βd) (e := e) m hsm hsk h0
  unfold RetD at hA
  by_cases hi : e.index = 0
  · by_cases hc : e.code = 0 ∧ e.val = 0
    · refine fin (actD δ e) (by rw [hF0]; exact if_pos ⟨hi, hc⟩) ?_
      have hres : (decide (e.code = 0) && (decide (e.val = 0) && true)) = true := by simp [hc.1, hc.2]
      generalize actD δ e = r at hA ⊢
      refine t_of_body Try.func38 rfl (Nat.le_of_ble_eq_true rfl) fun F => ?_
      repeat' (first
        | refine swp_seq ?_
        | (refine gk 0 rfl ?_; first | refine sl_op rfl rfl rfl (by first | exact opv_move rfl rfl | exact opv_assign rfl rfl | exact opv_pick_t rfl rfl rfl | exact opv_pick_f rfl rfl rfl ) ?_ )
        | (refine gk 2 rfl ?_; first | refine sl_yes rfl rfl rfl (by first | exact opv_lss rfl rfl rfl | exact opv_geq rfl rfl rfl | exact opv_eql rfl rfl rfl ) (by first | omega ) ?_ | refine sl_no rfl rfl rfl (by first | exact opv_lss rfl rfl rfl | exact opv_geq rfl rfl rfl | exact opv_eql rfl rfl rfl ) (by first | omega ) ?_ | refine sl_tt rfl rfl rfl (by first | exact opv_eqlS rfl rfl rfl rfl ) (by first | assumption) ?_ )
        | (refine gk 3 rfl ?_; first | refine sl_op rfl rfl rfl (by first | exact opv_load rfl (by exact rfl) rfl (by exact rfl) | exact opv_fieldAddr rfl rfl | exact opv_loadA rfl (by exact rfl) rfl (by exact rfl) (by exact rfl) | exact opv_indexAddrI rfl rfl rfl (by omega) (by omega) (by first | omega ) ) ?_ )
        | (refine gk 4 rfl ?_; first | refine sl_op rfl rfl rfl (by first | exact opv_len rfl rfl rfl rfl rfl ) ?_ | (refine sl_callT rfl rfl rfl rfl rfl rfl rfl rfl (hA) ?_; rintro _ _ ⟨rfl, HW2, HP2, HT2, rfl, m2⟩; refine ⟨_, _, rfl, rfl, ?_⟩))
        | (refine gk 5 rfl ?_; first | refine sl_op rfl rfl rfl (by first | exact opv_nilCheck rfl rfl | exact opv_build rfl rfl (by exact rfl) ) ?_ | refine sl_box rfl rfl rfl rfl rfl rfl (fun β => ?_) | refine sl_alloc rfl rfl rfl rfl (by exact rfl) (fun β => ?_) | refine sl_store rfl rfl rfl rfl rfl rfl (by exact rfl) rfl (by exact rfl) ?_)
        | refine sl_region rfl ?_
        | refine sl_draw (by kernel_rfl) (by kernel_rfl) rfl ?_
        | refine sl_nil ?_
        | refine thn_k ?_
        | refine swp_true rfl ?_
        | refine swp_false rfl ?_
        | refine swp_block ?_
        | refine swp_ret ?_
        | refine swp_skip ?_
        | refine thn_ret ?_
        | refine inb_ret ?_
        )
      exact end_retL [specD βd b1 b2 b3 n k c1 c2 c3 r.2.rel, HW2, HP2, HT2] (resOk_one (resV_tmp rfl)) ⟨rfl, HW2, HP2, HT2, rfl, m2⟩
    · have hres : (decide (e.code = 0) && (decide (e.val = 0) && true)) = false := by
        simp
        exact fun a b => hc ⟨a, b⟩
      refine fin (false, δ) (by rw [hF0]; exact if_neg fun q => hc q.2) ?_
      refine t_of_body Try.func38 rfl (Nat.le_of_ble_eq_true rfl) fun F => ?_
      repeat' (first
        | refine swp_seq ?_
        | (refine gk 0 rfl ?_; first | refine sl_op rfl rfl rfl (by first | exact opv_move rfl rfl | exact opv_assign rfl rfl | exact opv_pick_t rfl rfl rfl | exact opv_pick_f rfl rfl rfl ) ?_ | refine sl_pass rfl rfl rfl rfl ?_)
        | (refine gk 2 rfl ?_; first | refine sl_yes rfl rfl rfl (by first | exact opv_lss rfl rfl rfl | exact opv_geq rfl rfl rfl | exact opv_eql rfl rfl rfl ) (by first | omega ) ?_ | refine sl_no rfl rfl rfl (by first | exact opv_lss rfl rfl rfl | exact opv_geq rfl rfl rfl | exact opv_eql rfl rfl rfl ) (by first | omega ) ?_ | refine sl_ff rfl rfl rfl (by first | exact opv_eqlS rfl rfl rfl rfl ) (by first | assumption) ?_ )
        | (refine gk 3 rfl ?_; first | refine sl_op rfl rfl rfl (by first | exact opv_load rfl (by exact rfl) rfl (by exact rfl) | exact opv_fieldAddr rfl rfl | exact opv_loadA rfl (by exact rfl) rfl (by exact rfl) (by exact rfl) | exact opv_indexAddrI rfl rfl rfl (by omega) (by omega) (by first | omega ) ) ?_ | refine sl_pass rfl rfl rfl rfl ?_)
        | (refine gk 4 rfl ?_; first | refine sl_pass rfl rfl rfl rfl ?_ | refine sl_op rfl rfl rfl (by first | exact opv_len rfl rfl rfl rfl rfl ) ?_)
        | (refine gk 5 rfl ?_; first | refine sl_op rfl rfl rfl (by first | exact opv_nilCheck rfl rfl | exact opv_build rfl rfl (by exact rfl) ) ?_ | refine sl_box rfl rfl rfl rfl rfl rfl (fun β => ?_) | refine sl_alloc rfl rfl rfl rfl (by exact rfl) (fun β => ?_) | refine sl_store rfl rfl rfl rfl rfl rfl (by exact rfl) rfl (by exact rfl) ?_)
        | refine sl_region rfl ?_
        | refine sl_draw (by kernel_rfl) (by kernel_rfl) rfl ?_
        | refine sl_nil ?_
        | refine thn_k ?_
        | refine swp_true rfl ?_
        | refine swp_false rfl ?_
        | refine swp_block ?_
        | refine swp_ret ?_
        | refine swp_skip ?_
        | refine thn_ret ?_
        | refine inb_ret ?_
        )
      all_goals exact end_retL [specD βd b1 b2 b3 n k c1 c2 c3 δ.rel, HW, HP, HT] (resOk_one (resV_tmp rfl)) ⟨rfl, HW, HP, HT, rfl, m⟩
  · refine fin (false, δ) (by rw [hF0]; exact if_neg fun q => hi q.1) ?_
    refine t_of_body Try.func38 rfl (Nat.le_of_ble_eq_true rfl) fun F => ?_
    repeat' (first
      | refine swp_seq ?_
      | (refine gk 0 rfl ?_; first | refine sl_op rfl rfl rfl (by first | exact opv_move rfl rfl | exact opv_assign rfl rfl | exact opv_pick_f rfl rfl rfl ) ?_ | refine sl_pass rfl rfl rfl rfl ?_)
      | (refine gk 2 rfl ?_; first | refine sl_pass rfl rfl rfl rfl ?_ | refine sl_yes rfl rfl rfl (by first | exact opv_lss rfl rfl rfl | exact opv_geq rfl rfl rfl | exact opv_eql rfl rfl rfl ) (by first | omega ) ?_ | refine sl_no rfl rfl rfl (by first | exact opv_lss rfl rfl rfl | exact opv_geq rfl rfl rfl | exact opv_eql rfl rfl rfl ) (by first | omega ) ?_ )
      | (refine gk 3 rfl ?_; first | refine sl_op rfl rfl rfl (by first | exact opv_load rfl (by exact rfl) rfl (by exact rfl) | exact opv_fieldAddr rfl rfl | exact opv_loadA rfl (by exact rfl) rfl (by exact rfl) (by exact rfl) | exact opv_indexAddrI rfl rfl rfl (by omega) (by omega) (by first | omega ) ) ?_ | refine sl_pass rfl rfl rfl rfl ?_)
      | (refine gk 4 rfl ?_; first | refine sl_pass rfl rfl rfl rfl ?_ | refine sl_op rfl rfl rfl (by first | exact opv_len rfl rfl rfl rfl rfl ) ?_)
      | (refine gk 5 rfl ?_; first | refine sl_op rfl rfl rfl (by first | exact opv_nilCheck rfl rfl | exact opv_build rfl rfl (by exact rfl) ) ?_ | refine sl_box rfl rfl rfl rfl rfl rfl (fun β => ?_) | refine sl_alloc rfl rfl rfl rfl (by exact rfl) (fun β => ?_) | refine sl_store rfl rfl rfl rfl rfl rfl (by exact rfl) rfl (by exact rfl) ?_)
      | refine sl_region rfl ?_
      | refine sl_draw (by kernel_rfl) (by kernel_rfl) rfl ?_
      | refine sl_nil ?_
      | refine thn_k ?_
      | refine swp_true rfl ?_
      | refine swp_false rfl ?_
      | refine swp_block ?_
      | refine swp_ret ?_
      | refine swp_skip ?_
      | refine thn_ret ?_
      | refine inb_ret ?_
      )
    all_goals exact end_retL [specD βd b1 b2 b3 n k c1 c2 c3 δ.rel, HW, HP, HT] (resOk_one (resV_tmp rfl)) ⟨rfl, HW, HP, HT, rfl, m⟩
end
end Go.Proofs.Ytimmclibnfdjhaa
end
