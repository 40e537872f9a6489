/- The document's automaton: waiting (dwait_4). -/
import Derived.Test.YtimmclibnfdjhaaWD6
set_option linter.unusedVariables false
set_option linter.unusedSimpArgs false
set_option linter.unusedSectionVars false
section
namespace Go.Proofs.Ytimmclibnfdjhaa
open Go.SL
set_option maxRecDepth 100000
set_option maxHeartbeats 16000000
attribute [local irreducible] SL.T PFn OpV SOL SWP HOp ChU
section
variable {βd : Nat} {b1 b2 b3 : Option Addr} {n k c1 c2 c3 : Nat}
theorem dwait_4 {HW HP HT : Heap} {δ : DS} {t : Nat} {x : DT} (owns : Bool) (e : Ev) [nn : NN b3] [n1 : NN b1] [n2 : NN b2] (m : MemD b1 b2 b3 n k c1 c2 c3 HW HP HT δ) (hsm : n ≤ 1000000) (hsk : k ≤ 1000000) (h : δ.th[t]? = some x) (ho0 : 0 ≤ e.obj) (hok : e.obj < k) (h4 : e.act = 4) {ow dp : Int} (how : δ.ow[e.obj.toNat]? = some ow) (hdp : δ.dp[e.obj.toNat]? = some dp) :
    SL.T Try.prog 65 [ptr βd, ept b3 (t * 11), .bool owns, .agg ⟨ecells e⟩] [specD βd b1 b2 b3 n k c1 c2 c3 δ.rel, HW, HP, HT] (RetD βd b1 b2 b3 n k c1 c2 c3 (waitDf δ t e.obj.toNat x ow dp owns e)) := by
  obtain ⟨osW, osP, os, hn, hk, hd⟩ := id m
  haveI slT := os.sl
  haveI slW := osW.sl
  haveI slP := osP.sl
  have hl := dts_length δ.th
  have htl : t < δ.th.length := (List.getElem?_eq_some_iff.1 h).1
  have hl1 : t * 11 < (dts δ.th).length := by omega
  have a2 : (dts δ.th)[t * 11 + 2 + 0]? = some (i64 x.op) := dts_at h 2 _ rfl
  have a5 : (dts δ.th)[t * 11 + 5]? = some (i64 x.far) := dts_at h 5 _ rfl
  have a8 : (dts δ.th)[t * 11 + 8]? = some (.bool x.flag) := dts_at h 8 _ rfl
  have a9 : (dts δ.th)[t * 11 + 9]? = some (i64 x.saved) := dts_at h 9 _ rfl
  have lW : (δ.ow.map i64).length = k := by simp [hk]
  have lP : (δ.dp.map i64).length = k := by simp [hd]
  have hWk : (δ.ow.map i64)[e.obj.toNat * 1]? = some (i64 ow) := by simp [how]
  have hPk : (δ.dp.map i64)[e.obj.toNat * 1]? = some (i64 dp) := by simp [hdp]
  have hkW : e.obj.toNat < δ.ow.length := by omega
  have hkP : e.obj.toNat < δ.dp.length := by omega
  have sW := fun z => ints_set (x := z) hkW
  have sP := fun z => ints_set (x := z) hkP
  have fin : ∀ r, waitDf δ t e.obj.toNat x ow dp owns e = r → SL.T Try.prog 65 [ptr βd, ept b3 (t * 11), .bool owns, .agg ⟨ecells e⟩] [specD βd b1 b2 b3 n k c1 c2 c3 δ.rel, HW, HP, HT] (RetD βd b1 b2 b3 n k c1 c2 c3 r) → SL.T Try.prog 65 [ptr βd, ept b3 (t * 11), .bool owns, .agg ⟨ecells e⟩] [specD βd b1 b2 b3 n k c1 c2 c3 δ.rel, HW, HP, HT] (RetD βd b1 b2 b3 n k c1 c2 c3 (waitDf δ t e.obj.toNat x ow dp owns e)) := fun r e h => by rw [e]; exact h
  unfold RetD at fin ⊢
  have hfi := fun c v => finish_calls c v os h
  by_cases hc : (x.far = 2 ∧ (e.other = 3 ∨ (e.other = 1 ∧ x.op = 3))) ∨ (x.far = 3 ∧ e.other = 2)
  · refine fin (true, δ.mod t fun y => { y with far := 4, code := 0, val := e.other }) (by simp only [waitDf, h4]; simp [hc]) ?_
    have h2' := set_at (t' := { x with far := 4 }) h
    have l2 := dts_length (δ.th.set t { x with far := 4 })
    rw [List.length_set] at l2
    have hl2 : t * 11 < (dts (δ.th.set t { x with far := 4 })).length := by omega
    have s1 := dts_set (i := 5) (vs := [i64 4]) (t' := { x with far := 4 }) h (by decide) rfl
    have s2 := dts_set (i := 6) (vs := [i64 0, i64 e.other]) (t' := { x with far := 4, code := 0, val := e.other }) h2' (by simp) rfl
    rw [List.set_set, ← mod_set (f := fun y => { y with far := 4, code := 0, val := e.other }) h] at s2
    refine t_of_body Try.func65 rfl (Nat.le_of_ble_eq_true rfl) fun F => ?_
    repeat' (first
      | (refine sl_storeE rfl rfl rfl rfl rfl os rfl rfl rfl (Nat.succ_pos _) (by simp; omega) s1 (fun HT2 os2 => ?_); haveI slT2 := os2.sl)
      | refine sl_storeE rfl rfl rfl rfl rfl os2 rfl rfl rfl (Nat.succ_pos _) (by simp; omega) s2 (fun HT3 os3 => ?_)
      | refine swp_seq ?_
      | (refine gk 0 rfl ?_; first | refine sl_op rfl rfl rfl (by first | exact opv_move rfl rfl | exact opv_assign rfl rfl | exact opv_pick_t rfl rfl rfl | exact opv_pick_f rfl rfl rfl | exact opv_not_t rfl rfl | exact opv_not_f rfl rfl ) ?_ | refine sl_pass rfl rfl rfl rfl ?_)
      | (refine gk 2 rfl ?_; first | refine sl_pass rfl rfl rfl rfl ?_ | refine sl_yes rfl rfl rfl (by first | exact opv_eql rfl rfl rfl | exact opv_neq rfl rfl rfl) (by first | omega ) ?_ | refine sl_no rfl rfl rfl (by first | exact opv_eql rfl rfl rfl | exact opv_neq rfl rfl rfl) (by first | omega ) ?_ | refine sl_if rfl rfl rfl (by first | exact opv_eql rfl rfl rfl ) (fun h => ?_) (fun h => ?_) )
      | (refine gk 3 rfl ?_; first | refine sl_op rfl rfl rfl (by first | exact opv_load rfl (by exact rfl) rfl (by exact rfl) | exact opv_fieldAddr rfl rfl | exact opv_fieldAddrE rfl rfl (by first | assumption | omega) | exact opv_loadEx rfl (by exact rfl) (by infer_instance) (by first | assumption ) ) ?_ | refine sl_pass rfl rfl rfl rfl ?_)
      | (refine gk 5 rfl ?_; first | refine sl_op rfl rfl rfl (by first | exact opv_nilCheckE rfl rfl | exact opv_build rfl rfl (by exact rfl) ) ?_ | refine sl_pass rfl rfl rfl rfl ?_ | refine sl_box rfl rfl rfl rfl rfl rfl (fun β => ?_) )
      | refine sl_region rfl ?_
      | refine sl_nil ?_
      | refine thn_k ?_
      | refine swp_true rfl ?_
      | refine swp_false rfl ?_
      | refine swp_block ?_
      | refine swp_ret ?_
      | refine swp_skip ?_
      | refine thn_ret ?_
      | refine inb_ret ?_
      )
    all_goals exact end_retL [specD βd b1 b2 b3 n k c1 c2 c3 δ.rel, HW, HP, HT3] (resOk_one (resV_tmp rfl)) ⟨rfl, HW, HP, HT3, rfl, m.mod os3⟩
  · refine fin (false, δ) (by simp only [waitDf, h4]; simp [hc]) ?_
    refine t_of_body Try.func65 rfl (Nat.le_of_ble_eq_true rfl) fun F => ?_
    repeat' (first
      | refine swp_seq ?_
      | (refine gk 0 rfl ?_; first | refine sl_op rfl rfl rfl (by first | exact opv_move rfl rfl | exact opv_assign rfl rfl | exact opv_pick_t rfl rfl rfl | exact opv_pick_f rfl rfl rfl | exact opv_not_f rfl rfl ) ?_ | refine sl_pass rfl rfl rfl rfl ?_)
      | (refine gk 2 rfl ?_; first | refine sl_pass rfl rfl rfl rfl ?_ | refine sl_yes rfl rfl rfl (by first | exact opv_eql rfl rfl rfl | exact opv_neq rfl rfl rfl) (by first | omega ) ?_ | refine sl_no rfl rfl rfl (by first | exact opv_eql rfl rfl rfl | exact opv_neq rfl rfl rfl) (by first | omega ) ?_ | refine sl_if rfl rfl rfl (by first | exact opv_eql rfl rfl rfl | exact opv_neq rfl rfl rfl) (fun h => ?_) (fun h => ?_) )
      | (refine gk 3 rfl ?_; first | refine sl_op rfl rfl rfl (by first | exact opv_load rfl (by exact rfl) rfl (by exact rfl) | exact opv_fieldAddr rfl rfl | exact opv_fieldAddrE rfl rfl (by first | assumption | omega) | exact opv_loadEx rfl (by exact rfl) (by infer_instance) (by first | assumption ) ) ?_ | refine sl_pass rfl rfl rfl rfl ?_)
      | (refine gk 5 rfl ?_; first | refine sl_op rfl rfl rfl (by first | exact opv_nilCheckE rfl rfl ) ?_ | refine sl_pass rfl rfl rfl rfl ?_ | refine sl_box rfl rfl rfl rfl rfl rfl (fun β => ?_) )
      | refine sl_region rfl ?_
      | refine sl_nil ?_
      | refine thn_k ?_
      | refine swp_true rfl ?_
      | refine swp_false rfl ?_
      | refine swp_block ?_
      | refine swp_ret ?_
      | refine thn_ret ?_
      | refine inb_ret ?_
      )
    all_goals exact end_retL [specD βd b1 b2 b3 n k c1 c2 c3 δ.rel, HW, HP, HT] (resOk_one (resV_tmp rfl)) ⟨rfl, HW, HP, HT, rfl, m⟩
end
end Go.Proofs.Ytimmclibnfdjhaa
end
section
/- The document's automaton: waiting (dwait_5). -/
namespace Go.Proofs.Ytimmclibnfdjhaa
open Go.SL
set_option maxRecDepth 100000
set_option maxHeartbeats 16000000
attribute [local irreducible] SL.T PFn OpV SOL SWP HOp ChU
section
variable {βd : Nat} {b1 b2 b3 : Option Addr} {n k c1 c2 c3 : Nat}
theorem dwait_5 {HW HP HT : Heap} {δ : DS} {t : Nat} {x : DT} (owns : Bool) (e : Ev) [nn : NN b3] [n1 : NN b1] [n2 : NN b2] (m : MemD b1 b2 b3 n k c1 c2 c3 HW HP HT δ) (hsm : n ≤ 1000000) (hsk : k ≤ 1000000) (h : δ.th[t]? = some x) (ho0 : 0 ≤ e.obj) (hok : e.obj < k) (h8 : e.act ≠ 8) (h7 : e.act ≠ 7) (h2 : e.act ≠ 2) (h4 : e.act ≠ 4) {ow dp : Int} (how : δ.ow[e.obj.toNat]? = some ow) (hdp : δ.dp[e.obj.toNat]? = some dp) :
    SL.T Try.prog 65 [ptr βd, ept b3 (t * 11), .bool owns, .agg ⟨ecells e⟩] [specD βd b1 b2 b3 n k c1 c2 c3 δ.rel, HW, HP, HT] (RetD βd b1 b2 b3 n k c1 c2 c3 (waitDf δ t e.obj.toNat x ow dp owns e)) := by
  obtain ⟨osW, osP, os, hn, hk, hd⟩ := id m
  haveI slT := os.sl
  haveI slW := osW.sl
  haveI slP := osP.sl
  have hl := dts_length δ.th
  have htl : t < δ.th.length := (List.getElem?_eq_some_iff.1 h).1
  have hl1 : t * 11 < (dts δ.th).length := by omega
  have a2 : (dts δ.th)[t * 11 + 2 + 0]? = some (i64 x.op) := dts_at h 2 _ rfl
  have a5 : (dts δ.th)[t * 11 + 5]? = some (i64 x.far) := dts_at h 5 _ rfl
  have a8 : (dts δ.th)[t * 11 + 8]? = some (.bool x.flag) := dts_at h 8 _ rfl
  have a9 : (dts δ.th)[t * 11 + 9]? = some (i64 x.saved) := dts_at h 9 _ rfl
  have lW : (δ.ow.map i64).length = k := by simp [hk]
  have lP : (δ.dp.map i64).length = k := by simp [hd]
  have hWk : (δ.ow.map i64)[e.obj.toNat * 1]? = some (i64 ow) := by simp [how]
  have hPk : (δ.dp.map i64)[e.obj.toNat * 1]? = some (i64 dp) := by simp [hdp]
  have hkW : e.obj.toNat < δ.ow.length := by omega
  have hkP : e.obj.toNat < δ.dp.length := by omega
  have sW := fun z => ints_set (x := z) hkW
  have sP := fun z => ints_set (x := z) hkP
  have fin : ∀ r, waitDf δ t e.obj.toNat x ow dp owns e = r → SL.T Try.prog 65 [ptr βd, ept b3 (t * 11), .bool owns, .agg ⟨ecells e⟩] [specD βd b1 b2 b3 n k c1 c2 c3 δ.rel, HW, HP, HT] (RetD βd b1 b2 b3 n k c1 c2 c3 r) → SL.T Try.prog 65 [ptr βd, ept b3 (t * 11), .bool owns, .agg ⟨ecells e⟩] [specD βd b1 b2 b3 n k c1 c2 c3 δ.rel, HW, HP, HT] (RetD βd b1 b2 b3 n k c1 c2 c3 (waitDf δ t e.obj.toNat x ow dp owns e)) := fun r e h => by rw [e]; exact h
  unfold RetD at fin ⊢
  have hfi := fun c v => finish_calls c v os h
  by_cases h5 : e.act = 5
  · by_cases hc : e.other = 0 ∧ x.far = 4 ∧ ow < 0
    · refine fin (true, (δ.obj e.obj.toNat e.thread x.saved).mod t (fun y : DT => { y with far := 5 })) (by simp [waitDf, h5, hc]) ?_
      have s1 := dts_set (i := 5) (vs := [i64 5]) (t' := { x with far := 5 }) h (by simp) rfl
      rw [← mod_set (f := (fun y : DT => { y with far := 5 })) h] at s1
      refine t_of_body Try.func65 rfl (Nat.le_of_ble_eq_true rfl) fun F => ?_
      repeat' (first
        | refine swp_seq ?_
        | (refine gk 0 rfl ?_; first | refine sl_op rfl rfl rfl (by first | exact opv_move rfl rfl | exact opv_assign rfl rfl | exact opv_pick_t rfl rfl rfl | exact opv_pick_f rfl rfl rfl ) ?_ | refine sl_pass rfl rfl rfl rfl ?_)
        | (refine gk 2 rfl ?_; first | refine sl_pass rfl rfl rfl rfl ?_ | refine sl_yes rfl rfl rfl (by first | exact opv_lss rfl rfl rfl | exact opv_eql rfl rfl rfl ) (by first | omega ) ?_ | refine sl_no rfl rfl rfl (by first | exact opv_eql rfl rfl rfl ) (by first | omega ) ?_ )
        | (refine gk 3 rfl ?_; first | refine sl_op rfl rfl rfl (by first | exact opv_load rfl (by exact rfl) rfl (by exact rfl) | exact opv_fieldAddr rfl rfl | exact opv_indexAddrI rfl rfl rfl (by omega) (by omega) (by first | omega ) | exact opv_fieldAddrE rfl rfl (by first | assumption ) | exact opv_loadEx rfl (by exact rfl) (by infer_instance) (by first | assumption ) ) ?_ | refine sl_pass rfl rfl rfl rfl ?_)
        | (refine gk 5 rfl ?_; first | refine sl_op rfl rfl rfl (by first | exact opv_nilCheck rfl rfl | exact opv_nilCheckE rfl rfl ) ?_ | refine sl_pass rfl rfl rfl rfl ?_ | refine sl_box rfl rfl rfl rfl rfl rfl (fun β => ?_) )
        | refine sl_region rfl ?_
        | refine sl_nil ?_
        | refine thn_k ?_
        | refine swp_true rfl ?_
        | refine swp_false rfl ?_
        | refine swp_block ?_
        )
      refine sl_drawC [.q [0, 1, 2, 3, 4, 5, 6, 7, 8], .f [9], .q [10, 11, 12, 13, 14, 15, 16], .h true 17, .q [18], .h true 19] [] (by kernel_rfl) (by kernel_rfl) (by kernel_rfl) (by kernel_rfl) ?_
      repeat' (first
        | (refine sl_storeE rfl rfl rfl rfl rfl os rfl rfl rfl (Nat.succ_pos _) (by simp; omega) s1 (fun HT2 os2 => ?_); haveI slHT2 := os2.sl)
        | refine swp_seq ?_
        | (refine gk 0 rfl ?_; first | refine sl_op rfl rfl rfl (by first | exact opv_move rfl rfl | exact opv_assign rfl rfl ) ?_ )
        | (refine gk 3 rfl ?_; first | refine sl_op rfl rfl rfl (by first | exact opv_load rfl (by exact rfl) rfl (by exact rfl) | exact opv_fieldAddr rfl rfl | exact opv_indexAddrI rfl rfl rfl (by omega) (by omega) (by first | omega ) | exact opv_fieldAddrE rfl rfl (by first | assumption ) | exact opv_loadEx rfl (by exact rfl) (by infer_instance) (by first | assumption ) ) ?_ )
        | (refine gk 5 rfl ?_; first | refine sl_op rfl rfl rfl (by first | exact opv_nilCheck rfl rfl | exact opv_nilCheckE rfl rfl ) ?_ )
        | refine sl_region rfl ?_
        | refine chu_nil ?_
        | refine chu_q rfl ?_
        | refine chu_f rfl ?_
        | (refine chu_storeE rfl rfl rfl rfl rfl rfl osW rfl rfl rfl (Nat.succ_pos _) (by simp; omega) (sW e.thread) (fun HW2 osW2 => ?_); haveI slHW2 := osW2.sl)
        | (refine chu_storeE rfl rfl rfl rfl rfl rfl osP rfl rfl rfl (Nat.succ_pos _) (by simp; omega) (sP x.saved) (fun HP2 osP2 => ?_); haveI slHP2 := osP2.sl)
        | refine sl_nil ?_
        | refine thn_k ?_
        | refine swp_ret ?_
        | refine thn_ret ?_
        | refine inb_ret ?_
        )
      exact end_retL [specD βd b1 b2 b3 n k c1 c2 c3 δ.rel, HW2, HP2, HT2] (resOk_one (resV_tmp rfl)) ⟨rfl, HW2, HP2, HT2, rfl, osW2, osP2, os2, by simp [DS.mod, DS.obj, hn], by simp [DS.mod, DS.obj, hk], by simp [DS.mod, DS.obj, hd]⟩
    · refine fin (false, δ) (by simp only [waitDf, h5]; simp; intro q1 q2; exact Int.not_lt.1 fun q3 => hc ⟨q1, q2, q3⟩) ?_
      refine t_of_body Try.func65 rfl (Nat.le_of_ble_eq_true rfl) fun F => ?_
      repeat' (first
        | refine swp_seq ?_
        | (refine gk 0 rfl ?_; first | refine sl_op rfl rfl rfl (by first | exact opv_move rfl rfl | exact opv_assign rfl rfl | exact opv_pick_t rfl rfl rfl | exact opv_pick_f rfl rfl rfl ) ?_ | refine sl_pass rfl rfl rfl rfl ?_)
        | (refine gk 2 rfl ?_; first | refine sl_pass rfl rfl rfl rfl ?_ | refine sl_yes rfl rfl rfl (by first | exact opv_lss rfl rfl rfl | exact opv_eql rfl rfl rfl ) (by first | omega ) ?_ | refine sl_no rfl rfl rfl (by first | exact opv_lss rfl rfl rfl | exact opv_eql rfl rfl rfl ) (by first | omega ) ?_ | refine sl_if rfl rfl rfl (by first | exact opv_eql rfl rfl rfl ) (fun h => ?_) (fun h => ?_) )
        | (refine gk 3 rfl ?_; first | refine sl_op rfl rfl rfl (by first | exact opv_load rfl (by exact rfl) rfl (by exact rfl) | exact opv_fieldAddr rfl rfl | exact opv_indexAddrI rfl rfl rfl (by omega) (by omega) (by first | omega ) | exact opv_fieldAddrE rfl rfl (by first | assumption ) | exact opv_loadEx rfl (by exact rfl) (by infer_instance) (by first | assumption ) ) ?_ | refine sl_pass rfl rfl rfl rfl ?_)
        | (refine gk 5 rfl ?_; first | refine sl_op rfl rfl rfl (by first | exact opv_nilCheck rfl rfl | exact opv_nilCheckE rfl rfl ) ?_ | refine sl_pass rfl rfl rfl rfl ?_ | refine sl_box rfl rfl rfl rfl rfl rfl (fun β => ?_) )
        | refine sl_region rfl ?_
        | refine sl_nil ?_
        | refine thn_k ?_
        | refine swp_false rfl ?_
        | refine swp_block ?_
        | refine swp_ret ?_
        | refine swp_skip ?_
        )
      all_goals exact end_retL [specD βd b1 b2 b3 n k c1 c2 c3 δ.rel, HW, HP, HT] (resOk_one (resV_tmp rfl)) ⟨rfl, HW, HP, HT, rfl, m⟩
  · refine fin (false, δ) (by simp [waitDf, h8, h7, h2, h4, h5]) ?_
    refine t_of_body Try.func65 rfl (Nat.le_of_ble_eq_true rfl) fun F => ?_
    repeat' (first
      | refine swp_seq ?_
      | (refine gk 0 rfl ?_; first | refine sl_op rfl rfl rfl (by first | exact opv_move rfl rfl | exact opv_assign rfl rfl | exact opv_pick_f rfl rfl rfl ) ?_ | refine sl_pass rfl rfl rfl rfl ?_)
      | (refine gk 2 rfl ?_; first | refine sl_pass rfl rfl rfl rfl ?_ | refine sl_no rfl rfl rfl (by first | exact opv_eql rfl rfl rfl ) (by first | omega ) ?_ )
      | (refine gk 3 rfl ?_; first | refine sl_op rfl rfl rfl (by first | exact opv_load rfl (by exact rfl) rfl (by exact rfl) | exact opv_fieldAddr rfl rfl ) ?_ | refine sl_pass rfl rfl rfl rfl ?_)
      | (refine gk 5 rfl ?_; first | refine sl_pass rfl rfl rfl rfl ?_ | refine sl_box rfl rfl rfl rfl rfl rfl (fun β => ?_) )
      | refine sl_region rfl ?_
      | refine sl_nil ?_
      | refine thn_k ?_
      | refine swp_false rfl ?_
      | refine swp_block ?_
      | refine swp_ret ?_
      | refine swp_skip ?_
      )
    all_goals exact end_retL [specD βd b1 b2 b3 n k c1 c2 c3 δ.rel, HW, HP, HT] (resOk_one (resV_tmp rfl)) ⟨rfl, HW, HP, HT, rfl, m⟩
end
end Go.Proofs.Ytimmclibnfdjhaa
end
