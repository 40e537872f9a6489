/- The document's automaton: waiting (dwait_7). -/
import Derived.Test.YtimmclibnfdjhaaWD6
set_option linter.unusedVariables false
set_option linter.unusedSimpArgs false
set_option linter.unusedSectionVars false
set_option linter.unusedVariables false
set_option linter.unusedSimpArgs false
set_option linter.unusedSectionVars false
namespace Go.Proofs.Ytimmclibnfdjhaa
open Go.SL
set_option maxRecDepth 100000
set_option maxHeartbeats 16000000
attribute [local irreducible] SL.T PFn OpV SOL SWP HOp ChU
section
variable {βd : Nat} {b1 b2 b3 : Option Addr} {n k c1 c2 c3 : Nat}
theorem dwait_7 {HW HP HT : Heap} {δ : DS} {t : Nat} {x : DT} (owns : Bool) (e : Ev) [nn : NN b3] [n1 : NN b1] [n2 : NN b2] (m : MemD b1 b2 b3 n k c1 c2 c3 HW HP HT δ) (hsm : n ≤ 1000000) (hsk : k ≤ 1000000) (h : δ.th[t]? = some x) (ho0 : 0 ≤ e.obj) (hok : e.obj < k) (h7 : e.act = 7) {ow dp : Int} (how : δ.ow[e.obj.toNat]? = some ow) (hdp : δ.dp[e.obj.toNat]? = some dp) :
    SL.T Try.prog 65 [ptr βd, ept b3 (t * 11), .bool owns, .agg ⟨ecells e⟩] [specD βd b1 b2 b3 n k c1 c2 c3 δ.rel, HW, HP, HT] (RetD βd b1 b2 b3 n k c1 c2 c3 (waitDf δ t e.obj.toNat x ow dp owns e)) := by
  obtain ⟨osW, osP, os, hn, hk, hd⟩ := id m
  haveI slT := os.sl
  haveI slW := osW.sl
  haveI slP := osP.sl
  have hl := dts_length δ.th
  have htl : t < δ.th.length := (List.getElem?_eq_some_iff.1 h).1
  have hl1 : t * 11 < (dts δ.th).length := by omega
  have a2 : (dts δ.th)[t * 11 + 2 + 0]? = some (i64 x.op) := dts_at h 2 _ rfl
  have a5 : (dts δ.th)[t * 11 + 5]? = some (i64 x.far) := dts_at h 5 _ rfl
  have a8 : (dts δ.th)[t * 11 + 8]? = some (.bool x.flag) := dts_at h 8 _ rfl
  have a9 : (dts δ.th)[t * 11 + 9]? = some (i64 x.saved) := dts_at h 9 _ rfl
  have lW : (δ.ow.map i64).length = k := by simp [hk]
  have lP : (δ.dp.map i64).length = k := by simp [hd]
  have hWk : (δ.ow.map i64)[e.obj.toNat * 1]? = some (i64 ow) := by simp [how]
  have hPk : (δ.dp.map i64)[e.obj.toNat * 1]? = some (i64 dp) := by simp [hdp]
  have hkW : e.obj.toNat < δ.ow.length := by omega
  have hkP : e.obj.toNat < δ.dp.length := by omega
  have sW := fun z => ints_set (x := z) hkW
  have sP := fun z => ints_set (x := z) hkP
  have fin : ∀ r, waitDf δ t e.obj.toNat x ow dp owns e = r → SL.T Try.prog 65 [ptr βd, ept b3 (t * 11), .bool owns, .agg ⟨ecells e⟩] [specD βd b1 b2 b3 n k c1 c2 c3 δ.rel, HW, HP, HT] (RetD βd b1 b2 b3 n k c1 c2 c3 r) → SL.T Try.prog 65 [ptr βd, ept b3 (t * 11), .bool owns, .agg ⟨ecells e⟩] [specD βd b1 b2 b3 n k c1 c2 c3 δ.rel, HW, HP, HT] (RetD βd b1 b2 b3 n k c1 c2 c3 (waitDf δ t e.obj.toNat x ow dp owns e)) := fun r e h => by rw [e]; exact h
  unfold RetD at fin ⊢
  have hfi := fun c v => finish_calls c v os h
  rcases (Bool.eq_false_or_eq_true x.flag).symm with hfl | hfl
  · rcases (Bool.eq_false_or_eq_true owns).symm with howns | howns
    · refine fin (false, δ) (by simp [waitDf, h7, hfl, howns]) ?_
      rw [hfl] at a8
      subst howns
      refine t_of_body Try.func65 rfl (Nat.le_of_ble_eq_true rfl) fun F => ?_
      repeat' (first
        | refine swp_seq ?_
        | (refine gk 0 rfl ?_; first | refine sl_op rfl rfl rfl (by first | exact opv_move rfl rfl | exact opv_assign rfl rfl | exact opv_pick_t rfl rfl rfl | exact opv_pick_f rfl rfl rfl ) ?_ | refine sl_pass rfl rfl rfl rfl ?_)
        | (refine gk 2 rfl ?_; first | refine sl_pass rfl rfl rfl rfl ?_ | refine sl_yes rfl rfl rfl (by first | exact opv_eql rfl rfl rfl ) (by first | omega ) ?_ | refine sl_no rfl rfl rfl (by first | exact opv_eql rfl rfl rfl ) (by first | omega ) ?_ | refine sl_if rfl rfl rfl (by first | exact opv_eql rfl rfl rfl ) (fun h => ?_) (fun h => ?_) )
        | (refine gk 3 rfl ?_; first | refine sl_op rfl rfl rfl (by first | exact opv_load rfl (by exact rfl) rfl (by exact rfl) | exact opv_fieldAddr rfl rfl | exact opv_fieldAddrE rfl rfl (by first | assumption ) | exact opv_loadEx rfl (by exact rfl) (by infer_instance) (by first | assumption ) ) ?_ | refine sl_pass rfl rfl rfl rfl ?_)
        | (refine gk 5 rfl ?_; first | refine sl_op rfl rfl rfl (by first | exact opv_nilCheckE rfl rfl ) ?_ | refine sl_pass rfl rfl rfl rfl ?_ | refine sl_box rfl rfl rfl rfl rfl rfl (fun β => ?_) )
        | refine sl_region rfl ?_
        | refine sl_nil ?_
        | refine thn_k ?_
        | refine swp_false rfl ?_
        | refine swp_block ?_
        | refine swp_ret ?_
        | refine swp_skip ?_
        )
      all_goals exact end_retL [specD βd b1 b2 b3 n k c1 c2 c3 δ.rel, HW, HP, HT] (resOk_one (resV_tmp rfl)) ⟨rfl, HW, HP, HT, rfl, m⟩
    · refine fin (false, δ) (by simp [waitDf, h7, hfl, howns]) ?_
      rw [hfl] at a8
      subst howns
      refine t_of_body Try.func65 rfl (Nat.le_of_ble_eq_true rfl) fun F => ?_
      repeat' (first
        | refine swp_seq ?_
        | (refine gk 0 rfl ?_; first | refine sl_op rfl rfl rfl (by first | exact opv_move rfl rfl | exact opv_assign rfl rfl | exact opv_pick_t rfl rfl rfl | exact opv_pick_f rfl rfl rfl ) ?_ | refine sl_pass rfl rfl rfl rfl ?_)
        | (refine gk 2 rfl ?_; first | refine sl_pass rfl rfl rfl rfl ?_ | refine sl_yes rfl rfl rfl (by first | exact opv_eql rfl rfl rfl ) (by first | omega ) ?_ | refine sl_no rfl rfl rfl (by first | exact opv_eql rfl rfl rfl ) (by first | omega ) ?_ | refine sl_if rfl rfl rfl (by first | exact opv_eql rfl rfl rfl ) (fun h => ?_) (fun h => ?_) )
        | (refine gk 3 rfl ?_; first | refine sl_op rfl rfl rfl (by first | exact opv_load rfl (by exact rfl) rfl (by exact rfl) | exact opv_fieldAddr rfl rfl | exact opv_fieldAddrE rfl rfl (by first | assumption ) | exact opv_loadEx rfl (by exact rfl) (by infer_instance) (by first | assumption ) ) ?_ | refine sl_pass rfl rfl rfl rfl ?_)
        | (refine gk 5 rfl ?_; first | refine sl_op rfl rfl rfl (by first | exact opv_nilCheckE rfl rfl ) ?_ | refine sl_pass rfl rfl rfl rfl ?_ | refine sl_box rfl rfl rfl rfl rfl rfl (fun β => ?_) )
        | refine sl_region rfl ?_
        | refine sl_nil ?_
        | refine thn_k ?_
        | refine swp_false rfl ?_
        | refine swp_block ?_
        | refine swp_ret ?_
        | refine swp_skip ?_
        )
      all_goals exact end_retL [specD βd b1 b2 b3 n k c1 c2 c3 δ.rel, HW, HP, HT] (resOk_one (resV_tmp rfl)) ⟨rfl, HW, HP, HT, rfl, m⟩
  · rcases (Bool.eq_false_or_eq_true owns).symm with howns | howns
    · by_cases hc4 : e.other = 0 ∧ x.far = 2
      · refine fin (true, δ.mod t fun y => { y with flag := false, far := 3 }) (by simp [waitDf, h7, hfl, howns, hc4]) ?_
        rw [hfl] at a8
        subst howns
        have h2 := set_at (t' := { x with flag := false }) h
        have l2 := dts_length (δ.th.set t { x with flag := false })
        rw [List.length_set] at l2
        have hl2 : t * 11 < (dts (δ.th.set t { x with flag := false })).length := by omega
        have s1 := dts_set (i := 8) (vs := [.bool false]) (t' := { x with flag := false }) h (by decide) rfl
        have s2 := dts_set (i := 5) (vs := [i64 3]) (t' := { x with flag := false, far := 3 }) h2 (by decide) rfl
        rw [List.set_set, ← mod_set (f := fun y => { y with flag := false, far := 3 }) h] at s2
        refine t_of_body Try.func65 rfl (Nat.le_of_ble_eq_true rfl) fun F => ?_
        repeat' (first
          | (refine sl_storeE rfl rfl rfl rfl rfl os rfl rfl rfl (Nat.succ_pos _) (by simp; omega) s1 (fun HT2 os2 => ?_); haveI slT2 := os2.sl)
          | refine sl_storeE rfl rfl rfl rfl rfl os2 rfl rfl rfl (Nat.succ_pos _) (by simp; omega) s2 (fun HT3 os3 => ?_)
          | refine swp_seq ?_
          | (refine gk 0 rfl ?_; first | refine sl_op rfl rfl rfl (by first | exact opv_move rfl rfl | exact opv_assign rfl rfl | exact opv_pick_t rfl rfl rfl | exact opv_pick_f rfl rfl rfl ) ?_ | refine sl_pass rfl rfl rfl rfl ?_)
          | (refine gk 2 rfl ?_; first | refine sl_pass rfl rfl rfl rfl ?_ | refine sl_yes rfl rfl rfl (by first | exact opv_eql rfl rfl rfl ) (by first | omega ) ?_ | refine sl_no rfl rfl rfl (by first | exact opv_eql rfl rfl rfl ) (by first | omega ) ?_ )
          | (refine gk 3 rfl ?_; first | refine sl_op rfl rfl rfl (by first | exact opv_load rfl (by exact rfl) rfl (by exact rfl) | exact opv_fieldAddr rfl rfl | exact opv_fieldAddrE rfl rfl (by first | assumption ) | exact opv_loadEx rfl (by exact rfl) (by infer_instance) (by first | assumption ) ) ?_ | refine sl_pass rfl rfl rfl rfl ?_)
          | (refine gk 5 rfl ?_; first | refine sl_op rfl rfl rfl (by first | exact opv_nilCheckE rfl rfl ) ?_ | refine sl_pass rfl rfl rfl rfl ?_ | refine sl_box rfl rfl rfl rfl rfl rfl (fun β => ?_) )
          | refine sl_region rfl ?_
          | refine sl_nil ?_
          | refine thn_k ?_
          | refine swp_true rfl ?_
          | refine swp_false rfl ?_
          | refine swp_block ?_
          | refine swp_ret ?_
          | refine thn_ret ?_
          | refine inb_ret ?_
          )
        all_goals exact end_retL [specD βd b1 b2 b3 n k c1 c2 c3 δ.rel, HW, HP, HT3] (resOk_one (resV_tmp rfl)) ⟨rfl, HW, HP, HT3, rfl, m.mod os3⟩
      · refine fin (false, δ) (by simp [waitDf, h7, hfl, howns]; intro q1 q2; exact hc4 ⟨q1, q2⟩) ?_
        rw [hfl] at a8
        subst howns
        refine t_of_body Try.func65 rfl (Nat.le_of_ble_eq_true rfl) fun F => ?_
        repeat' (first
          | refine swp_seq ?_
          | (refine gk 0 rfl ?_; first | refine sl_op rfl rfl rfl (by first | exact opv_move rfl rfl | exact opv_assign rfl rfl | exact opv_pick_t rfl rfl rfl | exact opv_pick_f rfl rfl rfl ) ?_ | refine sl_pass rfl rfl rfl rfl ?_)
          | (refine gk 2 rfl ?_; first | refine sl_pass rfl rfl rfl rfl ?_ | refine sl_yes rfl rfl rfl (by first | exact opv_eql rfl rfl rfl ) (by first | omega ) ?_ | refine sl_no rfl rfl rfl (by first | exact opv_eql rfl rfl rfl ) (by first | omega ) ?_ | refine sl_if rfl rfl rfl (by first | exact opv_eql rfl rfl rfl ) (fun h => ?_) (fun h => ?_) )
          | (refine gk 3 rfl ?_; first | refine sl_op rfl rfl rfl (by first | exact opv_load rfl (by exact rfl) rfl (by exact rfl) | exact opv_fieldAddr rfl rfl | exact opv_fieldAddrE rfl rfl (by first | assumption ) | exact opv_loadEx rfl (by exact rfl) (by infer_instance) (by first | assumption ) ) ?_ | refine sl_pass rfl rfl rfl rfl ?_)
          | (refine gk 5 rfl ?_; first | refine sl_op rfl rfl rfl (by first | exact opv_nilCheckE rfl rfl ) ?_ | refine sl_pass rfl rfl rfl rfl ?_ | refine sl_box rfl rfl rfl rfl rfl rfl (fun β => ?_) )
          | refine sl_region rfl ?_
          | refine sl_nil ?_
          | refine thn_k ?_
          | refine swp_false rfl ?_
          | refine swp_block ?_
          | refine swp_ret ?_
          | refine swp_skip ?_
          )
        all_goals exact end_retL [specD βd b1 b2 b3 n k c1 c2 c3 δ.rel, HW, HP, HT] (resOk_one (resV_tmp rfl)) ⟨rfl, HW, HP, HT, rfl, m⟩
    · by_cases hc4 : e.other = 0 ∧ x.far = 2
      · refine fin (true, δ.mod t fun y => { y with flag := false, far := 3 }) (by simp [waitDf, h7, hfl, howns, hc4]) ?_
        rw [hfl] at a8
        subst howns
        have h2 := set_at (t' := { x with flag := false }) h
        have l2 := dts_length (δ.th.set t { x with flag := false })
        rw [List.length_set] at l2
        have hl2 : t * 11 < (dts (δ.th.set t { x with flag := false })).length := by omega
        have s1 := dts_set (i := 8) (vs := [.bool false]) (t' := { x with flag := false }) h (by decide) rfl
        have s2 := dts_set (i := 5) (vs := [i64 3]) (t' := { x with flag := false, far := 3 }) h2 (by decide) rfl
        rw [List.set_set, ← mod_set (f := fun y => { y with flag := false, far := 3 }) h] at s2
        refine t_of_body Try.func65 rfl (Nat.le_of_ble_eq_true rfl) fun F => ?_
        repeat' (first
          | (refine sl_storeE rfl rfl rfl rfl rfl os rfl rfl rfl (Nat.succ_pos _) (by simp; omega) s1 (fun HT2 os2 => ?_); haveI slT2 := os2.sl)
          | refine sl_storeE rfl rfl rfl rfl rfl os2 rfl rfl rfl (Nat.succ_pos _) (by simp; omega) s2 (fun HT3 os3 => ?_)
          | refine swp_seq ?_
          | (refine gk 0 rfl ?_; first | refine sl_op rfl rfl rfl (by first | exact opv_move rfl rfl | exact opv_assign rfl rfl | exact opv_pick_t rfl rfl rfl | exact opv_pick_f rfl rfl rfl ) ?_ | refine sl_pass rfl rfl rfl rfl ?_)
          | (refine gk 2 rfl ?_; first | refine sl_pass rfl rfl rfl rfl ?_ | refine sl_yes rfl rfl rfl (by first | exact opv_eql rfl rfl rfl ) (by first | omega ) ?_ | refine sl_no rfl rfl rfl (by first | exact opv_eql rfl rfl rfl ) (by first | omega ) ?_ )
          | (refine gk 3 rfl ?_; first | refine sl_op rfl rfl rfl (by first | exact opv_load rfl (by exact rfl) rfl (by exact rfl) | exact opv_fieldAddr rfl rfl | exact opv_fieldAddrE rfl rfl (by first | assumption ) | exact opv_loadEx rfl (by exact rfl) (by infer_instance) (by first | assumption ) ) ?_ | refine sl_pass rfl rfl rfl rfl ?_)
          | (refine gk 5 rfl ?_; first | refine sl_op rfl rfl rfl (by first | exact opv_nilCheckE rfl rfl ) ?_ | refine sl_pass rfl rfl rfl rfl ?_ | refine sl_box rfl rfl rfl rfl rfl rfl (fun β => ?_) )
          | refine sl_region rfl ?_
          | refine sl_nil ?_
          | refine thn_k ?_
          | refine swp_true rfl ?_
          | refine swp_false rfl ?_
          | refine swp_block ?_
          | refine swp_ret ?_
          | refine thn_ret ?_
          | refine inb_ret ?_
          )
        all_goals exact end_retL [specD βd b1 b2 b3 n k c1 c2 c3 δ.rel, HW, HP, HT3] (resOk_one (resV_tmp rfl)) ⟨rfl, HW, HP, HT3, rfl, m.mod os3⟩
      · by_cases hc2 : e.other = 0 ∧ x.far = 0
        · refine fin (true, δ.mod t fun y => dfin { y with flag := false } 0 2) (by simp [waitDf, h7, hfl, howns, hc2]) ?_
          rw [hfl] at a8
          subst howns
          have h2 := set_at (t' := { x with flag := false }) h
          have l2 := dts_length (δ.th.set t { x with flag := false })
          rw [List.length_set] at l2
          have hl2 : t * 11 < (dts (δ.th.set t { x with flag := false })).length := by omega
          have s1 := dts_set (i := 8) (vs := [.bool false]) (t' := { x with flag := false }) h (by decide) rfl
          have hfi2 := fun {HT2 : Heap} (os2 : OS HT2 b3 n c3 109 11 (dts (δ.th.set t { x with flag := false }))) => finish_calls 0 2 os2 h2
          rw [List.set_set, ← mod_set (f := fun y => dfin { y with flag := false } 0 2) h] at hfi2
          refine t_of_body Try.func65 rfl (Nat.le_of_ble_eq_true rfl) fun F => ?_
          repeat' (first
            | (refine sl_storeE rfl rfl rfl rfl rfl os rfl rfl rfl (Nat.succ_pos _) (by simp; omega) s1 (fun HT2 os2 => ?_); haveI slT2 := os2.sl)
            | refine swp_seq ?_
            | (refine gk 0 rfl ?_; first | refine sl_op rfl rfl rfl (by first | exact opv_move rfl rfl | exact opv_assign rfl rfl | exact opv_pick_t rfl rfl rfl | exact opv_pick_f rfl rfl rfl ) ?_ | refine sl_pass rfl rfl rfl rfl ?_)
            | (refine gk 2 rfl ?_; first | refine sl_pass rfl rfl rfl rfl ?_ | refine sl_yes rfl rfl rfl (by first | exact opv_eql rfl rfl rfl ) (by first | omega ) ?_ | refine sl_no rfl rfl rfl (by first | exact opv_eql rfl rfl rfl ) (by first | omega ) ?_ )
            | (refine gk 3 rfl ?_; first | refine sl_op rfl rfl rfl (by first | exact opv_load rfl (by exact rfl) rfl (by exact rfl) | exact opv_fieldAddr rfl rfl | exact opv_fieldAddrE rfl rfl (by first | assumption ) | exact opv_loadEx rfl (by exact rfl) (by infer_instance) (by first | assumption ) ) ?_ | refine sl_pass rfl rfl rfl rfl ?_)
            | (refine gk 4 rfl ?_; first | (refine sl_callT rfl rfl rfl rfl rfl rfl rfl rfl (hfi2 os2) ?_; rintro _ _ ⟨rfl, HT3, rfl, os3⟩; refine ⟨_, _, rfl, rfl, ?_⟩))
            | (refine gk 5 rfl ?_; first | refine sl_op rfl rfl rfl (by first | exact opv_nilCheckE rfl rfl ) ?_ | refine sl_pass rfl rfl rfl rfl ?_ | refine sl_box rfl rfl rfl rfl rfl rfl (fun β => ?_) )
            | refine sl_region rfl ?_
            | refine sl_nil ?_
            | refine thn_k ?_
            | refine swp_true rfl ?_
            | refine swp_false rfl ?_
            | refine swp_block ?_
            | refine swp_ret ?_
            | refine thn_ret ?_
            | refine inb_ret ?_
            )
          all_goals exact end_retL [specD βd b1 b2 b3 n k c1 c2 c3 δ.rel, HW, HP, HT3] (resOk_one (resV_tmp rfl)) ⟨rfl, HW, HP, HT3, rfl, m.mod os3⟩
        · refine fin (false, δ) (by unfold waitDf; rw [if_neg (fun q => by have := q.1; omega), if_neg (fun q => hc2 ⟨q.2.1, q.2.2.1⟩), if_neg (fun q => by have := q.1; omega), if_neg (fun q => hc4 ⟨q.2.1, q.2.2.1⟩), if_neg (by omega), if_neg (fun q => by have := q.1; omega)]) ?_
          rw [hfl] at a8
          subst howns
          refine t_of_body Try.func65 rfl (Nat.le_of_ble_eq_true rfl) fun F => ?_
          repeat' (first
            | refine swp_seq ?_
            | (refine gk 0 rfl ?_; first | refine sl_op rfl rfl rfl (by first | exact opv_move rfl rfl | exact opv_assign rfl rfl | exact opv_pick_t rfl rfl rfl | exact opv_pick_f rfl rfl rfl ) ?_ | refine sl_pass rfl rfl rfl rfl ?_)
            | (refine gk 2 rfl ?_; first | refine sl_pass rfl rfl rfl rfl ?_ | refine sl_yes rfl rfl rfl (by first | exact opv_eql rfl rfl rfl ) (by first | omega ) ?_ | refine sl_no rfl rfl rfl (by first | exact opv_eql rfl rfl rfl ) (by first | omega ) ?_ | refine sl_if rfl rfl rfl (by first | exact opv_eql rfl rfl rfl ) (fun h => ?_) (fun h => ?_) )
            | (refine gk 3 rfl ?_; first | refine sl_op rfl rfl rfl (by first | exact opv_load rfl (by exact rfl) rfl (by exact rfl) | exact opv_fieldAddr rfl rfl | exact opv_fieldAddrE rfl rfl (by first | assumption ) | exact opv_loadEx rfl (by exact rfl) (by infer_instance) (by first | assumption ) ) ?_ | refine sl_pass rfl rfl rfl rfl ?_)
            | (refine gk 5 rfl ?_; first | refine sl_op rfl rfl rfl (by first | exact opv_nilCheckE rfl rfl ) ?_ | refine sl_pass rfl rfl rfl rfl ?_ | refine sl_box rfl rfl rfl rfl rfl rfl (fun β => ?_) )
            | refine sl_region rfl ?_
            | refine sl_nil ?_
            | refine thn_k ?_
            | refine swp_false rfl ?_
            | refine swp_block ?_
            | refine swp_ret ?_
            | refine swp_skip ?_
            )
          all_goals exact end_retL [specD βd b1 b2 b3 n k c1 c2 c3 δ.rel, HW, HP, HT] (resOk_one (resV_tmp rfl)) ⟨rfl, HW, HP, HT, rfl, m⟩
end
end Go.Proofs.Ytimmclibnfdjhaa
