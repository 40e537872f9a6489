/- The document's automaton: events (dtake_no). -/
import Derived.Test.YtimmclibnfdjhaaWD6
set_option linter.unusedVariables false
set_option linter.unusedSimpArgs false
set_option linter.unusedSectionVars false
section
namespace Go.Proofs.Ytimmclibnfdjhaa
open Go.SL
set_option maxRecDepth 100000
set_option maxHeartbeats 16000000
attribute [local irreducible] SL.T PFn OpV SOL SWP HOp ChU
section
variable {βd : Nat} {b1 b2 b3 : Option Addr} {n k c1 c2 c3 : Nat}
theorem dtake_no {HW HP HT : Heap} {δ : DS} {x : DT} {e : Ev} [nn : NN b3] [n1 : NN b1] [n2 : NN b2] (m : MemD b1 b2 b3 n k c1 c2 c3 HW HP HT δ) (hsm : n ≤ 1000000) (hsk : k ≤ 1000000) (h0 : 0 ≤ e.thread ∧ e.thread < n) (h : δ.th[e.thread.toNat]? = some x) (hk0 : e.kind ≠ 0) (hk1 : e.kind ≠ 1) (hk2 : e.kind ≠ 2) :
    SL.T Try.prog 38 [ptr βd, .agg ⟨ecells e⟩] [specD βd b1 b2 b3 n k c1 c2 c3 δ.rel, HW, HP, HT] (RetD βd b1 b2 b3 n k c1 c2 c3 (takeD δ e)) := by
  obtain ⟨osW, osP, os, hn, hk, hd⟩ := id m
  haveI slT := os.sl
  have hl := dts_length δ.th
  have htl : e.thread.toNat < δ.th.length := (List.getElem?_eq_some_iff.1 h).1
  have hl1 : e.thread.toNat * 11 < (dts δ.th).length := by omega
  have a0 : (dts δ.th)[e.thread.toNat * 11 + 0]? = some (i64 x.calls) := dts_at h 0 _ rfl
  have a1 : (dts δ.th)[e.thread.toNat * 11 + 1]? = some (.bool x.opn) := dts_at h 1 _ rfl
  have a2 : (dts δ.th)[e.thread.toNat * 11 + 2]? = some (i64 x.op) := dts_at h 2 _ rfl
  have a3 : (dts δ.th)[e.thread.toNat * 11 + 2 + 1]? = some (i64 x.obj) := dts_at h 3 _ rfl
  have a4 : (dts δ.th)[e.thread.toNat * 11 + 2 + 2]? = some (i64 x.arg) := dts_at h 4 _ rfl
  have a5 : (dts δ.th)[e.thread.toNat * 11 + 5]? = some (i64 x.far) := dts_at h 5 _ rfl
  have a6 : (dts δ.th)[e.thread.toNat * 11 + 6]? = some (i64 x.code) := dts_at h 6 _ rfl
  have a7 : (dts δ.th)[e.thread.toNat * 11 + 6 + 1]? = some (i64 x.val) := dts_at h 7 _ rfl
  have hF0 : takeD δ e = (false, δ) := by
    unfold takeD
    rw [if_neg (by rw [hn]; exact fun q => q h0), h]
    dsimp only
    rw [if_neg (by omega), if_neg (by omega), if_neg (by omega)]
  have fin : ∀ r, takeD δ e = r → SL.T Try.prog 38 [ptr βd, .agg ⟨ecells e⟩] [specD βd b1 b2 b3 n k c1 c2 c3 δ.rel, HW, HP, HT] (RetD βd b1 b2 b3 n k c1 c2 c3 r) → SL.T Try.prog 38 [ptr βd, .agg ⟨ecells e⟩] [specD βd b1 b2 b3 n k c1 c2 c3 δ.rel, HW, HP, HT] (RetD βd b1 b2 b3 n k c1 c2 c3 (takeD δ e)) := fun r e h => by rw [e]; exact h
  unfold RetD at fin ⊢
  refine fin (false, δ) (by rw [hF0]) ?_
  refine t_of_body Try.func38 rfl (Nat.le_of_ble_eq_true rfl) fun F => ?_
  repeat' (first
    | refine swp_seq ?_
    | (refine gk 0 rfl ?_; first | refine sl_op rfl rfl rfl (by first | exact opv_move rfl rfl | exact opv_assign rfl rfl | exact opv_pick_f rfl rfl rfl ) ?_ )
    | (refine gk 2 rfl ?_; first | refine sl_no rfl rfl rfl (by first | exact opv_lss rfl rfl rfl | exact opv_geq rfl rfl rfl | exact opv_eql rfl rfl rfl ) (by first | omega ) ?_ )
    | (refine gk 3 rfl ?_; first | refine sl_op rfl rfl rfl (by first | exact opv_load rfl (by exact rfl) rfl (by exact rfl) | exact opv_fieldAddr rfl rfl | exact opv_indexAddrI rfl rfl rfl (by omega) (by omega) (by first | omega ) ) ?_ )
    | (refine gk 4 rfl ?_; first | refine sl_op rfl rfl rfl (by first | exact opv_len rfl rfl rfl rfl rfl ) ?_)
    | (refine gk 5 rfl ?_; first | refine sl_op rfl rfl rfl (by first | exact opv_nilCheck rfl rfl | exact opv_build rfl rfl (by exact rfl) ) ?_ | refine sl_box rfl rfl rfl rfl rfl rfl (fun β => ?_) | refine sl_alloc rfl rfl rfl rfl (by exact rfl) (fun β => ?_) | refine sl_store rfl rfl rfl rfl rfl rfl (by exact rfl) rfl (by exact rfl) ?_)
    | refine sl_region rfl ?_
    | refine sl_draw (by kernel_rfl) (by kernel_rfl) rfl ?_
    | refine sl_nil ?_
    | refine thn_k ?_
    | refine swp_false rfl ?_
    | refine swp_block ?_
    | refine swp_ret ?_
    | refine swp_skip ?_
    )
  all_goals exact end_retL [specD βd b1 b2 b3 n k c1 c2 c3 δ.rel, HW, HP, HT] (resOk_one (resV_tmp rfl)) ⟨rfl, HW, HP, HT, rfl, m⟩
end
end Go.Proofs.Ytimmclibnfdjhaa
end
section
/- The document's automaton: events (dtake_call). -/
namespace Go.Proofs.Ytimmclibnfdjhaa
open Go.SL
set_option maxRecDepth 100000
set_option maxHeartbeats 16000000
attribute [local irreducible] SL.T PFn OpV SOL SWP HOp ChU
section
variable {βd : Nat} {b1 b2 b3 : Option Addr} {n k c1 c2 c3 : Nat}
theorem dtake_call {HW HP HT : Heap} {δ : DS} {x : DT} {e : Ev} [nn : NN b3] [n1 : NN b1] [n2 : NN b2] (m : MemD b1 b2 b3 n k c1 c2 c3 HW HP HT δ) (hsm : n ≤ 1000000) (hsk : k ≤ 1000000) (h0 : 0 ≤ e.thread ∧ e.thread < n) (h : δ.th[e.thread.toNat]? = some x) (hkind : e.kind = 0) :
    SL.T Try.prog 38 [ptr βd, .agg ⟨ecells e⟩] [specD βd b1 b2 b3 n k c1 c2 c3 δ.rel, HW, HP, HT] (RetD βd b1 b2 b3 n k c1 c2 c3 (takeD δ e)) := by
  obtain ⟨osW, osP, os, hn, hk, hd⟩ := id m
  haveI slT := os.sl
  have hl := dts_length δ.th
  have htl : e.thread.toNat < δ.th.length := (List.getElem?_eq_some_iff.1 h).1
  have hl1 : e.thread.toNat * 11 < (dts δ.th).length := by omega
  have a0 : (dts δ.th)[e.thread.toNat * 11 + 0]? = some (i64 x.calls) := dts_at h 0 _ rfl
  have a1 : (dts δ.th)[e.thread.toNat * 11 + 1]? = some (.bool x.opn) := dts_at h 1 _ rfl
  have a2 : (dts δ.th)[e.thread.toNat * 11 + 2]? = some (i64 x.op) := dts_at h 2 _ rfl
  have a3 : (dts δ.th)[e.thread.toNat * 11 + 2 + 1]? = some (i64 x.obj) := dts_at h 3 _ rfl
  have a4 : (dts δ.th)[e.thread.toNat * 11 + 2 + 2]? = some (i64 x.arg) := dts_at h 4 _ rfl
  have a5 : (dts δ.th)[e.thread.toNat * 11 + 5]? = some (i64 x.far) := dts_at h 5 _ rfl
  have a6 : (dts δ.th)[e.thread.toNat * 11 + 6]? = some (i64 x.code) := dts_at h 6 _ rfl
  have a7 : (dts δ.th)[e.thread.toNat * 11 + 6 + 1]? = some (i64 x.val) := dts_at h 7 _ rfl
  have hF0 : takeD δ e = (if x.opn = true ∨ e.index ≠ x.calls ∨ e.code ≠ 0 ∨ e.val ≠ 0 then (false, δ) else (true, δ.mod e.thread.toNat (callD e))) := by
    unfold takeD
    rw [if_neg (by rw [hn]; exact fun q => q h0), h]
    dsimp only
    rw [if_pos hkind]
  have fin : ∀ r, takeD δ e = r → SL.T Try.prog 38 [ptr βd, .agg ⟨ecells e⟩] [specD βd b1 b2 b3 n k c1 c2 c3 δ.rel, HW, HP, HT] (RetD βd b1 b2 b3 n k c1 c2 c3 r) → SL.T Try.prog 38 [ptr βd, .agg ⟨ecells e⟩] [specD βd b1 b2 b3 n k c1 c2 c3 δ.rel, HW, HP, HT] (RetD βd b1 b2 b3 n k c1 c2 c3 (takeD δ e)) := fun r e h => by rw [e]; exact h
  unfold RetD at fin ⊢
  by_cases hno : x.opn = true ∨ e.index ≠ x.calls ∨ e.code ≠ 0 ∨ e.val ≠ 0
  · cases hop : x.opn with
    | true =>
      refine fin (false, δ) (by rw [hF0]; exact if_pos hno) ?_
      rw [hop] at a1
      refine t_of_body Try.func38 rfl (Nat.le_of_ble_eq_true rfl) fun F => ?_
      repeat' (first
        | refine swp_seq ?_
        | (refine gk 0 rfl ?_; first | refine sl_op rfl rfl rfl (by first | exact opv_move rfl rfl | exact opv_assign rfl rfl | exact opv_pick_t rfl rfl rfl | exact opv_pick_f rfl rfl rfl ) ?_ | refine sl_pass rfl rfl rfl rfl ?_)
        | (refine gk 2 rfl ?_; first | refine sl_pass rfl rfl rfl rfl ?_ | refine sl_yes rfl rfl rfl (by first | exact opv_lss rfl rfl rfl | exact opv_geq rfl rfl rfl | exact opv_eql rfl rfl rfl ) (by first | omega ) ?_ | refine sl_no rfl rfl rfl (by first | exact opv_lss rfl rfl rfl | exact opv_geq rfl rfl rfl ) (by first | omega ) ?_ )
        | (refine gk 3 rfl ?_; first | refine sl_op rfl rfl rfl (by first | exact opv_load rfl (by exact rfl) rfl (by exact rfl) | exact opv_fieldAddr rfl rfl | exact opv_loadA rfl (by exact rfl) rfl (by exact rfl) (by exact rfl) | exact opv_indexAddrI rfl rfl rfl (by omega) (by omega) (by first | omega ) | exact opv_fieldAddrE rfl rfl (by first | assumption ) | exact opv_loadEx rfl (by exact rfl) (by infer_instance) (by first | assumption ) ) ?_ | refine sl_pass rfl rfl rfl rfl ?_)
        | (refine gk 4 rfl ?_; first | refine sl_op rfl rfl rfl (by first | exact opv_len rfl rfl rfl rfl rfl ) ?_)
        | (refine gk 5 rfl ?_; first | refine sl_op rfl rfl rfl (by first | exact opv_nilCheck rfl rfl | exact opv_nilCheckE rfl rfl | exact opv_build rfl rfl (by exact rfl) ) ?_ | refine sl_pass rfl rfl rfl rfl ?_ | refine sl_box rfl rfl rfl rfl rfl rfl (fun β => ?_) | refine sl_alloc rfl rfl rfl rfl (by exact rfl) (fun β => ?_) | refine sl_store rfl rfl rfl rfl rfl rfl (by exact rfl) rfl (by exact rfl) ?_)
        | refine sl_region rfl ?_
        | refine sl_draw (by kernel_rfl) (by kernel_rfl) rfl ?_
        | refine sl_nil ?_
        | refine thn_k ?_
        | refine swp_true rfl ?_
        | refine swp_false rfl ?_
        | refine swp_block ?_
        | refine swp_ret ?_
        | refine swp_skip ?_
        | refine thn_ret ?_
        | refine inb_ret ?_
        )
      all_goals exact end_retL [specD βd b1 b2 b3 n k c1 c2 c3 δ.rel, HW, HP, HT] (resOk_one (resV_tmp rfl)) ⟨rfl, HW, HP, HT, rfl, m⟩
    | false =>
      by_cases hi : e.index = x.calls
      · have hres : (!(decide (e.code = 0) && (decide (e.val = 0) && true))) = true := by
          rw [hop] at hno
          simp
          by_cases a : e.code = 0
          · exact .inr fun b => by rcases hno with q | q | q | q <;> first | cases q | exact q hi | exact q a | exact q b
          · exact .inl a
        refine fin (false, δ) (by rw [hF0]; exact if_pos hno) ?_
        rw [hop] at a1
        refine t_of_body Try.func38 rfl (Nat.le_of_ble_eq_true rfl) fun F => ?_
        repeat' (first
          | refine swp_seq ?_
          | (refine gk 0 rfl ?_; first | refine sl_op rfl rfl rfl (by first | exact opv_move rfl rfl | exact opv_assign rfl rfl | exact opv_pick_f rfl rfl rfl ) ?_ )
          | (refine gk 2 rfl ?_; first | refine sl_yes rfl rfl rfl (by first | exact opv_lss rfl rfl rfl | exact opv_geq rfl rfl rfl | exact opv_eql rfl rfl rfl | exact opv_neq rfl rfl rfl) (by first | omega ) ?_ | refine sl_no rfl rfl rfl (by first | exact opv_lss rfl rfl rfl | exact opv_geq rfl rfl rfl | exact opv_neq rfl rfl rfl) (by first | omega ) ?_ | refine sl_tt rfl rfl rfl (by first | exact opv_neqS rfl rfl rfl rfl) (by first | assumption) ?_ )
          | (refine gk 3 rfl ?_; first | refine sl_op rfl rfl rfl (by first | exact opv_load rfl (by exact rfl) rfl (by exact rfl) | exact opv_fieldAddr rfl rfl | exact opv_loadA rfl (by exact rfl) rfl (by exact rfl) (by exact rfl) | exact opv_indexAddrI rfl rfl rfl (by omega) (by omega) (by first | omega ) | exact opv_fieldAddrE rfl rfl (by first | assumption ) | exact opv_loadEx rfl (by exact rfl) (by infer_instance) (by first | assumption ) ) ?_ )
          | (refine gk 4 rfl ?_; first | refine sl_op rfl rfl rfl (by first | exact opv_len rfl rfl rfl rfl rfl ) ?_)
          | (refine gk 5 rfl ?_; first | refine sl_op rfl rfl rfl (by first | exact opv_nilCheck rfl rfl | exact opv_nilCheckE rfl rfl | exact opv_build rfl rfl (by exact rfl) ) ?_ | refine sl_box rfl rfl rfl rfl rfl rfl (fun β => ?_) | refine sl_alloc rfl rfl rfl rfl (by exact rfl) (fun β => ?_) | refine sl_store rfl rfl rfl rfl rfl rfl (by exact rfl) rfl (by exact rfl) ?_)
          | refine sl_region rfl ?_
          | refine sl_draw (by kernel_rfl) (by kernel_rfl) rfl ?_
          | refine sl_nil ?_
          | refine thn_k ?_
          | refine swp_true rfl ?_
          | refine swp_false rfl ?_
          | refine swp_block ?_
          | refine swp_ret ?_
          | refine swp_skip ?_
          | refine thn_ret ?_
          | refine inb_ret ?_
          )
        all_goals exact end_retL [specD βd b1 b2 b3 n k c1 c2 c3 δ.rel, HW, HP, HT] (resOk_one (resV_tmp rfl)) ⟨rfl, HW, HP, HT, rfl, m⟩
      · refine fin (false, δ) (by rw [hF0]; exact if_pos hno) ?_
        rw [hop] at a1
        refine t_of_body Try.func38 rfl (Nat.le_of_ble_eq_true rfl) fun F => ?_
        repeat' (first
          | refine swp_seq ?_
          | (refine gk 0 rfl ?_; first | refine sl_op rfl rfl rfl (by first | exact opv_move rfl rfl | exact opv_assign rfl rfl | exact opv_pick_t rfl rfl rfl | exact opv_pick_f rfl rfl rfl ) ?_ )
          | (refine gk 2 rfl ?_; first | refine sl_pass rfl rfl rfl rfl ?_ | refine sl_yes rfl rfl rfl (by first | exact opv_lss rfl rfl rfl | exact opv_geq rfl rfl rfl | exact opv_eql rfl rfl rfl | exact opv_neq rfl rfl rfl) (by first | omega ) ?_ | refine sl_no rfl rfl rfl (by first | exact opv_lss rfl rfl rfl | exact opv_geq rfl rfl rfl ) (by first | omega ) ?_ )
          | (refine gk 3 rfl ?_; first | refine sl_op rfl rfl rfl (by first | exact opv_load rfl (by exact rfl) rfl (by exact rfl) | exact opv_fieldAddr rfl rfl | exact opv_loadA rfl (by exact rfl) rfl (by exact rfl) (by exact rfl) | exact opv_indexAddrI rfl rfl rfl (by omega) (by omega) (by first | omega ) | exact opv_fieldAddrE rfl rfl (by first | assumption ) | exact opv_loadEx rfl (by exact rfl) (by infer_instance) (by first | assumption ) ) ?_ | refine sl_pass rfl rfl rfl rfl ?_)
          | (refine gk 4 rfl ?_; first | refine sl_op rfl rfl rfl (by first | exact opv_len rfl rfl rfl rfl rfl ) ?_)
          | (refine gk 5 rfl ?_; first | refine sl_op rfl rfl rfl (by first | exact opv_nilCheck rfl rfl | exact opv_nilCheckE rfl rfl | exact opv_build rfl rfl (by exact rfl) ) ?_ | refine sl_box rfl rfl rfl rfl rfl rfl (fun β => ?_) | refine sl_alloc rfl rfl rfl rfl (by exact rfl) (fun β => ?_) | refine sl_store rfl rfl rfl rfl rfl rfl (by exact rfl) rfl (by exact rfl) ?_)
          | refine sl_region rfl ?_
          | refine sl_draw (by kernel_rfl) (by kernel_rfl) rfl ?_
          | refine sl_nil ?_
          | refine thn_k ?_
          | refine swp_true rfl ?_
          | refine swp_false rfl ?_
          | refine swp_block ?_
          | refine swp_ret ?_
          | refine swp_skip ?_
          | refine thn_ret ?_
          | refine inb_ret ?_
          )
        all_goals exact end_retL [specD βd b1 b2 b3 n k c1 c2 c3 δ.rel, HW, HP, HT] (resOk_one (resV_tmp rfl)) ⟨rfl, HW, HP, HT, rfl, m⟩
  · refine fin (true, δ.mod e.thread.toNat (callD e)) (by rw [hF0]; exact if_neg hno) ?_
    simp only [not_or] at hno
    obtain ⟨q1, q2, q3, q4⟩ := hno
    have q1 : x.opn = false := by simpa using q1
    have q2 : e.index = x.calls := Classical.byContradiction q2
    have q3 : e.code = 0 := Classical.byContradiction q3
    have q4 : e.val = 0 := Classical.byContradiction q4
    have hres : (!(decide (e.code = 0) && (decide (e.val = 0) && true))) = false := by simp [q3, q4]
    rw [q1] at a1
    have s1 := dts_set (i := 1) (vs := [.bool true]) (t' := ({ x with opn := true } : DT)) h (by simp) rfl
    have g1 := set_at (t' := ({ x with opn := true } : DT)) h
    have l1 := dts_length (δ.th.set e.thread.toNat ({ x with opn := true } : DT))
    rw [List.length_set] at l1
    have hl2 : e.thread.toNat * 11 < (dts (δ.th.set e.thread.toNat ({ x with opn := true } : DT))).length := by omega
    have s2 := dts_set (i := 0) (vs := [i64 (inc x.calls)]) (t' := ({ x with opn := true, calls := inc x.calls } : DT)) g1 (by simp) rfl
    rw [List.set_set] at s2
    have g2 := set_at (t' := ({ x with opn := true, calls := inc x.calls } : DT)) h
    have l2 := dts_length (δ.th.set e.thread.toNat ({ x with opn := true, calls := inc x.calls } : DT))
    rw [List.length_set] at l2
    have hl3 : e.thread.toNat * 11 < (dts (δ.th.set e.thread.toNat ({ x with opn := true, calls := inc x.calls } : DT))).length := by omega
    have s3 := dts_set (i := 2) (vs := [i64 e.act, i64 e.obj, i64 e.other]) (t' := ({ x with opn := true, calls := inc x.calls, op := e.act, obj := e.obj, arg := e.other } : DT)) g2 (by simp) rfl
    rw [List.set_set] at s3
    have g3 := set_at (t' := ({ x with opn := true, calls := inc x.calls, op := e.act, obj := e.obj, arg := e.other } : DT)) h
    have l3 := dts_length (δ.th.set e.thread.toNat ({ x with opn := true, calls := inc x.calls, op := e.act, obj := e.obj, arg := e.other } : DT))
    rw [List.length_set] at l3
    have hl4 : e.thread.toNat * 11 < (dts (δ.th.set e.thread.toNat ({ x with opn := true, calls := inc x.calls, op := e.act, obj := e.obj, arg := e.other } : DT))).length := by omega
    have s4 := dts_set (i := 5) (vs := [i64 0]) (t' := ({ x with opn := true, calls := inc x.calls, op := e.act, obj := e.obj, arg := e.other, far := 0 } : DT)) g3 (by simp) rfl
    rw [List.set_set] at s4
    have g4 := set_at (t' := ({ x with opn := true, calls := inc x.calls, op := e.act, obj := e.obj, arg := e.other, far := 0 } : DT)) h
    have l4 := dts_length (δ.th.set e.thread.toNat ({ x with opn := true, calls := inc x.calls, op := e.act, obj := e.obj, arg := e.other, far := 0 } : DT))
    rw [List.length_set] at l4
    have hl5 : e.thread.toNat * 11 < (dts (δ.th.set e.thread.toNat ({ x with opn := true, calls := inc x.calls, op := e.act, obj := e.obj, arg := e.other, far := 0 } : DT))).length := by omega
    have s5 := dts_set (i := 6) (vs := [i64 0, i64 0]) (t' := (callD e x)) g4 (by simp) rfl
    rw [List.set_set] at s5
    rw [← mod_set (f := callD e) h] at s5
    have c0 : (dts (δ.th.set e.thread.toNat ({ x with opn := true } : DT)))[e.thread.toNat * 11 + 0]? = some (i64 x.calls) := dts_at g1 0 _ rfl
    refine t_of_body Try.func38 rfl (Nat.le_of_ble_eq_true rfl) fun F => ?_
    repeat' (first
      | (refine sl_storeE rfl rfl rfl rfl rfl os rfl rfl rfl (Nat.succ_pos _) (by simp; omega) s1 (fun HT1 os1 => ?_); haveI slT1 := os1.sl)
      | (refine sl_storeE rfl rfl rfl rfl rfl os1 rfl rfl rfl (Nat.succ_pos _) (by simp; omega) s2 (fun HT2 os2 => ?_); haveI slT2 := os2.sl)
      | (refine sl_storeE rfl rfl rfl rfl rfl os2 rfl rfl rfl (Nat.succ_pos _) (by simp; omega) s3 (fun HT3 os3 => ?_); haveI slT3 := os3.sl)
      | (refine sl_storeE rfl rfl rfl rfl rfl os3 rfl rfl rfl (Nat.succ_pos _) (by simp; omega) s4 (fun HT4 os4 => ?_); haveI slT4 := os4.sl)
      | (refine sl_storeE rfl rfl rfl rfl rfl os4 rfl rfl rfl (Nat.succ_pos _) (by simp; omega) s5 (fun HT5 os5 => ?_); haveI slT5 := os5.sl)
      | refine swp_seq ?_
      | (refine gk 0 rfl ?_; first | refine sl_op rfl rfl rfl (by first | exact opv_move rfl rfl | exact opv_assign rfl rfl | exact opv_pick_f rfl rfl rfl ) ?_ )
      | (refine gk 1 rfl ?_; first | refine sl_op rfl rfl rfl (by first | exact opv_add rfl rfl rfl ) ?_ )
      | (refine gk 2 rfl ?_; first | refine sl_yes rfl rfl rfl (by first | exact opv_lss rfl rfl rfl | exact opv_geq rfl rfl rfl | exact opv_eql rfl rfl rfl | exact opv_neq rfl rfl rfl) (by first | omega ) ?_ | refine sl_no rfl rfl rfl (by first | exact opv_lss rfl rfl rfl | exact opv_geq rfl rfl rfl | exact opv_neq rfl rfl rfl) (by first | omega ) ?_ | refine sl_ff rfl rfl rfl (by first | exact opv_neqS rfl rfl rfl rfl) (by first | assumption) ?_ )
      | (refine gk 3 rfl ?_; first | refine sl_op rfl rfl rfl (by first | exact opv_load rfl (by exact rfl) rfl (by exact rfl) | exact opv_fieldAddr rfl rfl | exact opv_loadA rfl (by exact rfl) rfl (by exact rfl) (by exact rfl) | exact opv_indexAddrI rfl rfl rfl (by omega) (by omega) (by first | omega ) | exact opv_fieldAddrE rfl rfl (by first | assumption ) | exact opv_loadEx rfl (by exact rfl) (by infer_instance) (by first | assumption ) ) ?_ )
      | (refine gk 4 rfl ?_; first | refine sl_op rfl rfl rfl (by first | exact opv_len rfl rfl rfl rfl rfl ) ?_)
      | (refine gk 5 rfl ?_; first | refine sl_op rfl rfl rfl (by first | exact opv_nilCheck rfl rfl | exact opv_nilCheckE rfl rfl | exact opv_build rfl rfl (by exact rfl) ) ?_ | refine sl_box rfl rfl rfl rfl rfl rfl (fun β => ?_) | refine sl_alloc rfl rfl rfl rfl (by exact rfl) (fun β => ?_) | refine sl_store rfl rfl rfl rfl rfl rfl (by exact rfl) rfl (by exact rfl) ?_)
      | refine sl_region rfl ?_
      | refine sl_draw (by kernel_rfl) (by kernel_rfl) rfl ?_
      | refine sl_nil ?_
      | refine thn_k ?_
      | refine swp_true rfl ?_
      | refine swp_false rfl ?_
      | refine swp_block ?_
      | refine swp_ret ?_
      | refine swp_skip ?_
      | refine thn_ret ?_
      | refine inb_ret ?_
      )
    exact end_retL [specD βd b1 b2 b3 n k c1 c2 c3 δ.rel, HW, HP, HT5] (resOk_one (resV_tmp rfl)) ⟨rfl, HW, HP, HT5, rfl, m.mod os5⟩
end
end Go.Proofs.Ytimmclibnfdjhaa
end
section
/- The document's automaton: events (dtake_ret). -/
namespace Go.Proofs.Ytimmclibnfdjhaa
open Go.SL
set_option maxRecDepth 100000
set_option maxHeartbeats 16000000
attribute [local irreducible] SL.T PFn OpV SOL SWP HOp ChU
section
variable {βd : Nat} {b1 b2 b3 : Option Addr} {n k c1 c2 c3 : Nat}
theorem dtake_ret {HW HP HT : Heap} {δ : DS} {x : DT} {e : Ev} [nn : NN b3] [n1 : NN b1] [n2 : NN b2] (m : MemD b1 b2 b3 n k c1 c2 c3 HW HP HT δ) (hsm : n ≤ 1000000) (hsk : k ≤ 1000000) (h0 : 0 ≤ e.thread ∧ e.thread < n) (h : δ.th[e.thread.toNat]? = some x) (hkind : e.kind = 2) :
    SL.T Try.prog 38 [ptr βd, .agg ⟨ecells e⟩] [specD βd b1 b2 b3 n k c1 c2 c3 δ.rel, HW, HP, HT] (RetD βd b1 b2 b3 n k c1 c2 c3 (takeD δ e)) := by
  obtain ⟨osW, osP, os, hn, hk, hd⟩ := id m
  haveI slT := os.sl
  have hl := dts_length δ.th
  have htl : e.thread.toNat < δ.th.length := (List.getElem?_eq_some_iff.1 h).1
  have hl1 : e.thread.toNat * 11 < (dts δ.th).length := by omega
  have a0 : (dts δ.th)[e.thread.toNat * 11 + 0]? = some (i64 x.calls) := dts_at h 0 _ rfl
  have a1 : (dts δ.th)[e.thread.toNat * 11 + 1]? = some (.bool x.opn) := dts_at h 1 _ rfl
  have a2 : (dts δ.th)[e.thread.toNat * 11 + 2]? = some (i64 x.op) := dts_at h 2 _ rfl
  have a3 : (dts δ.th)[e.thread.toNat * 11 + 2 + 1]? = some (i64 x.obj) := dts_at h 3 _ rfl
  have a4 : (dts δ.th)[e.thread.toNat * 11 + 2 + 2]? = some (i64 x.arg) := dts_at h 4 _ rfl
  have a5 : (dts δ.th)[e.thread.toNat * 11 + 5]? = some (i64 x.far) := dts_at h 5 _ rfl
  have a6 : (dts δ.th)[e.thread.toNat * 11 + 6]? = some (i64 x.code) := dts_at h 6 _ rfl
  have a7 : (dts δ.th)[e.thread.toNat * 11 + 6 + 1]? = some (i64 x.val) := dts_at h 7 _ rfl
  have hF0 : takeD δ e = (if x.opn = false ∨ e.index ≠ dec x.calls ∨ e.act ≠ 0 ∨ e.obj ≠ 0 ∨ e.other ≠ 0 then (false, δ)
      else if wrongB n k x.op x.obj x.arg then (if e.code = 2 ∧ e.val = 0 then (true, δ.mod e.thread.toNat shutD) else (false, δ))
      else if x.far ≠ 5 ∧ (x.op ≠ 8 ∨ x.far ≠ 0) then (false, δ)
      else if e.code = x.code ∧ e.val = x.val then (true, δ.mod e.thread.toNat shutD) else (false, δ)) := by
    unfold takeD
    rw [if_neg (by rw [hn]; exact fun q => q h0), h]
    dsimp only
    rw [if_neg (by omega), if_neg (by omega), if_pos hkind, hn, hk]
  have fin : ∀ r, takeD δ e = r → SL.T Try.prog 38 [ptr βd, .agg ⟨ecells e⟩] [specD βd b1 b2 b3 n k c1 c2 c3 δ.rel, HW, HP, HT] (RetD βd b1 b2 b3 n k c1 c2 c3 r) → SL.T Try.prog 38 [ptr βd, .agg ⟨ecells e⟩] [specD βd b1 b2 b3 n k c1 c2 c3 δ.rel, HW, HP, HT] (RetD βd b1 b2 b3 n k c1 c2 c3 (takeD δ e)) := fun r e h => by rw [e]; exact h
  unfold RetD at fin ⊢
  have hdc : dec x.calls = IntKind.i64.wrap (x.calls - 1) := rfl
  have hwc := dwrong_calls (βd := βd) (b1 := b1) (b2 := b2) (b3 := b3) (n := n) (k := k) (c1 := c1) (c2 := c2) (c3 := c3) (rel := δ.rel) x.op x.obj x.arg
  have s1 := dts_set (i := 1) (vs := [.bool false]) (t' := shutD x) h (by decide) rfl
  rw [← mod_set (f := shutD) h] at s1
  cases hop : x.opn with
  | false =>
    refine fin (false, δ) (by rw [hF0]; exact if_pos (.inl hop)) ?_
    rw [hop] at a1
    refine t_of_body Try.func38 rfl (Nat.le_of_ble_eq_true rfl) fun F => ?_
    repeat' (first
      | refine swp_seq ?_
      | (refine gk 0 rfl ?_; first | refine sl_op rfl rfl rfl (by first | exact opv_move rfl rfl | exact opv_assign rfl rfl | exact opv_pick_t rfl rfl rfl | exact opv_pick_f rfl rfl rfl | exact opv_not_f rfl rfl ) ?_ | refine sl_pass rfl rfl rfl rfl ?_)
      | (refine gk 1 rfl ?_; first | refine sl_pass rfl rfl rfl rfl ?_)
      | (refine gk 2 rfl ?_; first | refine sl_pass rfl rfl rfl rfl ?_ | refine sl_yes rfl rfl rfl (by first | exact opv_lss rfl rfl rfl | exact opv_geq rfl rfl rfl | exact opv_eql rfl rfl rfl ) (by first | omega ) ?_ | refine sl_no rfl rfl rfl (by first | exact opv_lss rfl rfl rfl | exact opv_geq rfl rfl rfl | exact opv_eql rfl rfl rfl ) (by first | omega ) ?_ )
      | (refine gk 3 rfl ?_; first | refine sl_op rfl rfl rfl (by first | exact opv_load rfl (by exact rfl) rfl (by exact rfl) | exact opv_fieldAddr rfl rfl | exact opv_indexAddrI rfl rfl rfl (by omega) (by omega) (by first | omega ) | exact opv_fieldAddrE rfl rfl (by first | assumption ) | exact opv_loadEx rfl (by exact rfl) (by infer_instance) (by first | assumption ) ) ?_ | refine sl_pass rfl rfl rfl rfl ?_)
      | (refine gk 4 rfl ?_; first | refine sl_op rfl rfl rfl (by first | exact opv_len rfl rfl rfl rfl rfl ) ?_)
      | (refine gk 5 rfl ?_; first | refine sl_op rfl rfl rfl (by first | exact opv_nilCheck rfl rfl | exact opv_nilCheckE rfl rfl | exact opv_build rfl rfl (by exact rfl) ) ?_ | refine sl_pass rfl rfl rfl rfl ?_ | refine sl_box rfl rfl rfl rfl rfl rfl (fun β => ?_) | refine sl_alloc rfl rfl rfl rfl (by exact rfl) (fun β => ?_) | refine sl_store rfl rfl rfl rfl rfl rfl (by exact rfl) rfl (by exact rfl) ?_)
      | refine sl_region rfl ?_
      | refine sl_draw (by kernel_rfl) (by kernel_rfl) rfl ?_
      | refine sl_nil ?_
      | refine thn_k ?_
      | refine swp_true rfl ?_
      | refine swp_false rfl ?_
      | refine swp_block ?_
      | refine swp_ret ?_
      | refine swp_skip ?_
      | refine thn_ret ?_
      | refine inb_ret ?_
      )
    all_goals exact end_retL [specD βd b1 b2 b3 n k c1 c2 c3 δ.rel, HW, HP, HT] (resOk_one (resV_tmp rfl)) ⟨rfl, HW, HP, HT, rfl, m⟩
  | true =>
    rw [hop] at a1
    by_cases hno : e.index ≠ dec x.calls ∨ e.act ≠ 0 ∨ e.obj ≠ 0 ∨ e.other ≠ 0
    · refine fin (false, δ) (by rw [hF0]; exact if_pos (.inr hno)) ?_
      refine t_of_body Try.func38 rfl (Nat.le_of_ble_eq_true rfl) fun F => ?_
      repeat' (first
        | refine swp_seq ?_
        | (refine gk 0 rfl ?_; first | refine sl_op rfl rfl rfl (by first | exact opv_move rfl rfl | exact opv_assign rfl rfl | exact opv_pick_t rfl rfl rfl | exact opv_pick_f rfl rfl rfl | exact opv_not_t rfl rfl ) ?_ )
        | (refine gk 1 rfl ?_; first | refine sl_op rfl rfl rfl (by first | exact opv_sub rfl rfl rfl ) ?_ )
        | (refine gk 2 rfl ?_; first | refine sl_pass rfl rfl rfl rfl ?_ | refine sl_yes rfl rfl rfl (by first | exact opv_lss rfl rfl rfl | exact opv_geq rfl rfl rfl | exact opv_eql rfl rfl rfl | exact opv_neq rfl rfl rfl) (by first | omega ) ?_ | refine sl_no rfl rfl rfl (by first | exact opv_lss rfl rfl rfl | exact opv_geq rfl rfl rfl | exact opv_eql rfl rfl rfl | exact opv_neq rfl rfl rfl) (by first | omega ) ?_ | refine sl_if rfl rfl rfl (by first | exact opv_neq rfl rfl rfl) (fun h => ?_) (fun h => ?_) )
        | (refine gk 3 rfl ?_; first | refine sl_op rfl rfl rfl (by first | exact opv_load rfl (by exact rfl) rfl (by exact rfl) | exact opv_fieldAddr rfl rfl | exact opv_indexAddrI rfl rfl rfl (by omega) (by omega) (by first | omega ) | exact opv_fieldAddrE rfl rfl (by first | assumption ) | exact opv_loadEx rfl (by exact rfl) (by infer_instance) (by first | assumption ) ) ?_ | refine sl_pass rfl rfl rfl rfl ?_)
        | (refine gk 4 rfl ?_; first | refine sl_op rfl rfl rfl (by first | exact opv_len rfl rfl rfl rfl rfl ) ?_)
        | (refine gk 5 rfl ?_; first | refine sl_op rfl rfl rfl (by first | exact opv_nilCheck rfl rfl | exact opv_nilCheckE rfl rfl | exact opv_build rfl rfl (by exact rfl) ) ?_ | refine sl_box rfl rfl rfl rfl rfl rfl (fun β => ?_) | refine sl_alloc rfl rfl rfl rfl (by exact rfl) (fun β => ?_) | refine sl_store rfl rfl rfl rfl rfl rfl (by exact rfl) rfl (by exact rfl) ?_)
        | refine sl_region rfl ?_
        | refine sl_draw (by kernel_rfl) (by kernel_rfl) rfl ?_
        | refine sl_nil ?_
        | refine thn_k ?_
        | refine swp_true rfl ?_
        | refine swp_false rfl ?_
        | refine swp_block ?_
        | refine swp_ret ?_
        | refine swp_skip ?_
        | refine thn_ret ?_
        | refine inb_ret ?_
        )
      all_goals exact end_retL [specD βd b1 b2 b3 n k c1 c2 c3 δ.rel, HW, HP, HT] (resOk_one (resV_tmp rfl)) ⟨rfl, HW, HP, HT, rfl, m⟩
    rw [if_neg (fun q => q.elim (fun q => by rw [hop] at q; cases q) hno)] at hF0
    by_cases hw : wrongB n k x.op x.obj x.arg
    · have hwf := hwc.to (congrArg Value.bool (decide_eq_true hw))
      rw [if_pos hw] at hF0
      by_cases hc : e.code = 2 ∧ e.val = 0
      · refine fin (true, δ.mod e.thread.toNat shutD) (by rw [hF0]; exact if_pos hc) ?_
        have hres : (!(decide (e.code = 2) && (decide (e.val = 0) && true))) = false := by simp [hc.1, hc.2]
        refine t_of_body Try.func38 rfl (Nat.le_of_ble_eq_true rfl) fun F => ?_
        repeat' (first
          | (refine sl_storeE rfl rfl rfl rfl rfl os rfl rfl rfl (Nat.succ_pos _) (by simp; omega) s1 (fun HT2 os2 => ?_); haveI slT2 := os2.sl)
          | refine swp_seq ?_
          | (refine gk 0 rfl ?_; first | refine sl_op rfl rfl rfl (by first | exact opv_move rfl rfl | exact opv_assign rfl rfl | exact opv_pick_f rfl rfl rfl | exact opv_not_t rfl rfl ) ?_ )
          | (refine gk 1 rfl ?_; first | refine sl_op rfl rfl rfl (by first | exact opv_sub rfl rfl rfl ) ?_ )
          | (refine gk 2 rfl ?_; first | refine sl_yes rfl rfl rfl (by first | exact opv_lss rfl rfl rfl | exact opv_geq rfl rfl rfl | exact opv_eql rfl rfl rfl | exact opv_neq rfl rfl rfl) (by first | omega ) ?_ | refine sl_no rfl rfl rfl (by first | exact opv_lss rfl rfl rfl | exact opv_geq rfl rfl rfl | exact opv_eql rfl rfl rfl | exact opv_neq rfl rfl rfl) (by first | omega ) ?_ | refine sl_ff rfl rfl rfl (by first | exact opv_neqS rfl rfl rfl rfl) (by first | assumption) ?_ )
          | (refine gk 3 rfl ?_; first | refine sl_op rfl rfl rfl (by first | exact opv_load rfl (by exact rfl) rfl (by exact rfl) | exact opv_fieldAddr rfl rfl | exact opv_loadA rfl (by exact rfl) rfl (by exact rfl) (by exact rfl) | exact opv_indexAddrI rfl rfl rfl (by omega) (by omega) (by first | omega ) | exact opv_fieldAddrE rfl rfl (by first | assumption ) | exact opv_loadEx rfl (by exact rfl) (by infer_instance) (by first | assumption ) | exact opv_load2 rfl (by exact rfl) (by infer_instance) (by assumption) (by assumption) | exact opv_load3 rfl (by exact rfl) (by infer_instance) (by assumption) (by assumption) (by assumption)) ?_ )
          | (refine gk 4 rfl ?_; first | refine sl_op rfl rfl rfl (by first | exact opv_len rfl rfl rfl rfl rfl ) ?_ | refine sl_op rfl rfl rfl (opv_call rfl rfl rfl rfl rfl (hwf)) ?_)
          | (refine gk 5 rfl ?_; first | refine sl_op rfl rfl rfl (by first | exact opv_nilCheck rfl rfl | exact opv_nilCheckE rfl rfl | exact opv_build rfl rfl (by exact rfl) ) ?_ | refine sl_box rfl rfl rfl rfl rfl rfl (fun β => ?_) | refine sl_alloc rfl rfl rfl rfl (by exact rfl) (fun β => ?_) | refine sl_store rfl rfl rfl rfl rfl rfl (by exact rfl) rfl (by exact rfl) ?_)
          | refine sl_region rfl ?_
          | refine sl_draw (by kernel_rfl) (by kernel_rfl) rfl ?_
          | refine sl_nil ?_
          | refine thn_k ?_
          | refine swp_true rfl ?_
          | refine swp_false rfl ?_
          | refine swp_block ?_
          | refine swp_ret ?_
          | refine swp_skip ?_
          | refine thn_ret ?_
          | refine inb_ret ?_
          )
        all_goals exact end_retL [specD βd b1 b2 b3 n k c1 c2 c3 δ.rel, HW, HP, HT2] (resOk_one (resV_tmp rfl)) ⟨rfl, HW, HP, HT2, rfl, m.mod os2⟩
      · have hres : (!(decide (e.code = 2) && (decide (e.val = 0) && true))) = true := by
          simp
          by_cases a : e.code = 2
          · exact .inr fun b => hc ⟨a, b⟩
          · exact .inl a
        refine fin (false, δ) (by rw [hF0]; exact if_neg hc) ?_
        refine t_of_body Try.func38 rfl (Nat.le_of_ble_eq_true rfl) fun F => ?_
        repeat' (first
          | refine swp_seq ?_
          | (refine gk 0 rfl ?_; first | refine sl_op rfl rfl rfl (by first | exact opv_move rfl rfl | exact opv_assign rfl rfl | exact opv_pick_f rfl rfl rfl | exact opv_not_t rfl rfl ) ?_ )
          | (refine gk 1 rfl ?_; first | refine sl_op rfl rfl rfl (by first | exact opv_sub rfl rfl rfl ) ?_ )
          | (refine gk 2 rfl ?_; first | refine sl_yes rfl rfl rfl (by first | exact opv_lss rfl rfl rfl | exact opv_geq rfl rfl rfl | exact opv_eql rfl rfl rfl | exact opv_neq rfl rfl rfl) (by first | omega ) ?_ | refine sl_no rfl rfl rfl (by first | exact opv_lss rfl rfl rfl | exact opv_geq rfl rfl rfl | exact opv_eql rfl rfl rfl | exact opv_neq rfl rfl rfl) (by first | omega ) ?_ | refine sl_tt rfl rfl rfl (by first | exact opv_neqS rfl rfl rfl rfl) (by first | assumption) ?_ )
          | (refine gk 3 rfl ?_; first | refine sl_op rfl rfl rfl (by first | exact opv_load rfl (by exact rfl) rfl (by exact rfl) | exact opv_fieldAddr rfl rfl | exact opv_loadA rfl (by exact rfl) rfl (by exact rfl) (by exact rfl) | exact opv_indexAddrI rfl rfl rfl (by omega) (by omega) (by first | omega ) | exact opv_fieldAddrE rfl rfl (by first | assumption ) | exact opv_loadEx rfl (by exact rfl) (by infer_instance) (by first | assumption ) | exact opv_load2 rfl (by exact rfl) (by infer_instance) (by assumption) (by assumption) | exact opv_load3 rfl (by exact rfl) (by infer_instance) (by assumption) (by assumption) (by assumption)) ?_ )
          | (refine gk 4 rfl ?_; first | refine sl_op rfl rfl rfl (by first | exact opv_len rfl rfl rfl rfl rfl ) ?_ | refine sl_op rfl rfl rfl (opv_call rfl rfl rfl rfl rfl (hwf)) ?_)
          | (refine gk 5 rfl ?_; first | refine sl_op rfl rfl rfl (by first | exact opv_nilCheck rfl rfl | exact opv_nilCheckE rfl rfl | exact opv_build rfl rfl (by exact rfl) ) ?_ | refine sl_box rfl rfl rfl rfl rfl rfl (fun β => ?_) | refine sl_alloc rfl rfl rfl rfl (by exact rfl) (fun β => ?_) | refine sl_store rfl rfl rfl rfl rfl rfl (by exact rfl) rfl (by exact rfl) ?_)
          | refine sl_region rfl ?_
          | refine sl_draw (by kernel_rfl) (by kernel_rfl) rfl ?_
          | refine sl_nil ?_
          | refine thn_k ?_
          | refine swp_true rfl ?_
          | refine swp_false rfl ?_
          | refine swp_block ?_
          | refine swp_ret ?_
          | refine swp_skip ?_
          | refine thn_ret ?_
          | refine inb_ret ?_
          )
        all_goals exact end_retL [specD βd b1 b2 b3 n k c1 c2 c3 δ.rel, HW, HP, HT] (resOk_one (resV_tmp rfl)) ⟨rfl, HW, HP, HT, rfl, m⟩
    · have hwf := hwc.to (congrArg Value.bool (decide_eq_false hw))
      rw [if_neg hw] at hF0
      by_cases hm : x.far ≠ 5 ∧ (x.op ≠ 8 ∨ x.far ≠ 0)
      · refine fin (false, δ) (by rw [hF0]; exact if_pos hm) ?_
        refine t_of_body Try.func38 rfl (Nat.le_of_ble_eq_true rfl) fun F => ?_
        repeat' (first
          | refine swp_seq ?_
          | (refine gk 0 rfl ?_; first | refine sl_op rfl rfl rfl (by first | exact opv_move rfl rfl | exact opv_assign rfl rfl | exact opv_pick_t rfl rfl rfl | exact opv_pick_f rfl rfl rfl | exact opv_not_t rfl rfl ) ?_ | refine sl_pass rfl rfl rfl rfl ?_)
          | (refine gk 1 rfl ?_; first | refine sl_op rfl rfl rfl (by first | exact opv_sub rfl rfl rfl ) ?_ )
          | (refine gk 2 rfl ?_; first | refine sl_pass rfl rfl rfl rfl ?_ | refine sl_yes rfl rfl rfl (by first | exact opv_lss rfl rfl rfl | exact opv_geq rfl rfl rfl | exact opv_eql rfl rfl rfl | exact opv_neq rfl rfl rfl) (by first | omega ) ?_ | refine sl_no rfl rfl rfl (by first | exact opv_lss rfl rfl rfl | exact opv_geq rfl rfl rfl | exact opv_eql rfl rfl rfl | exact opv_neq rfl rfl rfl) (by first | omega ) ?_ | refine sl_if rfl rfl rfl (by first | exact opv_neq rfl rfl rfl) (fun h => ?_) (fun h => ?_) )
          | (refine gk 3 rfl ?_; first | refine sl_op rfl rfl rfl (by first | exact opv_load rfl (by exact rfl) rfl (by exact rfl) | exact opv_fieldAddr rfl rfl | exact opv_indexAddrI rfl rfl rfl (by omega) (by omega) (by first | omega ) | exact opv_fieldAddrE rfl rfl (by first | assumption | omega) | exact opv_loadEx rfl (by exact rfl) (by infer_instance) (by first | assumption ) | exact opv_load2 rfl (by exact rfl) (by infer_instance) (by assumption) (by assumption) | exact opv_load3 rfl (by exact rfl) (by infer_instance) (by assumption) (by assumption) (by assumption)) ?_ | refine sl_pass rfl rfl rfl rfl ?_)
          | (refine gk 4 rfl ?_; first | refine sl_op rfl rfl rfl (by first | exact opv_len rfl rfl rfl rfl rfl ) ?_ | refine sl_op rfl rfl rfl (opv_call rfl rfl rfl rfl rfl (hwf)) ?_)
          | (refine gk 5 rfl ?_; first | refine sl_op rfl rfl rfl (by first | exact opv_nilCheck rfl rfl | exact opv_nilCheckE rfl rfl | exact opv_build rfl rfl (by exact rfl) ) ?_ | refine sl_pass rfl rfl rfl rfl ?_ | refine sl_box rfl rfl rfl rfl rfl rfl (fun β => ?_) | refine sl_alloc rfl rfl rfl rfl (by exact rfl) (fun β => ?_) | refine sl_store rfl rfl rfl rfl rfl rfl (by exact rfl) rfl (by exact rfl) ?_)
          | refine sl_region rfl ?_
          | refine sl_draw (by kernel_rfl) (by kernel_rfl) rfl ?_
          | refine sl_nil ?_
          | refine thn_k ?_
          | refine swp_true rfl ?_
          | refine swp_false rfl ?_
          | refine swp_block ?_
          | refine swp_ret ?_
          | refine swp_skip ?_
          | refine thn_ret ?_
          | refine inb_ret ?_
          )
        all_goals exact end_retL [specD βd b1 b2 b3 n k c1 c2 c3 δ.rel, HW, HP, HT] (resOk_one (resV_tmp rfl)) ⟨rfl, HW, HP, HT, rfl, m⟩
      · rw [if_neg hm] at hF0
        by_cases hc : e.code = x.code ∧ e.val = x.val
        · refine fin (true, δ.mod e.thread.toNat shutD) (by rw [hF0]; exact if_pos hc) ?_
          have hres : (!(decide (e.code = x.code) && (decide (e.val = x.val) && true))) = false := by simp [hc.1, hc.2]
          refine t_of_body Try.func38 rfl (Nat.le_of_ble_eq_true rfl) fun F => ?_
          repeat' (first
            | (refine sl_storeE rfl rfl rfl rfl rfl os rfl rfl rfl (Nat.succ_pos _) (by simp; omega) s1 (fun HT2 os2 => ?_); haveI slT2 := os2.sl)
            | refine swp_seq ?_
            | (refine gk 0 rfl ?_; first | refine sl_op rfl rfl rfl (by first | exact opv_move rfl rfl | exact opv_assign rfl rfl | exact opv_pick_t rfl rfl rfl | exact opv_pick_f rfl rfl rfl | exact opv_not_t rfl rfl ) ?_ | refine sl_pass rfl rfl rfl rfl ?_)
            | (refine gk 1 rfl ?_; first | refine sl_op rfl rfl rfl (by first | exact opv_sub rfl rfl rfl ) ?_ )
            | (refine gk 2 rfl ?_; first | refine sl_pass rfl rfl rfl rfl ?_ | refine sl_yes rfl rfl rfl (by first | exact opv_lss rfl rfl rfl | exact opv_geq rfl rfl rfl | exact opv_eql rfl rfl rfl | exact opv_neq rfl rfl rfl) (by first | omega ) ?_ | refine sl_no rfl rfl rfl (by first | exact opv_lss rfl rfl rfl | exact opv_geq rfl rfl rfl | exact opv_eql rfl rfl rfl | exact opv_neq rfl rfl rfl) (by first | omega ) ?_ | refine sl_if rfl rfl rfl (by first | exact opv_neq rfl rfl rfl) (fun h => ?_) (fun h => ?_) | refine sl_ff rfl rfl rfl (by first | exact opv_neqS rfl rfl rfl rfl) (by first | assumption) ?_ )
            | (refine gk 3 rfl ?_; first | refine sl_op rfl rfl rfl (by first | exact opv_load rfl (by exact rfl) rfl (by exact rfl) | exact opv_fieldAddr rfl rfl | exact opv_loadA rfl (by exact rfl) rfl (by exact rfl) (by exact rfl) | exact opv_indexAddrI rfl rfl rfl (by omega) (by omega) (by first | omega ) | exact opv_fieldAddrE rfl rfl (by first | assumption | omega) | exact opv_loadEx rfl (by exact rfl) (by infer_instance) (by first | assumption ) | exact opv_load2 rfl (by exact rfl) (by infer_instance) (by assumption) (by assumption) | exact opv_load3 rfl (by exact rfl) (by infer_instance) (by assumption) (by assumption) (by assumption)) ?_ | refine sl_pass rfl rfl rfl rfl ?_)
            | (refine gk 4 rfl ?_; first | refine sl_op rfl rfl rfl (by first | exact opv_len rfl rfl rfl rfl rfl ) ?_ | refine sl_op rfl rfl rfl (opv_call rfl rfl rfl rfl rfl (hwf)) ?_)
            | (refine gk 5 rfl ?_; first | refine sl_op rfl rfl rfl (by first | exact opv_nilCheck rfl rfl | exact opv_nilCheckE rfl rfl | exact opv_build rfl rfl (by exact rfl) ) ?_ | refine sl_pass rfl rfl rfl rfl ?_ | refine sl_box rfl rfl rfl rfl rfl rfl (fun β => ?_) | refine sl_alloc rfl rfl rfl rfl (by exact rfl) (fun β => ?_) | refine sl_store rfl rfl rfl rfl rfl rfl (by exact rfl) rfl (by exact rfl) ?_)
            | refine sl_region rfl ?_
            | refine sl_draw (by kernel_rfl) (by kernel_rfl) rfl ?_
            | refine sl_nil ?_
            | refine thn_k ?_
            | refine swp_true rfl ?_
            | refine swp_false rfl ?_
            | refine swp_block ?_
            | refine swp_ret ?_
            | refine swp_skip ?_
            | refine thn_ret ?_
            | refine inb_ret ?_
            )
          all_goals exact end_retL [specD βd b1 b2 b3 n k c1 c2 c3 δ.rel, HW, HP, HT2] (resOk_one (resV_tmp rfl)) ⟨rfl, HW, HP, HT2, rfl, m.mod os2⟩
        · have hres : (!(decide (e.code = x.code) && (decide (e.val = x.val) && true))) = true := by
            simp
            by_cases a : e.code = x.code
            · exact .inr fun b => hc ⟨a, b⟩
            · exact .inl a
          refine fin (false, δ) (by rw [hF0]; exact if_neg hc) ?_
          refine t_of_body Try.func38 rfl (Nat.le_of_ble_eq_true rfl) fun F => ?_
          repeat' (first
            | refine swp_seq ?_
            | (refine gk 0 rfl ?_; first | refine sl_op rfl rfl rfl (by first | exact opv_move rfl rfl | exact opv_assign rfl rfl | exact opv_pick_t rfl rfl rfl | exact opv_pick_f rfl rfl rfl | exact opv_not_t rfl rfl ) ?_ | refine sl_pass rfl rfl rfl rfl ?_)
            | (refine gk 1 rfl ?_; first | refine sl_op rfl rfl rfl (by first | exact opv_sub rfl rfl rfl ) ?_ )
            | (refine gk 2 rfl ?_; first | refine sl_pass rfl rfl rfl rfl ?_ | refine sl_yes rfl rfl rfl (by first | exact opv_lss rfl rfl rfl | exact opv_geq rfl rfl rfl | exact opv_eql rfl rfl rfl | exact opv_neq rfl rfl rfl) (by first | omega ) ?_ | refine sl_no rfl rfl rfl (by first | exact opv_lss rfl rfl rfl | exact opv_geq rfl rfl rfl | exact opv_eql rfl rfl rfl | exact opv_neq rfl rfl rfl) (by first | omega ) ?_ | refine sl_if rfl rfl rfl (by first | exact opv_neq rfl rfl rfl) (fun h => ?_) (fun h => ?_) | refine sl_tt rfl rfl rfl (by first | exact opv_neqS rfl rfl rfl rfl) (by first | assumption) ?_ )
            | (refine gk 3 rfl ?_; first | refine sl_op rfl rfl rfl (by first | exact opv_load rfl (by exact rfl) rfl (by exact rfl) | exact opv_fieldAddr rfl rfl | exact opv_loadA rfl (by exact rfl) rfl (by exact rfl) (by exact rfl) | exact opv_indexAddrI rfl rfl rfl (by omega) (by omega) (by first | omega ) | exact opv_fieldAddrE rfl rfl (by first | assumption | omega) | exact opv_loadEx rfl (by exact rfl) (by infer_instance) (by first | assumption ) | exact opv_load2 rfl (by exact rfl) (by infer_instance) (by assumption) (by assumption) | exact opv_load3 rfl (by exact rfl) (by infer_instance) (by assumption) (by assumption) (by assumption)) ?_ | refine sl_pass rfl rfl rfl rfl ?_)
            | (refine gk 4 rfl ?_; first | refine sl_op rfl rfl rfl (by first | exact opv_len rfl rfl rfl rfl rfl ) ?_ | refine sl_op rfl rfl rfl (opv_call rfl rfl rfl rfl rfl (hwf)) ?_)
            | (refine gk 5 rfl ?_; first | refine sl_op rfl rfl rfl (by first | exact opv_nilCheck rfl rfl | exact opv_nilCheckE rfl rfl | exact opv_build rfl rfl (by exact rfl) ) ?_ | refine sl_pass rfl rfl rfl rfl ?_ | refine sl_box rfl rfl rfl rfl rfl rfl (fun β => ?_) | refine sl_alloc rfl rfl rfl rfl (by exact rfl) (fun β => ?_) | refine sl_store rfl rfl rfl rfl rfl rfl (by exact rfl) rfl (by exact rfl) ?_)
            | refine sl_region rfl ?_
            | refine sl_draw (by kernel_rfl) (by kernel_rfl) rfl ?_
            | refine sl_nil ?_
            | refine thn_k ?_
            | refine swp_true rfl ?_
            | refine swp_false rfl ?_
            | refine swp_block ?_
            | refine swp_ret ?_
            | refine swp_skip ?_
            | refine thn_ret ?_
            | refine inb_ret ?_
            )
          all_goals exact end_retL [specD βd b1 b2 b3 n k c1 c2 c3 δ.rel, HW, HP, HT] (resOk_one (resV_tmp rfl)) ⟨rfl, HW, HP, HT, rfl, m⟩
end
end Go.Proofs.Ytimmclibnfdjhaa
end
