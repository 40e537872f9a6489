/- A call, and what it answers. -/
import Derived.Test.YtimmclibnfdjhaaWB6
import Derived.Test.YtimmclibnfdjhaaSlG9
set_option linter.unusedVariables false
set_option linter.unusedSimpArgs false
set_option linter.unusedSectionVars false
namespace Go.Proofs.Ytimmclibnfdjhaa
open Go.SL
set_option maxRecDepth 100000
set_option maxHeartbeats 16000000
attribute [local irreducible] SL.T PFn OpV SOL SWP HOp ChU
def callsT (th : List Th) (t : Nat) (c : Int) : List Th := th.modify t fun x => { x with calls := c }
theorem callsT_at {th : List Th} {t u : Nat} {c : Int} : (callsT th t c)[u]? = (th[u]?).map fun x => if u = t then { x with calls := c } else x := by
  unfold callsT
  rw [List.getElem?_modify]
  cases th[u]? with
  | none => rfl
  | some x =>
    simp only [Option.map_some, Functor.map]
    by_cases e : u = t
    · simp [e]
    · rw [if_neg (Ne.symm e), if_neg e]
theorem callsT_length {th : List Th} {t : Nat} {c : Int} : (callsT th t c).length = th.length := by simp [callsT]
theorem callsT_cells : ∀ {bs : List (Option Nat)} {th : List Th} {t : Nat} {x : Th} (c : Int), bs.length = th.length → th[t]? = some x → (thCells bs th).take (t * 3 + 1) ++ [i64 c] ++ (thCells bs th).drop (t * 3 + 1 + 1) = thCells bs (callsT th t c)
  | q :: bs, y :: th, 0, x, b, hl, h => by simp at h; subst h; simp [thCells, callsT]
  | q :: bs, y :: th, t + 1, x, b, hl, h => by
    have ih := callsT_cells (bs := bs) (th := th) (t := t) (x := x) b (by simpa using hl) (by simpa using h)
    have e2 : (t + 1) * 3 + 1 = t * 3 + 1 + 1 + 1 + 1 := by omega
    rw [e2]
    simp only [callsT, List.modify_succ_cons, thCells, List.take_succ_cons, List.drop_succ_cons, List.cons_append] at ih ⊢
    rw [ih]
  | [], _ :: _, _, _, _, hl, _ => by simp at hl
theorem ptr_cells : ∀ {bs : List (Option Nat)} {th : List Th} {t : Nat} (b : Option Nat), bs.length = th.length → t < th.length → (thCells bs th).take (t * 3) ++ [ptrV b] ++ (thCells bs th).drop (t * 3 + 1) = thCells (bs.set t b) th
  | q :: bs, y :: th, 0, b, hl, h => by simp [thCells]
  | q :: bs, y :: th, t + 1, b, hl, h => by
    have ih := ptr_cells (bs := bs) (th := th) (t := t) b (by simpa using hl) (by simpa using h)
    have e : (t + 1) * 3 = t * 3 + 1 + 1 + 1 := by omega
    have e2 : (t + 1) * 3 + 1 = t * 3 + 1 + 1 + 1 + 1 := by omega
    rw [e2, e]
    simp only [List.set_cons_succ, thCells, List.take_succ_cons, List.drop_succ_cons, List.cons_append]
    rw [ih]
  | [], _ :: _, _, _, hl, _ => by simp at hl
  | _, [], _, _, _, h => by simp at h
def St.cls (σ : St) (t : Nat) (c : Int) : St := { σ with th := callsT σ.th t c }
def St.shut (σ : St) (t : Nat) : St := { σ with th := opnT σ.th t none }
abbrev opened (e : Ev) : Opn := ⟨e.act, e.obj, e.other, 0, 0, 0, 0, 0⟩
def callNo (x : Th) (e : Ev) : Prop := x.opn ≠ none ∨ e.index ≠ x.calls ∨ e.code ≠ 0 ∨ e.val ≠ 0
/-- What is to be answered. -/
def wantC (n k : Nat) (o : Opn) : Int × Int := if wrongB n k o.op o.obj o.arg then (2, 0) else (o.code, o.val)
def mayB (n k : Nat) (o : Opn) : Prop := wrongB n k o.op o.obj o.arg ∨ o.far = 5 ∨ (o.op = 8 ∧ o.far = 0)
instance {n k : Nat} {o : Opn} : Decidable (mayB n k o) := by unfold mayB; infer_instance
def ansNo (n k : Nat) (x : Th) (o : Opn) (e : Ev) : Prop := e.index ≠ dec x.calls ∨ e.act ≠ 0 ∨ e.obj ≠ 0 ∨ e.other ≠ 0 ∨ ¬ mayB n k o ∨ e.code ≠ (wantC n k o).1 ∨ e.val ≠ (wantC n k o).2
section
variable {βs t : Nat} {bt bo : Option Addr} {n ct kk co : Nat} {e : Ev} {HT HO OP : Heap} {bs : List (Option Nat)} {σ : St} {x : Th}
theorem call_no (m : MemOk bt bo ct co HT HO OP bs σ) (ht : σ.th[t]? = some x) (hno : callNo x e) : PFn Try.prog 26 [ept bt (t * 3), .agg ⟨ecells e⟩] [HT] (.bool false) := by
  haveI := m.nT
  haveI slT := m.hT.sl
  obtain ⟨b, hb, hb1, hb2⟩ := m.op.at_ _ _ ht
  obtain ⟨c1, c2, c3⟩ := thCells_at hb ht
  have hl3 := thCells_length bs σ.th m.op.len
  have htl : t * 3 < (thCells bs σ.th).length := (List.getElem?_eq_some_iff.1 c1).1
  cases hx : x.opn with
  | some o =>
    obtain ⟨β, rfl, -⟩ := hb2 o hx
    have c0 : (thCells bs σ.th)[t * 3 + 0]? = some (ptr β) := c1
    refine pure_of_body Try.func26 rfl (Nat.le_of_ble_eq_true rfl) fun F => ?_
    repeat' (first
      | refine swp_seq ?_
      | (refine gk 0 rfl ?_; first | refine sl_op rfl rfl rfl (by first | exact opv_move rfl rfl | exact opv_assign rfl rfl | exact opv_pick_t rfl rfl rfl ) ?_ | refine sl_pass rfl rfl rfl rfl ?_)
      | (refine gk 2 rfl ?_; first | refine sl_pass rfl rfl rfl rfl ?_ | refine sl_op rfl rfl rfl (by first | exact opv_ptrNeq rfl rfl) ?_ )
      | (refine gk 3 rfl ?_; first | refine sl_op rfl rfl rfl (by first | exact opv_fieldAddr rfl rfl | exact opv_fieldAddrE rfl rfl (by first | assumption ) | exact opv_loadEx rfl (by exact rfl) (by infer_instance) (by first | assumption ) ) ?_ | refine sl_pass rfl rfl rfl rfl ?_)
      | (refine gk 5 rfl ?_; first | refine sl_op rfl rfl rfl (by first | exact opv_nilCheckE rfl rfl | exact opv_build rfl rfl (by exact rfl) ) ?_ | refine sl_pass rfl rfl rfl rfl ?_ | refine sl_box rfl rfl rfl rfl rfl rfl (fun β => ?_) )
      | refine sl_region rfl ?_
      | refine sl_draw (by kernel_rfl) (by kernel_rfl) rfl ?_
      | refine sl_nil ?_
      | refine thn_k ?_
      | refine swp_true rfl ?_
      | refine swp_ret ?_
      | refine thn_ret ?_
      )
    refine end_pure (resOk_one (resV_tmp rfl)) ?_
    rfl
  | none =>
    obtain rfl := hb1 hx
    have c0 : (thCells bs σ.th)[t * 3 + 0]? = some (.pointer none) := c1
    by_cases hi : e.index = x.calls
    · have hres : (!(decide (e.code = 0) && (decide (e.val = 0) && true))) = true := by
        simp
        by_cases a : e.code = 0
        · refine .inr fun b => ?_
          rcases hno with h | h | h | h
          · exact h hx
          · exact h hi
          · exact h a
          · exact h b
        · exact .inl a
      refine pure_of_body Try.func26 rfl (Nat.le_of_ble_eq_true rfl) fun F => ?_
      repeat' (first
        | refine swp_seq ?_
        | (refine gk 0 rfl ?_; first | refine sl_op rfl rfl rfl (by first | exact opv_move rfl rfl | exact opv_assign rfl rfl | exact opv_pick_f rfl rfl rfl ) ?_ )
        | (refine gk 2 rfl ?_; first | refine sl_no rfl rfl rfl (by first | exact opv_neq rfl rfl rfl) (by first | omega ) ?_ | refine sl_op rfl rfl rfl (by first | exact opv_ptrNeq rfl rfl) ?_ | refine sl_tt rfl rfl rfl (by first | exact opv_neqS rfl rfl rfl rfl) (by first | assumption) ?_ )
        | (refine gk 3 rfl ?_; first | refine sl_op rfl rfl rfl (by first | exact opv_load rfl (by exact rfl) rfl (by exact rfl) | exact opv_fieldAddr rfl rfl | exact opv_loadA rfl (by exact rfl) rfl (by exact rfl) (by exact rfl) | exact opv_fieldAddrE rfl rfl (by first | assumption ) | exact opv_loadEx rfl (by exact rfl) (by infer_instance) (by first | assumption ) ) ?_ )
        | (refine gk 5 rfl ?_; first | refine sl_op rfl rfl rfl (by first | exact opv_nilCheckE rfl rfl | exact opv_build rfl rfl (by exact rfl) ) ?_ | refine sl_box rfl rfl rfl rfl rfl rfl (fun β => ?_) )
        | refine sl_region rfl ?_
        | refine sl_draw (by kernel_rfl) (by kernel_rfl) rfl ?_
        | refine sl_nil ?_
        | refine thn_k ?_
        | refine swp_true rfl ?_
        | refine swp_ret ?_
        | refine thn_ret ?_
        )
      refine end_pure (resOk_one (resV_tmp rfl)) ?_
      rfl
    · refine pure_of_body Try.func26 rfl (Nat.le_of_ble_eq_true rfl) fun F => ?_
      repeat' (first
        | refine swp_seq ?_
        | (refine gk 0 rfl ?_; first | refine sl_op rfl rfl rfl (by first | exact opv_move rfl rfl | exact opv_assign rfl rfl | exact opv_pick_t rfl rfl rfl | exact opv_pick_f rfl rfl rfl ) ?_ )
        | (refine gk 2 rfl ?_; first | refine sl_pass rfl rfl rfl rfl ?_ | refine sl_yes rfl rfl rfl (by first | exact opv_neq rfl rfl rfl) (by first | omega ) ?_ | refine sl_op rfl rfl rfl (by first | exact opv_ptrNeq rfl rfl) ?_ )
        | (refine gk 3 rfl ?_; first | refine sl_op rfl rfl rfl (by first | exact opv_load rfl (by exact rfl) rfl (by exact rfl) | exact opv_fieldAddr rfl rfl | exact opv_fieldAddrE rfl rfl (by first | assumption ) | exact opv_loadEx rfl (by exact rfl) (by infer_instance) (by first | assumption ) ) ?_ | refine sl_pass rfl rfl rfl rfl ?_)
        | (refine gk 5 rfl ?_; first | refine sl_op rfl rfl rfl (by first | exact opv_nilCheckE rfl rfl | exact opv_build rfl rfl (by exact rfl) ) ?_ | refine sl_pass rfl rfl rfl rfl ?_ | refine sl_box rfl rfl rfl rfl rfl rfl (fun β => ?_) )
        | refine sl_region rfl ?_
        | refine sl_draw (by kernel_rfl) (by kernel_rfl) rfl ?_
        | refine sl_nil ?_
        | refine thn_k ?_
        | refine swp_true rfl ?_
        | refine swp_ret ?_
        | refine thn_ret ?_
        )
      refine end_pure (resOk_one (resV_tmp rfl)) ?_
      rfl
theorem call_go (m : MemOk bt bo ct co HT HO OP bs σ) (ht : σ.th[t]? = some x) (hgo : ¬ callNo x e) :
    SL.T Try.prog 26 [ept bt (t * 3), .agg ⟨ecells e⟩] [HT] fun en w => en = .returned (.bool true) ∧ ∃ β HT', w = [blk β (oblk (opened e)), HT'] ∧ OS HT' bt σ.th.length ct 73 3 (thCells (bs.set t (some β)) (callsT σ.th t (inc x.calls))) := by
  haveI := m.nT
  haveI slT := m.hT.sl
  have osT := m.hT
  obtain ⟨b, hb, hb1, hb2⟩ := m.op.at_ _ _ ht
  obtain ⟨c1, c2, c3⟩ := thCells_at hb ht
  have hl3 := thCells_length bs σ.th m.op.len
  have htl : t * 3 < (thCells bs σ.th).length := (List.getElem?_eq_some_iff.1 c1).1
  unfold callNo at hgo
  simp only [not_or] at hgo
  obtain ⟨q1, q2, q3, q4⟩ := hgo
  have q1 : x.opn = none := Classical.byContradiction q1
  have q2 : e.index = x.calls := Classical.byContradiction q2
  have q3 : e.code = 0 := Classical.byContradiction q3
  have q4 : e.val = 0 := Classical.byContradiction q4
  have hres : (!(decide (e.code = 0) && (decide (e.val = 0) && true))) = false := by simp [q3, q4]
  obtain rfl := hb1 q1
  have c0 : (thCells bs σ.th)[t * 3 + 0]? = some (.pointer none) := c1
  have hcc := callsT_cells (inc x.calls) m.op.len ht
  have hlen2 : bs.length = (callsT σ.th t (inc x.calls)).length := by rw [callsT_length]; exact m.op.len
  have hpc := fun β => ptr_cells (bs := bs) (th := callsT σ.th t (inc x.calls)) (t := t) (some β) hlen2 (by rw [callsT_length]; exact (List.getElem?_eq_some_iff.1 ht).1)
  have hl4 := thCells_length bs (callsT σ.th t (inc x.calls)) hlen2
  rw [callsT_length] at hl4
  refine t_of_body Try.func26 rfl (Nat.le_of_ble_eq_true rfl) fun F => ?_
  repeat' (first
    | refine swp_seq ?_
    | (refine gk 0 rfl ?_; first | refine sl_op rfl rfl rfl (by first | exact opv_assign rfl rfl ) ?_ )
    | (refine gk 5 rfl ?_; first | refine sl_box rfl rfl rfl rfl rfl rfl (fun β => ?_) )
    | refine sl_region rfl ?_
    | refine sl_nil ?_
    )
  refine sl_draw (by kernel_rfl) (by kernel_rfl) rfl ?_
  repeat' (first
    | (refine sl_storeE rfl rfl rfl rfl rfl osT rfl rfl rfl (Nat.succ_pos _) (by simp; omega) hcc (fun HT2 osT2 => ?_); haveI slT2 := osT2.sl; have htl2 : t * 3 < (thCells bs (callsT σ.th t (inc x.calls))).length := by omega)
    | refine sl_storeE rfl rfl rfl rfl rfl osT2 rfl rfl rfl (Nat.succ_pos _) (by simp; omega) (hpc _) (fun HT3 osT3 => ?_)
    | refine swp_seq ?_
    | (refine gk 0 rfl ?_; first | refine sl_op rfl rfl rfl (by first | exact opv_move rfl rfl | exact opv_assign rfl rfl | exact opv_pick_f rfl rfl rfl ) ?_ )
    | (refine gk 1 rfl ?_; first | refine sl_op rfl rfl rfl (by first | exact opv_add rfl rfl rfl ) ?_ )
    | (refine gk 2 rfl ?_; first | refine sl_no rfl rfl rfl (by first | exact opv_neq rfl rfl rfl) (by first | omega ) ?_ | refine sl_op rfl rfl rfl (by first | exact opv_ptrNeq rfl rfl) ?_ | refine sl_ff rfl rfl rfl (by first | exact opv_neqS rfl rfl rfl rfl) (by first | assumption) ?_ )
    | (refine gk 3 rfl ?_; first | refine sl_op rfl rfl rfl (by first | exact opv_load rfl (by exact rfl) rfl (by exact rfl) | exact opv_fieldAddr rfl rfl | exact opv_loadA rfl (by exact rfl) rfl (by exact rfl) (by exact rfl) | exact opv_fieldAddrE rfl rfl (by first | assumption ) | exact opv_loadEx rfl (by exact rfl) (by infer_instance) (by first | assumption ) ) ?_ )
    | (refine gk 5 rfl ?_; first | refine sl_op rfl rfl rfl (by first | exact opv_nilCheckE rfl rfl | exact opv_build rfl rfl (by exact rfl) ) ?_ | refine sl_box rfl rfl rfl rfl rfl rfl (fun β => ?_) )
    | refine sl_region rfl ?_
    | refine sl_nil ?_
    | refine thn_k ?_
    | refine swp_false rfl ?_
    | refine swp_ret ?_
    | refine swp_skip ?_
    )
  exact end_retL [blk β (oblk (opened e)), HT3] (resOk_one (resV_tmp rfl)) ⟨rfl, β, HT3, rfl, osT3⟩
end
end Go.Proofs.Ytimmclibnfdjhaa
