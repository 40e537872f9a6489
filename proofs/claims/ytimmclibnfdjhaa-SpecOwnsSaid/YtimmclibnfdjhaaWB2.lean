/- The automaton's state as it is laid; who waits. -/
import Derived.Test.YtimmclibnfdjhaaWB
set_option linter.unusedVariables false
set_option linter.unusedSimpArgs false
set_option linter.unusedSectionVars false
namespace Go.Proofs.Ytimmclibnfdjhaa
open Go.SL
set_option maxRecDepth 100000
set_option maxHeartbeats 16000000
attribute [local irreducible] SL.T PFn OpV SOL SWP HOp ChU
/-- A thread. -/
structure Th where
  opn : Option Opn
  calls : Int
  flag : Bool
/-- The automaton. -/
structure St where
  th : List Th
  ob : List (Int × Int)
  rel : Int
abbrev ptrV (b : Option Nat) : Value := .pointer (b.map fun β => ⟨β, 0, none⟩)
def thCells : List (Option Nat) → List Th → List Value
  | b :: bs, t :: ts => ptrV b :: i64 t.calls :: .bool t.flag :: thCells bs ts
  | _, _ => []
def obCells : List (Int × Int) → List Value
  | [] => []
  | p :: l => i64 p.1 :: i64 p.2 :: obCells l
theorem obCells_length : ∀ (l : List (Int × Int)), (obCells l).length = l.length * 2
  | [] => rfl
  | p :: l => by simp [obCells, obCells_length l]; omega
theorem obCells_at : ∀ {l : List (Int × Int)} {k : Nat} {p : Int × Int}, l[k]? = some p → (obCells l)[k * 2]? = some (i64 p.1) ∧ (obCells l)[k * 2 + 1]? = some (i64 p.2)
  | _ :: l, 0, p, h => by simp at h; subst h; exact ⟨rfl, rfl⟩
  | _ :: l, k + 1, p, h => by
    have ih := obCells_at (l := l) (k := k) (p := p) (by simpa using h)
    have e : (k + 1) * 2 = k * 2 + 1 + 1 := by omega
    rw [e]; exact ih
theorem thCells_length : ∀ (bs : List (Option Nat)) (ts : List Th), bs.length = ts.length → (thCells bs ts).length = ts.length * 3
  | [], [], _ => rfl
  | b :: bs, t :: ts, h => by simp [thCells, thCells_length bs ts (by simpa using h)]; omega
  | [], _ :: _, h => by simp at h
  | _ :: _, [], h => by simp at h
theorem thCells_at : ∀ {bs : List (Option Nat)} {ts : List Th} {k : Nat} {b : Option Nat} {t : Th}, bs[k]? = some b → ts[k]? = some t → (thCells bs ts)[k * 3]? = some (ptrV b) ∧ (thCells bs ts)[k * 3 + 1]? = some (i64 t.calls) ∧ (thCells bs ts)[k * 3 + 2]? = some (.bool t.flag)
  | _ :: bs, _ :: ts, 0, b, t, h1, h2 => by simp at h1 h2; subst h1; subst h2; exact ⟨rfl, rfl, rfl⟩
  | _ :: bs, _ :: ts, k + 1, b, t, h1, h2 => by
    have ih := thCells_at (bs := bs) (ts := ts) (k := k) (b := b) (t := t) (by simpa using h1) (by simpa using h2)
    have e : (k + 1) * 3 = k * 3 + 1 + 1 + 1 := by omega
    rw [e]; exact ih
/-- Where open calls lie. -/
structure OpOk (OP : Heap) (bs : List (Option Nat)) (th : List Th) : Prop where
  len : bs.length = th.length
  at_ : ∀ (u : Nat) (t : Th), th[u]? = some t → ∃ b, bs[u]? = some b ∧ (t.opn = none → b = none) ∧ ∀ o, t.opn = some o → ∃ β, b = some β ∧ OP (.b β) = some (.o (oblk o))
  one : ∀ (u v : Nat) (β : Nat), bs[u]? = some (some β) → bs[v]? = some (some β) → u = v
abbrev specB (βs : Nat) (bt bo : Option Addr) (n ct k co : Nat) (rel : Int) : Heap := blk βs (.cells ⟨[.slice bt n ct, .slice bo k co, i64 rel]⟩ 68 (0, 0))
section
variable {βs : Nat} {bt bo : Option Addr} {n ct k co : Nat} {rel : Int}
theorem there_calls (z : Int) : PFn Try.prog 25 [ptr βs, i64 z] [specB βs bt bo n ct k co rel] (.bool (decide (0 ≤ z ∧ z < n))) := by
  by_cases h : 0 ≤ z ∧ z < n
  · obtain ⟨h1, h2⟩ := h
    rw [decide_eq_true ⟨h1, h2⟩]
    refine pure_of_body Try.func25 rfl (Nat.le_of_ble_eq_true rfl) fun F => ?_
    repeat' (first
      | refine swp_seq ?_
      | (refine gk 0 rfl ?_; first | refine sl_op rfl rfl rfl (by first | exact opv_move rfl rfl | exact opv_assign rfl rfl | exact opv_pick_t rfl rfl rfl ) ?_ )
      | (refine gk 2 rfl ?_; first | refine sl_yes rfl rfl rfl (by first | exact opv_lss rfl rfl rfl | exact opv_geq rfl rfl rfl ) (by first | omega ) ?_ | refine sl_op rfl rfl rfl (by first | exact opv_ptrNeq rfl rfl) ?_ )
      | (refine gk 3 rfl ?_; first | refine sl_op rfl rfl rfl (by first | exact opv_load rfl (by exact rfl) rfl (by exact rfl) | exact opv_fieldAddr rfl rfl ) ?_ )
      | (refine gk 4 rfl ?_; first | refine sl_op rfl rfl rfl (by first | exact opv_len rfl rfl rfl rfl rfl ) ?_)
      | (refine gk 5 rfl ?_; first | refine sl_op rfl rfl rfl (by first | exact opv_nilCheck rfl rfl ) ?_ )
      | refine sl_region rfl ?_
      | refine sl_nil ?_
      | refine thn_k ?_
      | refine swp_ret ?_
      )
    refine end_pure (resOk_one (resV_tmp rfl)) ?_
    rfl
  · rw [decide_eq_false h]
    refine pure_of_body Try.func25 rfl (Nat.le_of_ble_eq_true rfl) fun F => ?_
    repeat' (first
      | refine swp_seq ?_
      | (refine gk 0 rfl ?_; first | refine sl_op rfl rfl rfl (by first | exact opv_move rfl rfl | exact opv_assign rfl rfl | exact opv_pick_t rfl rfl rfl | exact opv_pick_f rfl rfl rfl ) ?_ | refine sl_pass rfl rfl rfl rfl ?_)
      | (refine gk 2 rfl ?_; first | refine sl_pass rfl rfl rfl rfl ?_ | refine sl_no rfl rfl rfl (by first | exact opv_lss rfl rfl rfl | exact opv_geq rfl rfl rfl ) (by first | omega ) ?_ | refine sl_if rfl rfl rfl (by first | exact opv_geq rfl rfl rfl ) (fun h => ?_) (fun h => ?_) | refine sl_op rfl rfl rfl (by first | exact opv_ptrNeq rfl rfl) ?_ )
      | (refine gk 3 rfl ?_; first | refine sl_op rfl rfl rfl (by first | exact opv_load rfl (by exact rfl) rfl (by exact rfl) | exact opv_fieldAddr rfl rfl ) ?_ | refine sl_pass rfl rfl rfl rfl ?_)
      | (refine gk 4 rfl ?_; first | refine sl_pass rfl rfl rfl rfl ?_ | refine sl_op rfl rfl rfl (by first | exact opv_len rfl rfl rfl rfl rfl ) ?_)
      | (refine gk 5 rfl ?_; first | refine sl_op rfl rfl rfl (by first | exact opv_nilCheck rfl rfl ) ?_ | refine sl_pass rfl rfl rfl rfl ?_ )
      | refine sl_region rfl ?_
      | refine sl_nil ?_
      | refine thn_k ?_
      | refine swp_ret ?_
      )
    all_goals first | (exfalso; omega) | exact end_pure (resOk_one (resV_tmp rfl)) rfl
def wrongB (n k : Nat) (op obj arg : Int) : Prop := op < 0 ∨ 9 ≤ op ∨ obj < 0 ∨ (k : Int) ≤ obj ∨ (op = 6 ∧ ¬ (0 ≤ arg ∧ arg < n))
instance {n k : Nat} {op obj arg : Int} : Decidable (wrongB n k op obj arg) := by unfold wrongB; infer_instance
theorem wrong_calls (op obj arg : Int) : PFn Try.prog 39 [ptr βs, .agg ⟨[i64 op, i64 obj, i64 arg]⟩] [specB βs bt bo n ct k co rel] (.bool (decide (wrongB n k op obj arg))) := by
  have ht := there_calls (βs := βs) (bt := bt) (bo := bo) (n := n) (ct := ct) (k := k) (co := co) (rel := rel) arg
  by_cases h : 0 ≤ arg ∧ arg < n
  · rw [decide_eq_true h] at ht
    refine pure_of_body Try.func39 rfl (Nat.le_of_ble_eq_true rfl) fun F => ?_
    repeat' (first
      | refine swp_seq ?_
      | (refine gk 0 rfl ?_; first | refine sl_op rfl rfl rfl (by first | exact opv_move rfl rfl | exact opv_assign rfl rfl | exact opv_pick_t rfl rfl rfl | exact opv_pick_f rfl rfl rfl | exact opv_not_t rfl rfl ) ?_ | refine sl_pass rfl rfl rfl rfl ?_)
      | (refine gk 2 rfl ?_; first | refine sl_pass rfl rfl rfl rfl ?_ | refine sl_if rfl rfl rfl (by first | exact opv_lss rfl rfl rfl | exact opv_geq rfl rfl rfl | exact opv_eql rfl rfl rfl ) (fun h => ?_) (fun h => ?_) )
      | (refine gk 3 rfl ?_; first | refine sl_op rfl rfl rfl (by first | exact opv_load rfl (by exact rfl) rfl (by exact rfl) | exact opv_fieldAddr rfl rfl ) ?_ | refine sl_pass rfl rfl rfl rfl ?_)
      | (refine gk 4 rfl ?_; first | refine sl_pass rfl rfl rfl rfl ?_ | refine sl_op rfl rfl rfl (by first | exact opv_len rfl rfl rfl rfl rfl ) ?_ | refine sl_op rfl rfl rfl (opv_call rfl rfl rfl rfl rfl (ht)) ?_)
      | (refine gk 5 rfl ?_; first | refine sl_op rfl rfl rfl (by first | exact opv_nilCheck rfl rfl ) ?_ | refine sl_pass rfl rfl rfl rfl ?_ | refine sl_box rfl rfl rfl rfl rfl rfl (fun β => ?_) )
      | refine sl_region rfl ?_
      | refine sl_draw (by kernel_rfl) (by kernel_rfl) rfl ?_
      | refine sl_nil ?_
      | refine thn_k ?_
      | refine swp_ret ?_
      )
    all_goals
      refine end_pure (resOk_one (resV_tmp rfl)) ?_
      refine congrArg Value.bool ?_
      symm
      first | exact decide_eq_true (by unfold wrongB; omega) | exact decide_eq_false (by unfold wrongB; omega)
  · rw [decide_eq_false h] at ht
    refine pure_of_body Try.func39 rfl (Nat.le_of_ble_eq_true rfl) fun F => ?_
    repeat' (first
      | refine swp_seq ?_
      | (refine gk 0 rfl ?_; first | refine sl_op rfl rfl rfl (by first | exact opv_move rfl rfl | exact opv_assign rfl rfl | exact opv_pick_t rfl rfl rfl | exact opv_pick_f rfl rfl rfl | exact opv_not_f rfl rfl ) ?_ | refine sl_pass rfl rfl rfl rfl ?_)
      | (refine gk 2 rfl ?_; first | refine sl_pass rfl rfl rfl rfl ?_ | refine sl_if rfl rfl rfl (by first | exact opv_lss rfl rfl rfl | exact opv_geq rfl rfl rfl | exact opv_eql rfl rfl rfl ) (fun h => ?_) (fun h => ?_) )
      | (refine gk 3 rfl ?_; first | refine sl_op rfl rfl rfl (by first | exact opv_load rfl (by exact rfl) rfl (by exact rfl) | exact opv_fieldAddr rfl rfl ) ?_ | refine sl_pass rfl rfl rfl rfl ?_)
      | (refine gk 4 rfl ?_; first | refine sl_pass rfl rfl rfl rfl ?_ | refine sl_op rfl rfl rfl (by first | exact opv_len rfl rfl rfl rfl rfl ) ?_ | refine sl_op rfl rfl rfl (opv_call rfl rfl rfl rfl rfl (ht)) ?_)
      | (refine gk 5 rfl ?_; first | refine sl_op rfl rfl rfl (by first | exact opv_nilCheck rfl rfl ) ?_ | refine sl_pass rfl rfl rfl rfl ?_ | refine sl_box rfl rfl rfl rfl rfl rfl (fun β => ?_) )
      | refine sl_region rfl ?_
      | refine sl_draw (by kernel_rfl) (by kernel_rfl) rfl ?_
      | refine sl_nil ?_
      | refine thn_k ?_
      | refine swp_ret ?_
      )
    all_goals
      refine end_pure (resOk_one (resV_tmp rfl)) ?_
      refine congrArg Value.bool ?_
      symm
      first | exact decide_eq_true (by unfold wrongB; omega) | exact decide_eq_false (by unfold wrongB; omega)
end
theorem Index_calls (own : List Heap) (b : Option Addr) (n c : Nat) (xs : List Int) (v : Int) [SlIn own b (xs.map i64)] (h1 : xs.length = n) (hsm : n ≤ 9223372036854775807) :
    PFn Try.prog 62 [.slice b n c, i64 v] own (i64 (if v ∈ xs then (xs.idxOf v : Int) else -1)) := by
  refine pure_of_body Try.func62 rfl (Nat.le_of_ble_eq_true rfl) fun F => ?_
  repeat' (first
    | refine swp_seq ?_
    | (refine gk 0 rfl ?_; first | refine sl_op rfl rfl rfl (by first | exact opv_move rfl rfl | exact opv_assign rfl rfl ) ?_ )
    | (refine gk 4 rfl ?_; first | refine sl_op rfl rfl rfl (by first | exact opv_len rfl rfl rfl rfl rfl ) ?_)
    | refine sl_region rfl ?_
    | refine sl_nil ?_
    | refine thn_k ?_
    | refine swp_block ?_
    )
  refine swp_loopS (fun j : Nat => [(0, .slice b n c), (1, i64 v), (7, i64 (n : Int)), (8, i64 (j : Int))])
    (fun _ => own) (fun j => j ≤ n ∧ v ∉ xs.take j) (fun j => n - j) 0 (by repeat first | exact Sub.nil _ | refine Sub.cons rfl ?_) ⟨Nat.zero_le _, by simp⟩ ?_
  rintro j ⟨hj1, hj2⟩
  by_cases hj : j < n
  · obtain ⟨x, hx⟩ : ∃ z, xs[j]? = some z := ⟨_, List.getElem?_eq_getElem (by omega)⟩
    have hcx : (xs.map i64)[((j : Nat) : Int).toNat * 1]? = some (i64 x) := by simp [hx]
    by_cases hxy : v = x
    · subst hxy
      repeat' (first
        | refine swp_seq ?_
        | (refine gk 0 rfl ?_; first | refine sl_op rfl rfl rfl (by first | exact opv_move rfl rfl | exact opv_assign rfl rfl ) ?_ )
        | (refine gk 2 rfl ?_; first | refine sl_yes rfl rfl rfl (by first | exact opv_lss rfl rfl rfl | exact opv_eql rfl rfl rfl ) (by first | omega ) ?_ )
        | (refine gk 3 rfl ?_; first | refine sl_op rfl rfl rfl (by first | exact opv_indexAddrI rfl rfl rfl (by omega) (by omega) (by first | (simp only [List.length_map]; omega) ) | exact opv_loadEx rfl (by exact rfl) (by infer_instance) (by first | assumption ) ) ?_ )
        | refine sl_region rfl ?_
        | refine sl_nil ?_
        | refine thn_k ?_
        | refine swp_true rfl ?_
        | refine swp_block ?_
        | refine swp_ret ?_
        | refine swp_skip ?_
        | refine thn_ret ?_
        | refine inb_ret ?_
        )
      refine end_pure (resOk_one (resV_tmp rfl)) ?_
      have hi : xs.idxOf v = j := by
        obtain ⟨hl, he⟩ := List.getElem?_eq_some_iff.1 hx
        rw [← List.take_append_drop j xs, List.idxOf_append, if_neg hj2, List.length_take, List.drop_eq_getElem_cons hl, he, List.idxOf_cons_self]
        omega
      rw [if_pos (List.mem_of_getElem? hx), hi]
    · repeat' (first
        | refine swp_seq ?_
        | (refine gk 0 rfl ?_; first | refine sl_op rfl rfl rfl (by first | exact opv_move rfl rfl | exact opv_assign rfl rfl ) ?_ )
        | (refine gk 1 rfl ?_; first | refine sl_op rfl rfl rfl (by first | exact opv_add64 rfl rfl rfl (by omega) (by omega) ) ?_ )
        | (refine gk 2 rfl ?_; first | refine sl_yes rfl rfl rfl (by first | exact opv_lss rfl rfl rfl | exact opv_eql rfl rfl rfl ) (by first | omega ) ?_ | refine sl_no rfl rfl rfl (by first | exact opv_eql rfl rfl rfl ) (by first | omega ) ?_ )
        | (refine gk 3 rfl ?_; first | refine sl_op rfl rfl rfl (by first | exact opv_indexAddrI rfl rfl rfl (by omega) (by omega) (by first | (simp only [List.length_map]; omega) ) | exact opv_loadEx rfl (by exact rfl) (by infer_instance) (by first | assumption ) ) ?_ )
        | refine sl_region rfl ?_
        | refine sl_nil ?_
        | refine thn_k ?_
        | refine swp_true rfl ?_
        | refine swp_false rfl ?_
        | refine swp_block ?_
        | refine swp_skip ?_
        )
      refine ⟨rfl, j + 1, next_ok (by repeat first | exact Sub.nil _ | refine Sub.cons rfl ?_), ⟨by omega, ?_⟩, by omega⟩
      rw [List.take_add_one, hx]
      simp [hj2, hxy]
  · repeat' (first
      | refine swp_seq ?_
      | (refine gk 0 rfl ?_; first | refine sl_op rfl rfl rfl (by first | exact opv_assign rfl rfl ) ?_ )
      | (refine gk 2 rfl ?_; first | refine sl_no rfl rfl rfl (by first | exact opv_lss rfl rfl rfl ) (by first | omega ) ?_ )
      | refine sl_region rfl ?_
      | refine sl_nil ?_
      | refine thn_k ?_
      | refine swp_false rfl ?_
      | refine swp_ret ?_
      | refine swp_exit ?_
      )
    refine end_pure (resOk_one (resV_tmp rfl)) ?_
    rw [List.take_of_length_le (by omega)] at hj2
    rw [if_neg hj2]
theorem Contains_calls (own : List Heap) (b : Option Addr) (n c : Nat) (xs : List Int) (v : Int) [SlIn own b (xs.map i64)] (h1 : xs.length = n) (hsm : n ≤ 9223372036854775807) :
    PFn Try.prog 49 [.slice b n c, i64 v] own (.bool (decide (v ∈ xs))) := by
  refine pure_of_body Try.func49 rfl (Nat.le_of_ble_eq_true rfl) fun F => ?_
  by_cases hv : v ∈ xs
  · have hc := Index_calls own b n c xs v h1 hsm
    rw [if_pos hv] at hc
    repeat' (first
      | refine swp_seq ?_
      | (refine gk 0 rfl ?_; first | refine sl_op rfl rfl rfl (by first | exact opv_move rfl rfl | exact opv_assign rfl rfl ) ?_ )
      | (refine gk 2 rfl ?_; first | refine sl_yes rfl rfl rfl (by first | exact opv_geq rfl rfl rfl ) (by first | omega ) ?_ )
      | (refine gk 4 rfl ?_; first | refine sl_op rfl rfl rfl (opv_call rfl rfl rfl rfl rfl (hc)) ?_)
      | refine sl_region rfl ?_
      | refine sl_nil ?_
      | refine thn_k ?_
      | refine swp_ret ?_
      )
    refine end_pure (resOk_one (resV_tmp rfl)) ?_
    rw [decide_eq_true hv]
  · have hc := Index_calls own b n c xs v h1 hsm
    rw [if_neg hv] at hc
    repeat' (first
      | refine swp_seq ?_
      | (refine gk 0 rfl ?_; first | refine sl_op rfl rfl rfl (by first | exact opv_move rfl rfl | exact opv_assign rfl rfl ) ?_ )
      | (refine gk 2 rfl ?_; first | refine sl_no rfl rfl rfl (by first | exact opv_geq rfl rfl rfl ) (by first | omega ) ?_ )
      | (refine gk 4 rfl ?_; first | refine sl_op rfl rfl rfl (opv_call rfl rfl rfl rfl rfl (hc)) ?_)
      | refine sl_region rfl ?_
      | refine sl_nil ?_
      | refine thn_k ?_
      | refine swp_ret ?_
      )
    refine end_pure (resOk_one (resV_tmp rfl)) ?_
    rw [decide_eq_false hv]
end Go.Proofs.Ytimmclibnfdjhaa
