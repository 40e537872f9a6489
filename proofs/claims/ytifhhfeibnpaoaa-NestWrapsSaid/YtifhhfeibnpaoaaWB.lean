/- Instructions, methods; what is there, and what jumps. -/
import Derived.Test.YtifhhfeibnpaoaaSlG8
import Derived.Test.YtifhhfeibnpaoaaWTy
namespace Go.Proofs.Ytifhhfeibnpaoaa
open Go.SL
set_option maxRecDepth 100000
set_option maxHeartbeats 16000000
attribute [local irreducible] T PFn OpV SOL SWP HOp ChU
abbrev i64 (a : Int) : Value := .int .i64 a
theorem i64s_one (l : List Int) : (l.map i64).all (·.oneCell') = true := by
  rw [List.all_map, List.all_eq_true]; intro x _; rfl
abbrev Ins := Int × Int × Int
abbrev insV (x : Ins) : Value := .agg ⟨[i64 x.1, i64 x.2.1, i64 x.2.2]⟩
/-- The cells of code. -/
def flatI : List Ins → List Value
  | [] => []
  | x :: l => i64 x.1 :: i64 x.2.1 :: i64 x.2.2 :: flatI l
theorem flatI_length : ∀ l : List Ins, (flatI l).length = l.length * 3
  | [] => rfl
  | x :: l => by simp only [flatI, List.length_cons, flatI_length l]; omega
theorem flatI_append : ∀ l m : List Ins, flatI (l ++ m) = flatI l ++ flatI m
  | [], m => rfl
  | x :: l, m => by simp only [flatI, List.cons_append, flatI_append l m]
theorem flatI_at : ∀ {l : List Ins} {k : Nat} {x : Ins}, l[k]? = some x → (flatI l)[k * 3]? = some (i64 x.1) ∧ (flatI l)[k * 3 + 1]? = some (i64 x.2.1) ∧ (flatI l)[k * 3 + 2]? = some (i64 x.2.2)
  | [], k, x, h => by simp at h
  | y :: l, 0, x, h => by simp at h; subst h; exact ⟨rfl, rfl, rfl⟩
  | y :: l, k + 1, x, h => by
    have := flatI_at (l := l) (k := k) (by simpa using h)
    have e : (k + 1) * 3 = k * 3 + 3 := by omega
    simp only [e, flatI]
    simpa using this
theorem flatI_take : ∀ (l : List Ins) (k : Nat), (flatI l).take (k * 3) = flatI (l.take k)
  | [], k => by simp [flatI]
  | x :: l, 0 => by simp [flatI]
  | x :: l, k + 1 => by
    have e : (k + 1) * 3 = k * 3 + 3 := by omega
    simp only [e, flatI, List.take_succ_cons, flatI_take l k]
theorem flatI_drop : ∀ (l : List Ins) (k : Nat), (flatI l).drop (k * 3) = flatI (l.drop k)
  | [], k => by simp [flatI]
  | x :: l, 0 => by simp [flatI]
  | x :: l, k + 1 => by
    have e : (k + 1) * 3 = k * 3 + 3 := by omega
    simp only [e, flatI, List.drop_succ_cons, flatI_drop l k]
theorem flatI_one : ∀ l : List Ins, (flatI l).all (·.oneCell') = true
  | [] => rfl
  | x :: l => by simp only [flatI, List.all_cons, flatI_one l]; rfl
/-- A method, as it is handed about. -/
abbrev mth (p : Value) (lo st : Int) (cb : Option Addr) (cl cc : Nat) : Value := .agg ⟨[p, i64 lo, i64 st, .slice cb cl cc]⟩
theorem Index_calls (own : List Heap) (b : Option Addr) (n c : Nat) (xs : List Int) (v : Int) [SlIn own b (xs.map i64)] (h1 : xs.length = n) (hsm : n ≤ 9223372036854775807) :
    PFn Try.prog 51 [.slice b n c, i64 v] own (i64 (if v ∈ xs then (xs.idxOf v : Int) else -1)) := by
  refine pure_of_body Try.func51 rfl (Nat.le_of_ble_eq_true rfl) fun F => ?_
  repeat' (first
    | refine swp_seq ?_
    | (refine gk 0 rfl ?_; first | refine sl_op rfl rfl rfl (by first | exact opv_move rfl rfl | exact opv_assign rfl rfl ) ?_ )
    | (refine gk 4 rfl ?_; first | refine sl_op rfl rfl rfl (by first | exact opv_len rfl rfl rfl rfl rfl ) ?_)
    | refine sl_region rfl ?_
    | refine sl_nil ?_
    | refine thn_k ?_
    | refine swp_block ?_
    )
  refine swp_loopS (fun j : Nat => [(0, .slice b n c), (1, i64 v), (7, i64 (n : Int)), (8, i64 (j : Int))])
    (fun _ => own) (fun j => j ≤ n ∧ v ∉ xs.take j) (fun j => n - j) 0 (by repeat first | exact Sub.nil _ | refine Sub.cons rfl ?_) ⟨Nat.zero_le _, by simp⟩ ?_
  rintro j ⟨hj1, hj2⟩
  by_cases hj : j < n
  · obtain ⟨x, hx⟩ : ∃ z, xs[j]? = some z := ⟨_, List.getElem?_eq_getElem (by omega)⟩
    have hcx : (xs.map i64)[((j : Nat) : Int).toNat * 1]? = some (i64 x) := by simp [hx]
    by_cases hxy : v = x
    · subst hxy
      repeat' (first
        | refine swp_seq ?_
        | (refine gk 0 rfl ?_; first | refine sl_op rfl rfl rfl (by first | exact opv_move rfl rfl | exact opv_assign rfl rfl ) ?_ )
        | (refine gk 2 rfl ?_; first | refine sl_yes rfl rfl rfl (by first | exact opv_lss rfl rfl rfl | exact opv_eql rfl rfl rfl ) (by first | omega ) ?_ )
        | (refine gk 3 rfl ?_; first | refine sl_op rfl rfl rfl (by first | exact opv_indexAddrI rfl rfl rfl (by omega) (by omega) (by first | (simp only [List.length_map]; omega) ) | exact opv_loadEx rfl (by exact rfl) (by infer_instance) (by first | assumption ) ) ?_ )
        | refine sl_region rfl ?_
        | refine sl_nil ?_
        | refine thn_k ?_
        | refine swp_true rfl ?_
        | refine swp_block ?_
        | refine swp_ret ?_
        | refine swp_skip ?_
        | refine thn_ret ?_
        | refine inb_ret ?_
        )
      refine end_pure (resOk_one (resV_tmp rfl)) ?_
      have hi : xs.idxOf v = j := by
        obtain ⟨hl, he⟩ := List.getElem?_eq_some_iff.1 hx
        rw [← List.take_append_drop j xs, List.idxOf_append, if_neg hj2, List.length_take, List.drop_eq_getElem_cons hl, he, List.idxOf_cons_self]
        omega
      rw [if_pos (List.mem_of_getElem? hx), hi]
    · repeat' (first
        | refine swp_seq ?_
        | (refine gk 0 rfl ?_; first | refine sl_op rfl rfl rfl (by first | exact opv_move rfl rfl | exact opv_assign rfl rfl ) ?_ )
        | (refine gk 1 rfl ?_; first | refine sl_op rfl rfl rfl (by first | exact opv_add64 rfl rfl rfl (by omega) (by omega) ) ?_ )
        | (refine gk 2 rfl ?_; first | refine sl_yes rfl rfl rfl (by first | exact opv_lss rfl rfl rfl | exact opv_eql rfl rfl rfl ) (by first | omega ) ?_ | refine sl_no rfl rfl rfl (by first | exact opv_eql rfl rfl rfl ) (by first | omega ) ?_ )
        | (refine gk 3 rfl ?_; first | refine sl_op rfl rfl rfl (by first | exact opv_indexAddrI rfl rfl rfl (by omega) (by omega) (by first | (simp only [List.length_map]; omega) ) | exact opv_loadEx rfl (by exact rfl) (by infer_instance) (by first | assumption ) ) ?_ )
        | refine sl_region rfl ?_
        | refine sl_nil ?_
        | refine thn_k ?_
        | refine swp_true rfl ?_
        | refine swp_false rfl ?_
        | refine swp_block ?_
        | refine swp_skip ?_
        )
      refine ⟨rfl, j + 1, next_ok (by repeat first | exact Sub.nil _ | refine Sub.cons rfl ?_), ⟨by omega, ?_⟩, by omega⟩
      rw [List.take_add_one, hx]
      simp [hj2, hxy]
  · repeat' (first
      | refine swp_seq ?_
      | (refine gk 0 rfl ?_; first | refine sl_op rfl rfl rfl (by first | exact opv_assign rfl rfl ) ?_ )
      | (refine gk 2 rfl ?_; first | refine sl_no rfl rfl rfl (by first | exact opv_lss rfl rfl rfl ) (by first | omega ) ?_ )
      | refine sl_region rfl ?_
      | refine sl_nil ?_
      | refine thn_k ?_
      | refine swp_false rfl ?_
      | refine swp_ret ?_
      | refine swp_exit ?_
      )
    refine end_pure (resOk_one (resV_tmp rfl)) ?_
    rw [List.take_of_length_le (by omega)] at hj2
    rw [if_neg hj2]
theorem Contains_calls (own : List Heap) (b : Option Addr) (n c : Nat) (xs : List Int) (v : Int) [SlIn own b (xs.map i64)] (h1 : xs.length = n) (hsm : n ≤ 9223372036854775807) :
    PFn Try.prog 41 [.slice b n c, i64 v] own (.bool (decide (v ∈ xs))) := by
  refine pure_of_body Try.func41 rfl (Nat.le_of_ble_eq_true rfl) fun F => ?_
  by_cases hv : v ∈ xs
  · have hc := Index_calls own b n c xs v h1 hsm
    rw [if_pos hv] at hc
    repeat' (first
      | refine swp_seq ?_
      | (refine gk 0 rfl ?_; first | refine sl_op rfl rfl rfl (by first | exact opv_move rfl rfl | exact opv_assign rfl rfl ) ?_ )
      | (refine gk 2 rfl ?_; first | refine sl_yes rfl rfl rfl (by first | exact opv_geq rfl rfl rfl ) (by first | omega ) ?_ )
      | (refine gk 4 rfl ?_; first | refine sl_op rfl rfl rfl (opv_call rfl rfl rfl rfl rfl (hc)) ?_)
      | refine sl_region rfl ?_
      | refine sl_nil ?_
      | refine thn_k ?_
      | refine swp_ret ?_
      )
    refine end_pure (resOk_one (resV_tmp rfl)) ?_
    rw [decide_eq_true hv]
  · have hc := Index_calls own b n c xs v h1 hsm
    rw [if_neg hv] at hc
    repeat' (first
      | refine swp_seq ?_
      | (refine gk 0 rfl ?_; first | refine sl_op rfl rfl rfl (by first | exact opv_move rfl rfl | exact opv_assign rfl rfl ) ?_ )
      | (refine gk 2 rfl ?_; first | refine sl_no rfl rfl rfl (by first | exact opv_geq rfl rfl rfl ) (by first | omega ) ?_ )
      | (refine gk 4 rfl ?_; first | refine sl_op rfl rfl rfl (opv_call rfl rfl rfl rfl rfl (hc)) ?_)
      | refine sl_region rfl ?_
      | refine sl_nil ?_
      | refine thn_k ?_
      | refine swp_ret ?_
      )
    refine end_pure (resOk_one (resV_tmp rfl)) ?_
    rw [decide_eq_false hv]
def jmp (op : Int) : Prop := op ∈ [6, 7, (8 : Int)]
instance (op : Int) : Decidable (jmp op) := inferInstanceAs (Decidable (op ∈ [6, 7, (8 : Int)]))
theorem jumps_calls (op a b : Int) : PFn Try.prog 34 [.agg ⟨[i64 op, i64 a, i64 b]⟩] [] (.bool (decide (jmp op))) := by
  refine pure_of_body Try.func34 rfl (Nat.le_of_ble_eq_true rfl) fun F => ?_
  repeat' (first
    | refine swp_seq ?_
    | (refine gk 0 rfl ?_; first | refine sl_op rfl rfl rfl (by first | exact opv_assign rfl rfl ) ?_ )
    | (refine gk 3 rfl ?_; first | refine sl_op rfl rfl rfl (by first | exact opv_load rfl (by exact rfl) rfl (by exact rfl) | exact opv_fieldAddr rfl rfl ) ?_ )
    | (refine gk 4 rfl ?_; first | refine sl_op rfl rfl rfl (opv_callW rfl rfl rfl rfl rfl (Contains_calls _ _ _ _ [6, 7, 8] op rfl (by decide))) ?_)
    | (refine gk 5 rfl ?_; first | refine sl_buildSlice rfl rfl rfl rfl rfl (by exact rfl) (by exact rfl) (by exact rfl) (by exact rfl) rfl (fun b => ?_) | refine sl_box rfl rfl rfl rfl rfl rfl (fun β => ?_) )
    | refine sl_region rfl ?_
    | refine sl_nil ?_
    | refine thn_k ?_
    | refine swp_ret ?_
    )
  exact end_retL [] (resOk_one (resV_tmp rfl)) ⟨rfl, rfl⟩
theorem there_calls (p : Value) (lo st : Int) (cb : Option Addr) (cl cc : Nat) (at_ : Int) : PFn Try.prog 33 [mth p lo st cb cl cc, i64 at_] [] (.bool (decide (0 ≤ at_ ∧ at_ < cl))) := by
  refine pure_of_body Try.func33 rfl (Nat.le_of_ble_eq_true rfl) fun F => ?_
  repeat' (first
    | refine swp_seq ?_
    | (refine gk 0 rfl ?_; first | refine sl_op rfl rfl rfl (by first | exact opv_move rfl rfl | exact opv_assign rfl rfl | exact opv_pick_t rfl rfl rfl | exact opv_pick_f rfl rfl rfl ) ?_ | refine sl_pass rfl rfl rfl rfl ?_)
    | (refine gk 2 rfl ?_; first | refine sl_pass rfl rfl rfl rfl ?_ | refine sl_if rfl rfl rfl (by first | exact opv_lss rfl rfl rfl | exact opv_geq rfl rfl rfl ) (fun h => ?_) (fun h => ?_) )
    | (refine gk 3 rfl ?_; first | refine sl_op rfl rfl rfl (by first | exact opv_load rfl (by exact rfl) rfl (by exact rfl) | exact opv_fieldAddr rfl rfl ) ?_ | refine sl_pass rfl rfl rfl rfl ?_)
    | (refine gk 4 rfl ?_; first | refine sl_pass rfl rfl rfl rfl ?_ | refine sl_op rfl rfl rfl (by first | exact opv_len rfl rfl rfl rfl rfl ) ?_)
    | (refine gk 5 rfl ?_; first | refine sl_box rfl rfl rfl rfl rfl rfl (fun β => ?_) )
    | refine sl_region rfl ?_
    | refine sl_nil ?_
    | refine thn_k ?_
    | refine swp_ret ?_
    )
  all_goals
    refine end_retL [] (resOk_one (resV_tmp rfl)) ⟨?_, rfl⟩
    refine congrArg _ (congrArg Value.bool ?_)
    symm
    first | exact decide_eq_true (by omega) | exact decide_eq_false (by omega)
end Go.Proofs.Ytifhhfeibnpaoaa
