/- The ops that ask for a local; what a stack has. -/
import Derived.Test.YtifhhfeibnpaoaaWT3
namespace Go.Proofs.Ytifhhfeibnpaoaa
open Go.SL
set_option maxRecDepth 100000
set_option maxHeartbeats 16000000
attribute [local irreducible] SL.T PFn OpV SOL SWP HOp ChU
def five (op : Int) : Prop := op ∈ [12, 13, 14, 15, (16 : Int)]
instance (op : Int) : Decidable (five op) := inferInstanceAs (Decidable (op ∈ [12, 13, 14, 15, (16 : Int)]))
theorem five_iff {op : Int} : five op ↔ op = 12 ∨ op = 13 ∨ op = 14 ∨ op = 15 ∨ op = 16 := by
  unfold five; simp
theorem asking_calls (op : Int) : PFn Try.prog 27 [i64 op] [] (.bool (decide (five op))) := by
  refine pure_of_body Try.func27 rfl (Nat.le_of_ble_eq_true rfl) fun F => ?_
  repeat' (first
    | refine swp_seq ?_
    | (refine gk 0 rfl ?_; first | refine sl_op rfl rfl rfl (by first | exact opv_move rfl rfl | exact opv_assign rfl rfl ) ?_ )
    | (refine gk 4 rfl ?_; first | refine sl_op rfl rfl rfl (opv_callW rfl rfl rfl rfl rfl (Contains_calls _ _ _ _ [12, 13, 14, 15, 16] op rfl (by decide))) ?_)
    | (refine gk 5 rfl ?_; first | refine sl_buildSlice rfl rfl rfl rfl rfl (by exact rfl) (by exact rfl) (by exact rfl) (by exact rfl) rfl (fun b => ?_) )
    | refine sl_region rfl ?_
    | refine sl_nil ?_
    | refine thn_k ?_
    | refine swp_ret ?_
    )
  exact end_retL [] (resOk_one (resV_tmp rfl)) ⟨rfl, rfl⟩
theorem Five_calls (op : Int) : PFn Try.prog 30 [i64 op] [] (.bool (decide (five op))) := by
  refine pure_of_body Try.func30 rfl (Nat.le_of_ble_eq_true rfl) fun F => ?_
  repeat' (first
    | refine swp_seq ?_
    | (refine gk 0 rfl ?_; first | refine sl_op rfl rfl rfl (by first | exact opv_move rfl rfl | exact opv_assign rfl rfl | exact opv_pick_t rfl rfl rfl | exact opv_pick_f rfl rfl rfl ) ?_ | refine sl_pass rfl rfl rfl rfl ?_)
    | (refine gk 2 rfl ?_; first | refine sl_pass rfl rfl rfl rfl ?_ | refine sl_if rfl rfl rfl (by first | exact opv_eql rfl rfl rfl ) (fun h => ?_) (fun h => ?_) )
    | refine sl_region rfl ?_
    | refine sl_nil ?_
    | refine thn_k ?_
    | refine swp_ret ?_
    )
  all_goals
    refine end_retL [] (resOk_one (resV_tmp rfl)) ⟨?_, rfl⟩
    refine congrArg _ (congrArg Value.bool ?_)
    first | exact (decide_eq_true (five_iff.2 (by omega))).symm | exact (decide_eq_false (fun h => by have := five_iff.1 h; omega)).symm
theorem has_calls (own : List Heap) (b : Option Addr) (n c : Nat) (xs : List Int) (v : Int) [SlIn own b (xs.map i64)] (h1 : xs.length = n) (hsm : n ≤ 9223372036854775807) :
    PFn Try.prog 36 [.slice b n c, i64 v] own (.bool (decide (v ∈ xs))) := by
  refine pure_of_body Try.func36 rfl (Nat.le_of_ble_eq_true rfl) fun F => ?_
  repeat' (first
    | refine swp_seq ?_
    | (refine gk 0 rfl ?_; first | refine sl_op rfl rfl rfl (by first | exact opv_assign rfl rfl ) ?_ )
    | refine sl_region rfl ?_
    | refine sl_nil ?_
    | refine thn_k ?_
    | refine swp_block ?_
    )
  refine swp_loopS (fun j : Nat => [(0, .slice b n c), (1, i64 v), (5, i64 (j : Int))])
    (fun _ => own) (fun j => j ≤ n ∧ v ∉ xs.take j) (fun j => n - j) 0 (by repeat first | exact Sub.nil _ | refine Sub.cons rfl ?_) ⟨Nat.zero_le _, by simp⟩ ?_
  rintro j ⟨hj1, hj2⟩
  by_cases hj : j < n
  · obtain ⟨x, hx⟩ : ∃ z, xs[j]? = some z := ⟨_, List.getElem?_eq_getElem (by omega)⟩
    have hcx : (xs.map i64)[((j : Nat) : Int).toNat * 1]? = some (i64 x) := by simp [hx]
    by_cases hxy : x = v
    · subst hxy
      repeat' (first
        | refine swp_seq ?_
        | (refine gk 0 rfl ?_; first | refine sl_op rfl rfl rfl (by first | exact opv_move rfl rfl | exact opv_assign rfl rfl ) ?_ )
        | (refine gk 2 rfl ?_; first | refine sl_yes rfl rfl rfl (by first | exact opv_lss rfl rfl rfl | exact opv_eql rfl rfl rfl ) (by first | omega ) ?_ )
        | (refine gk 3 rfl ?_; first | refine sl_op rfl rfl rfl (by first | exact opv_indexAddrI rfl rfl rfl (by omega) (by omega) (by first | (simp only [List.length_map]; omega) ) | exact opv_loadEx rfl (by exact rfl) (by infer_instance) (by first | assumption ) ) ?_ )
        | (refine gk 4 rfl ?_; first | refine sl_op rfl rfl rfl (by first | exact opv_len rfl rfl rfl rfl rfl ) ?_)
        | refine sl_region rfl ?_
        | refine sl_nil ?_
        | refine thn_k ?_
        | refine swp_true rfl ?_
        | refine swp_block ?_
        | refine swp_ret ?_
        | refine swp_skip ?_
        | refine thn_ret ?_
        | refine inb_ret ?_
        )
      refine end_pure (resOk_one (resV_tmp rfl)) ?_
      rw [decide_eq_true (List.mem_of_getElem? hx)]
    · repeat' (first
        | refine swp_seq ?_
        | (refine gk 0 rfl ?_; first | refine sl_op rfl rfl rfl (by first | exact opv_move rfl rfl | exact opv_assign rfl rfl ) ?_ )
        | (refine gk 1 rfl ?_; first | refine sl_op rfl rfl rfl (by first | exact opv_add64 rfl rfl rfl (by omega) (by omega) ) ?_ )
        | (refine gk 2 rfl ?_; first | refine sl_yes rfl rfl rfl (by first | exact opv_lss rfl rfl rfl | exact opv_eql rfl rfl rfl ) (by first | omega ) ?_ | refine sl_no rfl rfl rfl (by first | exact opv_eql rfl rfl rfl ) (by first | omega ) ?_ )
        | (refine gk 3 rfl ?_; first | refine sl_op rfl rfl rfl (by first | exact opv_indexAddrI rfl rfl rfl (by omega) (by omega) (by first | (simp only [List.length_map]; omega) ) | exact opv_loadEx rfl (by exact rfl) (by infer_instance) (by first | assumption ) ) ?_ )
        | (refine gk 4 rfl ?_; first | refine sl_op rfl rfl rfl (by first | exact opv_len rfl rfl rfl rfl rfl ) ?_)
        | refine sl_region rfl ?_
        | refine sl_nil ?_
        | refine thn_k ?_
        | refine swp_true rfl ?_
        | refine swp_false rfl ?_
        | refine swp_block ?_
        | refine swp_skip ?_
        )
      refine ⟨rfl, j + 1, next_ok (by repeat first | exact Sub.nil _ | refine Sub.cons rfl ?_), ⟨by omega, ?_⟩, by omega⟩
      rw [List.take_add_one, hx]
      simp [hj2, Ne.symm hxy]
  · repeat' (first
      | refine swp_seq ?_
      | (refine gk 0 rfl ?_; first | refine sl_op rfl rfl rfl (by first | exact opv_move rfl rfl | exact opv_assign rfl rfl ) ?_ )
      | (refine gk 2 rfl ?_; first | refine sl_no rfl rfl rfl (by first | exact opv_lss rfl rfl rfl ) (by first | omega ) ?_ )
      | (refine gk 4 rfl ?_; first | refine sl_op rfl rfl rfl (by first | exact opv_len rfl rfl rfl rfl rfl ) ?_)
      | refine sl_region rfl ?_
      | refine sl_nil ?_
      | refine thn_k ?_
      | refine swp_false rfl ?_
      | refine swp_ret ?_
      | refine swp_exit ?_
      )
    refine end_pure (resOk_one (resV_tmp rfl)) ?_
    rw [List.take_of_length_le (by omega)] at hj2
    rw [decide_eq_false hj2]
end Go.Proofs.Ytifhhfeibnpaoaa
