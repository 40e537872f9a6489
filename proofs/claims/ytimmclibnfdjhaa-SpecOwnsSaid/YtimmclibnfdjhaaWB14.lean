/- Making an automaton: rows of objects. -/
import Derived.Test.YtimmclibnfdjhaaWB13
import Derived.Test.YtimmclibnfdjhaaSlG9
set_option linter.unusedVariables false
set_option linter.unusedSimpArgs false
set_option linter.unusedSectionVars false
namespace Go.Proofs.Ytimmclibnfdjhaa
open Go.SL
set_option maxRecDepth 100000
set_option maxHeartbeats 16000000
attribute [local irreducible] SL.T PFn OpV SOL SWP HOp ChU
theorem mul64_1 : PFn Try.prog 51 [.int .u64 1, .int .u64 1] [] (.tuple #[.int .u64 0, .int .u64 1]) := by
  refine pure_of_body Try.func51 rfl (Nat.le_of_ble_eq_true rfl) fun F => ?_
  repeat' (first
    | refine swp_seq ?_
    | (refine gk 0 rfl ?_; first | refine sl_op rfl rfl rfl (by first | exact opv_move rfl rfl | exact opv_assign rfl rfl ) ?_ )
    | (refine gk 1 rfl ?_; first | refine sl_op rfl rfl rfl (by first | exact opv_add rfl rfl rfl | exact opv_mul rfl rfl rfl | exact opv_shr rfl rfl rfl (by omega) | exact opv_bits rfl rfl rfl (by decide)) ?_ )
    | refine sl_region rfl ?_
    | refine sl_nil ?_
    | refine thn_k ?_
    | refine swp_ret ?_
    )
  refine end_pure (resOk_two (resV_tmp rfl) (resV_tmp rfl)) ?_
  rfl
theorem mul_1 : PFn Try.prog 35 [.int .u64 1, .int .u64 1] [] (.tuple #[.int .u64 0, .int .u64 1]) := by
  have h := mul64_1
  refine pure_of_body Try.func35 rfl (Nat.le_of_ble_eq_true rfl) fun F => ?_
  repeat' (first
    | refine swp_seq ?_
    | (refine gk 0 rfl ?_; first | refine sl_op rfl rfl rfl (by first | exact opv_move rfl rfl | exact opv_assign rfl rfl | exact opv_extract rfl rfl rfl ) ?_ )
    | (refine gk 4 rfl ?_; first | refine sl_op rfl rfl rfl (opv_call rfl rfl rfl rfl rfl (h)) ?_)
    | refine sl_region rfl ?_
    | refine sl_nil ?_
    | refine thn_k ?_
    | refine swp_false rfl ?_
    | refine swp_ret ?_
    | refine swp_skip ?_
    )
  refine end_pure (resOk_two (resV_tmp rfl) (resV_tmp rfl)) ?_
  rfl
theorem mul64_2 : PFn Try.prog 51 [.int .u64 1, .int .u64 2] [] (.tuple #[.int .u64 0, .int .u64 2]) := by
  refine pure_of_body Try.func51 rfl (Nat.le_of_ble_eq_true rfl) fun F => ?_
  repeat' (first
    | refine swp_seq ?_
    | (refine gk 0 rfl ?_; first | refine sl_op rfl rfl rfl (by first | exact opv_move rfl rfl | exact opv_assign rfl rfl ) ?_ )
    | (refine gk 1 rfl ?_; first | refine sl_op rfl rfl rfl (by first | exact opv_add rfl rfl rfl | exact opv_mul rfl rfl rfl | exact opv_shr rfl rfl rfl (by omega) | exact opv_bits rfl rfl rfl (by decide)) ?_ )
    | refine sl_region rfl ?_
    | refine sl_nil ?_
    | refine thn_k ?_
    | refine swp_ret ?_
    )
  refine end_pure (resOk_two (resV_tmp rfl) (resV_tmp rfl)) ?_
  rfl
theorem mul_2 : PFn Try.prog 35 [.int .u64 1, .int .u64 2] [] (.tuple #[.int .u64 0, .int .u64 2]) := by
  have h := mul64_2
  refine pure_of_body Try.func35 rfl (Nat.le_of_ble_eq_true rfl) fun F => ?_
  repeat' (first
    | refine swp_seq ?_
    | (refine gk 0 rfl ?_; first | refine sl_op rfl rfl rfl (by first | exact opv_move rfl rfl | exact opv_assign rfl rfl | exact opv_extract rfl rfl rfl ) ?_ )
    | (refine gk 4 rfl ?_; first | refine sl_op rfl rfl rfl (opv_call rfl rfl rfl rfl rfl (h)) ?_)
    | refine sl_region rfl ?_
    | refine sl_nil ?_
    | refine thn_k ?_
    | refine swp_false rfl ?_
    | refine swp_ret ?_
    | refine swp_skip ?_
    )
  refine end_pure (resOk_two (resV_tmp rfl) (resV_tmp rfl)) ?_
  rfl
theorem mul64_3 : PFn Try.prog 51 [.int .u64 1, .int .u64 3] [] (.tuple #[.int .u64 0, .int .u64 3]) := by
  refine pure_of_body Try.func51 rfl (Nat.le_of_ble_eq_true rfl) fun F => ?_
  repeat' (first
    | refine swp_seq ?_
    | (refine gk 0 rfl ?_; first | refine sl_op rfl rfl rfl (by first | exact opv_move rfl rfl | exact opv_assign rfl rfl ) ?_ )
    | (refine gk 1 rfl ?_; first | refine sl_op rfl rfl rfl (by first | exact opv_add rfl rfl rfl | exact opv_mul rfl rfl rfl | exact opv_shr rfl rfl rfl (by omega) | exact opv_bits rfl rfl rfl (by decide)) ?_ )
    | refine sl_region rfl ?_
    | refine sl_nil ?_
    | refine thn_k ?_
    | refine swp_ret ?_
    )
  refine end_pure (resOk_two (resV_tmp rfl) (resV_tmp rfl)) ?_
  rfl
theorem mul_3 : PFn Try.prog 35 [.int .u64 1, .int .u64 3] [] (.tuple #[.int .u64 0, .int .u64 3]) := by
  have h := mul64_3
  refine pure_of_body Try.func35 rfl (Nat.le_of_ble_eq_true rfl) fun F => ?_
  repeat' (first
    | refine swp_seq ?_
    | (refine gk 0 rfl ?_; first | refine sl_op rfl rfl rfl (by first | exact opv_move rfl rfl | exact opv_assign rfl rfl | exact opv_extract rfl rfl rfl ) ?_ )
    | (refine gk 4 rfl ?_; first | refine sl_op rfl rfl rfl (opv_call rfl rfl rfl rfl rfl (h)) ?_)
    | refine sl_region rfl ?_
    | refine sl_nil ?_
    | refine thn_k ?_
    | refine swp_false rfl ?_
    | refine swp_ret ?_
    | refine swp_skip ?_
    )
  refine end_pure (resOk_two (resV_tmp rfl) (resV_tmp rfl)) ?_
  rfl
theorem pre_at {a b : List Value} {j : Nat} {v : Value} (h : a[j]? = some v) : (a ++ b)[0 + j]? = some v := by
  have hl : j < a.length := (List.getElem?_eq_some_iff.1 h).1
  rw [Nat.zero_add, List.getElem?_append_left hl]
  exact h
abbrev objB (b : Nat) (l : List (Int × Int)) : Heap := blk b (.cells ⟨obCells l⟩ 66 (0, 0))
theorem repeat_1 (β : Nat) : SL.T Try.prog 23 [.slice (some ⟨β, 0, none⟩) 1 1, i64 1] [objB β [(-1, 0)]] fun en w => ∃ b, en = .returned (.slice (some ⟨b, 0, none⟩) 1 1) ∧ w = [objB b [(-1, 0)], objB β [(-1, 0)]] := by
  have h := mul_1
  refine t_of_body Try.func23 rfl (Nat.le_of_ble_eq_true rfl) fun F => ?_
  repeat' (first
    | refine swp_seq ?_
    | (refine gk 0 rfl ?_; first | refine sl_op rfl rfl rfl (by first | exact opv_move rfl rfl | exact opv_assign rfl rfl | exact opv_pick_f rfl rfl rfl | exact opv_extract rfl rfl rfl ) ?_ )
    | (refine gk 2 rfl ?_; first | refine sl_no rfl rfl rfl (by first | exact opv_lss rfl rfl rfl | exact opv_gtr rfl rfl rfl ) (by first | omega ) ?_ )
    | (refine gk 4 rfl ?_; first | refine sl_op rfl rfl rfl (by first | exact opv_len rfl rfl rfl rfl rfl ) ?_ | refine sl_op rfl rfl rfl (opv_call rfl rfl rfl rfl rfl (h)) ?_)
    | (refine gk 5 rfl ?_; first | refine sl_op rfl rfl rfl (by first | exact opv_convert rfl rfl ) ?_ )
    | refine sl_region rfl ?_
    | refine sl_nil ?_
    | refine thn_k ?_
    | refine swp_false rfl ?_
    | refine swp_skip ?_
    )
  refine sl_new rfl rfl rfl (new_makeSliceW (m := 1) rfl rfl rfl (by exact rfl) (by exact rfl) (by omega) (by omega) (by omega)) (fun b => ?_)
  repeat' (first
    | refine swp_seq ?_
    | (refine gk 0 rfl ?_; first | refine sl_op rfl rfl rfl (by first | exact opv_move rfl rfl | exact opv_assign rfl rfl ) ?_ )
    | refine sl_region rfl ?_
    | refine sl_nil ?_
    )
  refine sl_copyK (T := 66) (m := 1) (cs := (List.replicate 1 [i64 0, i64 0]).flatten) (src := [i64 (-1), i64 0]) (k := objB β [(-1, 0)]) (cs' := [i64 (-1), i64 0]) rfl rfl rfl rfl rfl rfl rfl rfl rfl Sl.blk rfl rfl (by decide) rfl rfl ?_
  repeat' (first
    | refine swp_seq ?_
    | (refine gk 0 rfl ?_; first | refine sl_op rfl rfl rfl (by first | exact opv_assign rfl rfl ) ?_ )
    | refine sl_nil ?_
    | refine swp_block ?_
    )
  refine swp_rounds 2 (srounds ?_)
  repeat' (first
    | refine swp_seq ?_
    | (refine gk 0 rfl ?_; first | refine sl_op rfl rfl rfl (by first | exact opv_move rfl rfl | exact opv_assign rfl rfl ) ?_ )
    | (refine gk 2 rfl ?_; first | refine sl_no rfl rfl rfl (by first | exact opv_lss rfl rfl rfl ) (by first | omega ) ?_ )
    | (refine gk 4 rfl ?_; first | refine sl_op rfl rfl rfl (by first | exact opv_len rfl rfl rfl rfl rfl ) ?_)
    | refine sl_region rfl ?_
    | refine sl_nil ?_
    | refine thn_k ?_
    | refine swp_false rfl ?_
    | refine swp_ret ?_
    | refine swp_exit ?_
    )
  exact end_retL [blk b (.cells ⟨[i64 (-1), i64 0]⟩ 66 (0, 0)), objB β [(-1, 0)]] (resOk_one (resV_tmp rfl)) ⟨b, rfl, rfl⟩
theorem repeat_2 (β : Nat) : SL.T Try.prog 23 [.slice (some ⟨β, 0, none⟩) 1 1, i64 2] [objB β [(-1, 0)]] fun en w => ∃ b, en = .returned (.slice (some ⟨b, 0, none⟩) 2 2) ∧ w = [objB b [(-1, 0), (-1, 0)], objB β [(-1, 0)]] := by
  have h := mul_2
  refine t_of_body Try.func23 rfl (Nat.le_of_ble_eq_true rfl) fun F => ?_
  repeat' (first
    | refine swp_seq ?_
    | (refine gk 0 rfl ?_; first | refine sl_op rfl rfl rfl (by first | exact opv_move rfl rfl | exact opv_assign rfl rfl | exact opv_pick_f rfl rfl rfl | exact opv_extract rfl rfl rfl ) ?_ )
    | (refine gk 2 rfl ?_; first | refine sl_no rfl rfl rfl (by first | exact opv_lss rfl rfl rfl | exact opv_gtr rfl rfl rfl ) (by first | omega ) ?_ )
    | (refine gk 4 rfl ?_; first | refine sl_op rfl rfl rfl (by first | exact opv_len rfl rfl rfl rfl rfl ) ?_ | refine sl_op rfl rfl rfl (opv_call rfl rfl rfl rfl rfl (h)) ?_)
    | (refine gk 5 rfl ?_; first | refine sl_op rfl rfl rfl (by first | exact opv_convert rfl rfl ) ?_ )
    | refine sl_region rfl ?_
    | refine sl_nil ?_
    | refine thn_k ?_
    | refine swp_false rfl ?_
    | refine swp_skip ?_
    )
  refine sl_new rfl rfl rfl (new_makeSliceW (m := 2) rfl rfl rfl (by exact rfl) (by exact rfl) (by omega) (by omega) (by omega)) (fun b => ?_)
  repeat' (first
    | refine swp_seq ?_
    | (refine gk 0 rfl ?_; first | refine sl_op rfl rfl rfl (by first | exact opv_move rfl rfl | exact opv_assign rfl rfl ) ?_ )
    | refine sl_region rfl ?_
    | refine sl_nil ?_
    )
  refine sl_copyK (T := 66) (m := 1) (cs := (List.replicate 2 [i64 0, i64 0]).flatten) (src := [i64 (-1), i64 0]) (k := objB β [(-1, 0)]) (cs' := [i64 (-1), i64 0, i64 0, i64 0]) rfl rfl rfl rfl rfl rfl rfl rfl rfl Sl.blk rfl rfl (by decide) rfl rfl ?_
  repeat' (first
    | refine swp_seq ?_
    | (refine gk 0 rfl ?_; first | refine sl_op rfl rfl rfl (by first | exact opv_assign rfl rfl ) ?_ )
    | refine sl_nil ?_
    | refine swp_block ?_
    )
  refine swp_rounds 3 (srounds ?_)
  repeat' (first
    | refine swp_seq ?_
    | (refine gk 0 rfl ?_; first | refine sl_op rfl rfl rfl (by first | exact opv_move rfl rfl ) ?_ )
    | (refine gk 2 rfl ?_; first | refine sl_yes rfl rfl rfl (by first | exact opv_lss rfl rfl rfl ) (by first | omega ) ?_ )
    | (refine gk 4 rfl ?_; first | refine sl_op rfl rfl rfl (by first | exact opv_len rfl rfl rfl rfl rfl ) ?_)
    | refine sl_region rfl ?_
    | refine sl_nil ?_
    | refine thn_k ?_
    | refine swp_true rfl ?_
    | refine swp_block ?_
    | refine swp_skip ?_
    )
  refine sl_drawC [.f [0], .q [1, 2, 3, 4, 5, 6], .h true 7, .q [8, 9]] [] (by kernel_rfl) (by kernel_rfl) (by kernel_rfl) (by kernel_rfl) ?_
  repeat' (first
    | refine swp_seq ?_
    | (refine gk 0 rfl ?_; first | refine sl_op rfl rfl rfl (by first | exact opv_move rfl rfl | exact opv_assign rfl rfl ) ?_ )
    | (refine gk 1 rfl ?_; first | refine sl_op rfl rfl rfl (by first | exact opv_add64 rfl rfl rfl (by omega) (by omega) ) ?_ )
    | (refine gk 2 rfl ?_; first | refine sl_no rfl rfl rfl (by first | exact opv_lss rfl rfl rfl ) (by first | omega ) ?_ )
    | (refine gk 4 rfl ?_; first | refine sl_op rfl rfl rfl (by first | exact opv_len rfl rfl rfl rfl rfl ) ?_)
    | (refine gk 5 rfl ?_; first | refine sl_op rfl rfl rfl (by first | exact opv_sliceLo rfl rfl rfl (by omega) (by omega) | exact opv_sliceHi rfl rfl rfl (by omega) (by omega) ) ?_ )
    | refine sl_region rfl ?_
    | refine chu_nil ?_
    | refine chu_q rfl ?_
    | refine chu_f rfl ?_
    | refine chu_copyS (T := 66) (m := 1) (cs := [i64 (-1), i64 0, i64 0, i64 0]) (src := [i64 (-1), i64 0]) (cs' := [i64 (-1), i64 0, i64 (-1), i64 0]) rfl rfl rfl rfl rfl rfl rfl rfl rfl (fun j v h => pre_at (a := [i64 (-1), i64 0]) (b := [i64 0, i64 0]) h) rfl rfl (by exact Nat.le_of_ble_eq_true rfl) rfl rfl ?_
    | refine sl_nil ?_
    | refine thn_k ?_
    | refine swp_false rfl ?_
    | refine swp_ret ?_
    | refine swp_exit ?_
    )
  exact end_retL [blk b (.cells ⟨[i64 (-1), i64 0, i64 (-1), i64 0]⟩ 66 (0, 0)), objB β [(-1, 0)]] (resOk_one (resV_tmp rfl)) ⟨b, rfl, rfl⟩
theorem repeat_3 (β : Nat) : SL.T Try.prog 23 [.slice (some ⟨β, 0, none⟩) 1 1, i64 3] [objB β [(-1, 0)]] fun en w => ∃ b, en = .returned (.slice (some ⟨b, 0, none⟩) 3 3) ∧ w = [objB b [(-1, 0), (-1, 0), (-1, 0)], objB β [(-1, 0)]] := by
  have h := mul_3
  refine t_of_body Try.func23 rfl (Nat.le_of_ble_eq_true rfl) fun F => ?_
  repeat' (first
    | refine swp_seq ?_
    | (refine gk 0 rfl ?_; first | refine sl_op rfl rfl rfl (by first | exact opv_move rfl rfl | exact opv_assign rfl rfl | exact opv_pick_f rfl rfl rfl | exact opv_extract rfl rfl rfl ) ?_ )
    | (refine gk 2 rfl ?_; first | refine sl_no rfl rfl rfl (by first | exact opv_lss rfl rfl rfl | exact opv_gtr rfl rfl rfl ) (by first | omega ) ?_ )
    | (refine gk 4 rfl ?_; first | refine sl_op rfl rfl rfl (by first | exact opv_len rfl rfl rfl rfl rfl ) ?_ | refine sl_op rfl rfl rfl (opv_call rfl rfl rfl rfl rfl (h)) ?_)
    | (refine gk 5 rfl ?_; first | refine sl_op rfl rfl rfl (by first | exact opv_convert rfl rfl ) ?_ )
    | refine sl_region rfl ?_
    | refine sl_nil ?_
    | refine thn_k ?_
    | refine swp_false rfl ?_
    | refine swp_skip ?_
    )
  refine sl_new rfl rfl rfl (new_makeSliceW (m := 3) rfl rfl rfl (by exact rfl) (by exact rfl) (by omega) (by omega) (by omega)) (fun b => ?_)
  repeat' (first
    | refine swp_seq ?_
    | (refine gk 0 rfl ?_; first | refine sl_op rfl rfl rfl (by first | exact opv_move rfl rfl | exact opv_assign rfl rfl ) ?_ )
    | refine sl_region rfl ?_
    | refine sl_nil ?_
    )
  refine sl_copyK (T := 66) (m := 1) (cs := (List.replicate 3 [i64 0, i64 0]).flatten) (src := [i64 (-1), i64 0]) (k := objB β [(-1, 0)]) (cs' := [i64 (-1), i64 0, i64 0, i64 0, i64 0, i64 0]) rfl rfl rfl rfl rfl rfl rfl rfl rfl Sl.blk rfl rfl (by decide) rfl rfl ?_
  repeat' (first
    | refine swp_seq ?_
    | (refine gk 0 rfl ?_; first | refine sl_op rfl rfl rfl (by first | exact opv_assign rfl rfl ) ?_ )
    | refine sl_nil ?_
    | refine swp_block ?_
    )
  refine swp_rounds 4 (srounds ?_)
  repeat' (first
    | refine swp_seq ?_
    | (refine gk 0 rfl ?_; first | refine sl_op rfl rfl rfl (by first | exact opv_move rfl rfl ) ?_ )
    | (refine gk 2 rfl ?_; first | refine sl_yes rfl rfl rfl (by first | exact opv_lss rfl rfl rfl ) (by first | omega ) ?_ )
    | (refine gk 4 rfl ?_; first | refine sl_op rfl rfl rfl (by first | exact opv_len rfl rfl rfl rfl rfl ) ?_)
    | refine sl_region rfl ?_
    | refine sl_nil ?_
    | refine thn_k ?_
    | refine swp_true rfl ?_
    | refine swp_block ?_
    | refine swp_skip ?_
    )
  refine sl_drawC [.f [0], .q [1, 2, 3, 4, 5, 6], .h true 7, .q [8, 9]] [] (by kernel_rfl) (by kernel_rfl) (by kernel_rfl) (by kernel_rfl) ?_
  repeat' (first
    | refine swp_seq ?_
    | (refine gk 0 rfl ?_; first | refine sl_op rfl rfl rfl (by first | exact opv_move rfl rfl | exact opv_assign rfl rfl ) ?_ )
    | (refine gk 1 rfl ?_; first | refine sl_op rfl rfl rfl (by first | exact opv_add64 rfl rfl rfl (by omega) (by omega) ) ?_ )
    | (refine gk 2 rfl ?_; first | refine sl_yes rfl rfl rfl (by first | exact opv_lss rfl rfl rfl ) (by first | omega ) ?_ )
    | (refine gk 4 rfl ?_; first | refine sl_op rfl rfl rfl (by first | exact opv_len rfl rfl rfl rfl rfl ) ?_)
    | (refine gk 5 rfl ?_; first | refine sl_op rfl rfl rfl (by first | exact opv_sliceLo rfl rfl rfl (by omega) (by omega) | exact opv_sliceHi rfl rfl rfl (by omega) (by omega) ) ?_ )
    | refine sl_region rfl ?_
    | refine chu_nil ?_
    | refine chu_q rfl ?_
    | refine chu_f rfl ?_
    | refine chu_copyS (T := 66) (m := 1) (cs := [i64 (-1), i64 0, i64 0, i64 0, i64 0, i64 0]) (src := [i64 (-1), i64 0]) (cs' := [i64 (-1), i64 0, i64 (-1), i64 0, i64 0, i64 0]) rfl rfl rfl rfl rfl rfl rfl rfl rfl (fun j v h => pre_at (a := [i64 (-1), i64 0]) (b := [i64 0, i64 0, i64 0, i64 0]) h) rfl rfl (by exact Nat.le_of_ble_eq_true rfl) rfl rfl ?_
    | refine sl_nil ?_
    | refine thn_k ?_
    | refine swp_true rfl ?_
    | refine swp_block ?_
    | refine swp_skip ?_
    )
  refine sl_drawC [.f [0], .q [1, 2, 3, 4, 5, 6], .h true 7, .q [8, 9]] [] (by kernel_rfl) (by kernel_rfl) (by kernel_rfl) (by kernel_rfl) ?_
  repeat' (first
    | refine swp_seq ?_
    | (refine gk 0 rfl ?_; first | refine sl_op rfl rfl rfl (by first | exact opv_move rfl rfl | exact opv_assign rfl rfl ) ?_ )
    | (refine gk 1 rfl ?_; first | refine sl_op rfl rfl rfl (by first | exact opv_add64 rfl rfl rfl (by omega) (by omega) ) ?_ )
    | (refine gk 2 rfl ?_; first | refine sl_no rfl rfl rfl (by first | exact opv_lss rfl rfl rfl ) (by first | omega ) ?_ )
    | (refine gk 4 rfl ?_; first | refine sl_op rfl rfl rfl (by first | exact opv_len rfl rfl rfl rfl rfl ) ?_)
    | (refine gk 5 rfl ?_; first | refine sl_op rfl rfl rfl (by first | exact opv_sliceLo rfl rfl rfl (by omega) (by omega) | exact opv_sliceHi rfl rfl rfl (by omega) (by omega) ) ?_ )
    | refine sl_region rfl ?_
    | refine chu_nil ?_
    | refine chu_q rfl ?_
    | refine chu_f rfl ?_
    | refine chu_copyS (T := 66) (m := 1) (cs := [i64 (-1), i64 0, i64 (-1), i64 0, i64 0, i64 0]) (src := [i64 (-1), i64 0]) (cs' := [i64 (-1), i64 0, i64 (-1), i64 0, i64 (-1), i64 0]) rfl rfl rfl rfl rfl rfl rfl rfl rfl (fun j v h => pre_at (a := [i64 (-1), i64 0]) (b := [i64 (-1), i64 0, i64 0, i64 0]) h) rfl rfl (by exact Nat.le_of_ble_eq_true rfl) rfl rfl ?_
    | refine sl_nil ?_
    | refine thn_k ?_
    | refine swp_false rfl ?_
    | refine swp_ret ?_
    | refine swp_exit ?_
    )
  exact end_retL [blk b (.cells ⟨[i64 (-1), i64 0, i64 (-1), i64 0, i64 (-1), i64 0]⟩ 66 (0, 0)), objB β [(-1, 0)]] (resOk_one (resV_tmp rfl)) ⟨b, rfl, rfl⟩
end Go.Proofs.Ytimmclibnfdjhaa
