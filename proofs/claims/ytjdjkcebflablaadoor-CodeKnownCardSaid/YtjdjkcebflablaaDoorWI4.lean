/- The document's Decode, walked: the code of a method. -/
import Derived.Test.YtjdjkcebflablaaDoorWI3
set_option linter.unusedVariables false
set_option linter.unusedSimpArgs false
set_option linter.unusedSectionVars false
namespace Go.Proofs.YtjdjkcebflablaaDoor
open Go.SL
set_option maxRecDepth 100000
set_option maxHeartbeats 16000000
attribute [local irreducible] SL.T PFn OpV SOL SWP HOp ChU DZ.ChU
-- ALIAS Tryd
-- CHANGES 42 43
abbrev zIm2 : List Value := [.slice none 0 0, .slice none 0 0]
structure SC2 where
  j : Nat
  x : Rs
  h : Heap
  b : Option Addr
  c : Nat
  K : Heap
  cls : List (List Int)
  vals : List Value
theorem rDecode_no (s : List UInt8) (hs : s.length ≤ 9223372036854775807) (hp : s.take 3 ≠ [68, 75, 1]) :
    SL.T Tryd.prog 23 [str s] [] fun e o => e = .returned (.tuple ⟨[.agg ⟨zIm2⟩, i64 0]⟩) ∧ o = [] := by
  by_cases hl3 : 3 ≤ s.length
  · refine t_of_body Tryd.func23 rfl (Nat.le_of_ble_eq_true rfl) fun F => ?_
    repeat' (first
      | refine sl_op rfl rfl rfl (opv_lenS rfl rfl rfl rfl rfl) ?_
      | refine sl_op rfl rfl rfl (opv_sliceSHi rfl rfl rfl (by omega) (by omega)) ?_
      | refine sl_tt rfl rfl rfl (opv_neqStr rfl rfl rfl) (by simpa using hp) ?_
      | refine swp_seq ?_
      | (refine gk 0 rfl ?_; first | refine sl_op rfl rfl rfl (by first | exact opv_move rfl rfl | exact opv_assign rfl rfl | exact opv_pick_f rfl rfl rfl ) ?_ )
      | (refine gk 2 rfl ?_; first | refine sl_no rfl rfl rfl (by first | exact opv_lss rfl rfl rfl ) (by first | omega ) ?_ )
      | (refine gk 5 rfl ?_; first | refine sl_op rfl rfl rfl (by first | exact opv_build rfl rfl (by exact rfl) ) ?_ | refine sl_alloc rfl rfl rfl rfl (by exact rfl) (fun β => ?_) | refine sl_store rfl rfl rfl rfl rfl rfl (by exact rfl) rfl (by exact rfl) ?_)
      | refine sl_region rfl ?_
      | refine sl_nil ?_
      | refine thn_k ?_
      | refine swp_true rfl ?_
      | refine swp_ret ?_
      | refine thn_ret ?_
      )
    exact end_retZ [] (resOk_two (resV_cellA rfl rfl rfl rfl) (resV_tmp rfl)) ⟨rfl, rfl⟩
  · refine t_of_body Tryd.func23 rfl (Nat.le_of_ble_eq_true rfl) fun F => ?_
    repeat' (first
      | refine sl_op rfl rfl rfl (opv_lenS rfl rfl rfl rfl rfl) ?_
      | refine swp_seq ?_
      | (refine gk 0 rfl ?_; first | refine sl_op rfl rfl rfl (by first | exact opv_move rfl rfl | exact opv_assign rfl rfl | exact opv_pick_t rfl rfl rfl ) ?_ | refine sl_pass rfl rfl rfl rfl ?_)
      | (refine gk 2 rfl ?_; first | refine sl_pass rfl rfl rfl rfl ?_ | refine sl_yes rfl rfl rfl (by first | exact opv_lss rfl rfl rfl ) (by first | omega ) ?_ )
      | (refine gk 5 rfl ?_; first | refine sl_op rfl rfl rfl (by first | exact opv_build rfl rfl (by exact rfl) ) ?_ | refine sl_pass rfl rfl rfl rfl ?_ | refine sl_alloc rfl rfl rfl rfl (by exact rfl) (fun β => ?_) | refine sl_store rfl rfl rfl rfl rfl rfl (by exact rfl) rfl (by exact rfl) ?_)
      | refine sl_region rfl ?_
      | refine sl_nil ?_
      | refine thn_k ?_
      | refine swp_true rfl ?_
      | refine swp_ret ?_
      | refine thn_ret ?_
      )
    exact end_retZ [] (resOk_two (resV_cellA rfl rfl rfl rfl) (resV_tmp rfl)) ⟨rfl, rfl⟩
end Go.Proofs.YtjdjkcebflablaaDoor
