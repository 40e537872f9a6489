/- What instructions do to a stack: those that only look at it. -/
import Derived.Test.YtifhhfeibnpaoaaWA4
namespace Go.Proofs.Ytifhhfeibnpaoaa
open Go.SL
set_option maxRecDepth 100000
set_option maxHeartbeats 16000000
attribute [local irreducible] SL.T PFn OpV SOL SWP HOp ChU
abbrev stV (b : Option Addr) (n c : Nat) (is : Bool) : Value := .tuple ⟨[.slice b n c, .bool is]⟩
theorem does1_calls (own : List Heap) (b : Option Addr) (n c : Nat) (xs : List Int) (v : Int) [SlIn own b (xs.map i64)] (h1 : xs.length = n) (hsm : n ≤ 9223372036854775807) :
    PFn Try.prog 56 [.slice b n c, i64 v] own (stV b n c (decide (v ∈ xs))) := by
  refine pure_of_body Try.func56 rfl (Nat.le_of_ble_eq_true rfl) fun F => ?_
  repeat' (first
    | refine swp_seq ?_
    | (refine gk 0 rfl ?_; first | refine sl_op rfl rfl rfl (by first | exact opv_move rfl rfl | exact opv_assign rfl rfl ) ?_ )
    | (refine gk 4 rfl ?_; first | refine sl_op rfl rfl rfl (opv_callW rfl rfl rfl rfl rfl (Contains_calls _ _ _ _ xs v h1 hsm)) ?_)
    | refine sl_region rfl ?_
    | refine sl_nil ?_
    | refine thn_k ?_
    | refine swp_ret ?_
    )
  exact end_pure (resOk_two (resV_tmp rfl) (resV_tmp rfl)) rfl
theorem does4_calls (own : List Heap) (b : Option Addr) (n c : Nat) (xs : List Int) (v : Int) [SlIn own b (xs.map i64)] (h1 : xs.length = n) (hsm : n ≤ 9223372036854775807) :
    PFn Try.prog 60 [.slice b n c, i64 v] own (stV b n c (decide (v ∉ xs))) := by
  have hc := Contains_calls own b n c xs v h1 hsm
  by_cases hv : v ∈ xs
  · rw [decide_eq_true hv] at hc
    rw [decide_eq_false fun h => h hv]
    refine pure_of_body Try.func60 rfl (Nat.le_of_ble_eq_true rfl) fun F => ?_
    repeat' (first
      | refine swp_seq ?_
      | (refine gk 0 rfl ?_; first | refine sl_op rfl rfl rfl (by first | exact opv_move rfl rfl | exact opv_assign rfl rfl | exact opv_not_t rfl rfl ) ?_ )
      | (refine gk 4 rfl ?_; first | refine sl_op rfl rfl rfl (opv_callW rfl rfl rfl rfl rfl (hc)) ?_)
      | refine sl_region rfl ?_
      | refine sl_nil ?_
      | refine thn_k ?_
      | refine swp_ret ?_
      )
    exact end_pure (resOk_two (resV_tmp rfl) (resV_tmp rfl)) rfl
  · rw [decide_eq_false hv] at hc
    rw [decide_eq_true hv]
    refine pure_of_body Try.func60 rfl (Nat.le_of_ble_eq_true rfl) fun F => ?_
    repeat' (first
      | refine swp_seq ?_
      | (refine gk 0 rfl ?_; first | refine sl_op rfl rfl rfl (by first | exact opv_move rfl rfl | exact opv_assign rfl rfl | exact opv_not_f rfl rfl ) ?_ )
      | (refine gk 4 rfl ?_; first | refine sl_op rfl rfl rfl (opv_callW rfl rfl rfl rfl rfl (hc)) ?_)
      | refine sl_region rfl ?_
      | refine sl_nil ?_
      | refine thn_k ?_
      | refine swp_ret ?_
      )
    exact end_pure (resOk_two (resV_tmp rfl) (resV_tmp rfl)) rfl
theorem does5_calls (b : Option Addr) (n c : Nat) (v : Int) :
    PFn Try.prog 61 [.slice b n c, i64 v] [] (stV b n c (decide (n = 0))) := by
  by_cases hn : n = 0
  · rw [decide_eq_true hn]
    subst hn
    refine pure_of_body Try.func61 rfl (Nat.le_of_ble_eq_true rfl) fun F => ?_
    repeat' (first
      | refine swp_seq ?_
      | (refine gk 0 rfl ?_; first | refine sl_op rfl rfl rfl (by first | exact opv_move rfl rfl | exact opv_assign rfl rfl ) ?_ )
      | (refine gk 2 rfl ?_; first | refine sl_yes rfl rfl rfl (by first | exact opv_eql rfl rfl rfl ) (by first | omega ) ?_ )
      | (refine gk 4 rfl ?_; first | refine sl_op rfl rfl rfl (by first | exact opv_len rfl rfl rfl rfl rfl ) ?_)
      | refine sl_region rfl ?_
      | refine sl_nil ?_
      | refine thn_k ?_
      | refine swp_ret ?_
      )
    exact end_pure (resOk_two (resV_tmp rfl) (resV_tmp rfl)) rfl
  · rw [decide_eq_false hn]
    refine pure_of_body Try.func61 rfl (Nat.le_of_ble_eq_true rfl) fun F => ?_
    repeat' (first
      | refine swp_seq ?_
      | (refine gk 0 rfl ?_; first | refine sl_op rfl rfl rfl (by first | exact opv_move rfl rfl | exact opv_assign rfl rfl ) ?_ )
      | (refine gk 2 rfl ?_; first | refine sl_no rfl rfl rfl (by first | exact opv_eql rfl rfl rfl ) (by first | omega ) ?_ )
      | (refine gk 4 rfl ?_; first | refine sl_op rfl rfl rfl (by first | exact opv_len rfl rfl rfl rfl rfl ) ?_)
      | refine sl_region rfl ?_
      | refine sl_nil ?_
      | refine thn_k ?_
      | refine swp_ret ?_
      )
    exact end_pure (resOk_two (resV_tmp rfl) (resV_tmp rfl)) rfl
theorem does3_empty (own : List Heap) (b : Option Addr) (c : Nat) (v : Int) :
    PFn Try.prog 59 [.slice b 0 c, i64 v] own (stV none 0 0 false) := by
  refine pure_of_body Try.func59 rfl (Nat.le_of_ble_eq_true rfl) fun F => ?_
  repeat' (first
    | refine swp_seq ?_
    | (refine gk 0 rfl ?_; first | refine sl_op rfl rfl rfl (by first | exact opv_move rfl rfl | exact opv_assign rfl rfl | exact opv_pick_t rfl rfl rfl ) ?_ | refine sl_pass rfl rfl rfl rfl ?_)
    | (refine gk 1 rfl ?_; first | refine sl_pass rfl rfl rfl rfl ?_)
    | (refine gk 2 rfl ?_; first | refine sl_pass rfl rfl rfl rfl ?_ | refine sl_yes rfl rfl rfl (by first | exact opv_eql rfl rfl rfl ) (by first | omega ) ?_ )
    | (refine gk 3 rfl ?_; first | refine sl_pass rfl rfl rfl rfl ?_)
    | (refine gk 4 rfl ?_; first | refine sl_pass rfl rfl rfl rfl ?_ | refine sl_op rfl rfl rfl (by first | exact opv_len rfl rfl rfl rfl rfl ) ?_)
    | refine sl_region rfl ?_
    | refine sl_nil ?_
    | refine thn_k ?_
    | refine swp_true rfl ?_
    | refine swp_ret ?_
    | refine thn_ret ?_
    )
  exact end_pure (resOk_two (resV_tmp rfl) (resV_tmp rfl)) rfl
theorem does3_calls (own : List Heap) (b : Option Addr) (n c : Nat) (xs : List Int) (x v : Int) [s : SlIn own b ((xs ++ [x]).map i64)] (h1 : xs.length = n) (hsm : n ≤ 4000000) (hc : n + 1 ≤ c) :
    PFn Try.prog 59 [.slice b (n + 1) c, i64 v] own (if x = v then stV b n c true else stV none 0 0 false) := by
  refine P_whole fun J hJ => ?_
  haveI := s.all hJ
  have hcx : ((xs ++ [x]).map i64)[(((n + 1 : Nat) : Int) - 1).toNat * 1]? = some (i64 x) := by
    have e : (((n + 1 : Nat) : Int) - 1).toNat * 1 = xs.length := by omega
    rw [e]; simp
  have hfl : ((xs ++ [x]).map i64).length = n + 1 := by simp [h1]
  by_cases hx : x = v
  · rw [if_pos hx]
    refine pure_of_body Try.func59 rfl (Nat.le_of_ble_eq_true rfl) fun F => ?_
    repeat' (first
      | refine swp_seq ?_
      | (refine gk 0 rfl ?_; first | refine sl_op rfl rfl rfl (by first | exact opv_move rfl rfl | exact opv_assign rfl rfl | exact opv_pick_f rfl rfl rfl ) ?_ )
      | (refine gk 1 rfl ?_; first | refine sl_op rfl rfl rfl (by first | exact opv_sub64 rfl rfl rfl (by omega) (by omega) ) ?_ )
      | (refine gk 2 rfl ?_; first | refine sl_no rfl rfl rfl (by first | exact opv_eql rfl rfl rfl | exact opv_neq rfl rfl rfl) (by first | omega ) ?_ )
      | (refine gk 3 rfl ?_; first | refine sl_op rfl rfl rfl (by first | exact opv_indexAddrI rfl rfl rfl (by omega) (by omega) (by first | omega ) | exact opv_loadEx rfl (by exact rfl) (by infer_instance) (by first | assumption ) ) ?_ )
      | (refine gk 4 rfl ?_; first | refine sl_op rfl rfl rfl (by first | exact opv_len rfl rfl rfl rfl rfl ) ?_)
      | (refine gk 5 rfl ?_; first | refine sl_op rfl rfl rfl (by first | exact opv_sliceHi rfl rfl rfl (by omega) (by omega) ) ?_ )
      | refine sl_region rfl ?_
      | refine sl_nil ?_
      | refine thn_k ?_
      | refine swp_false rfl ?_
      | refine swp_ret ?_
      | refine swp_skip ?_
      )
    have e : (((n + 1 : Nat) : Int) - 1).toNat = n := by omega
    rw [e]
    exact end_pure (resOk_two (resV_tmp rfl) (resV_tmp rfl)) rfl
  · rw [if_neg hx]
    refine pure_of_body Try.func59 rfl (Nat.le_of_ble_eq_true rfl) fun F => ?_
    repeat' (first
      | refine swp_seq ?_
      | (refine gk 0 rfl ?_; first | refine sl_op rfl rfl rfl (by first | exact opv_move rfl rfl | exact opv_assign rfl rfl | exact opv_pick_f rfl rfl rfl ) ?_ )
      | (refine gk 1 rfl ?_; first | refine sl_op rfl rfl rfl (by first | exact opv_sub64 rfl rfl rfl (by omega) (by omega) ) ?_ )
      | (refine gk 2 rfl ?_; first | refine sl_yes rfl rfl rfl (by first | exact opv_eql rfl rfl rfl | exact opv_neq rfl rfl rfl) (by first | omega ) ?_ | refine sl_no rfl rfl rfl (by first | exact opv_eql rfl rfl rfl ) (by first | omega ) ?_ )
      | (refine gk 3 rfl ?_; first | refine sl_op rfl rfl rfl (by first | exact opv_indexAddrI rfl rfl rfl (by omega) (by omega) (by first | omega ) | exact opv_loadEx rfl (by exact rfl) (by infer_instance) (by first | assumption ) ) ?_ )
      | (refine gk 4 rfl ?_; first | refine sl_op rfl rfl rfl (by first | exact opv_len rfl rfl rfl rfl rfl ) ?_)
      | refine sl_region rfl ?_
      | refine sl_nil ?_
      | refine thn_k ?_
      | refine swp_true rfl ?_
      | refine swp_ret ?_
      | refine thn_ret ?_
      )
    exact end_pure (resOk_two (resV_tmp rfl) (resV_tmp rfl)) rfl
end Go.Proofs.Ytifhhfeibnpaoaa
