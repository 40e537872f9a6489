/- A stack with one more. -/
import Derived.Test.YtifhhfeibnpaoaaWA5
import Derived.Test.YtifhhfeibnpaoaaSlG8
namespace Go.Proofs.Ytifhhfeibnpaoaa
open Go.SL
set_option maxRecDepth 100000
set_option maxHeartbeats 16000000
attribute [local irreducible] SL.T PFn OpV SOL SWP HOp ChU
theorem pushed_calls (J : Heap) (b : Option Addr) (n c : Nat) (xs : List Int) (v : Int) [Sl J b (xs.map i64)] (h1 : xs.length = n) (hsm : n ≤ 4000000) :
    SL.T Try.prog 58 [.slice b n c, i64 v] [J] fun e o => ∃ N, o = J :: N ∧ ∃ h b' , e = .returned (.slice b' (n + 1) (n + 1)) ∧ N = [h] ∧ OS h b' (n + 1) (n + 1) 3 1 ((xs ++ [v]).map i64) := by
  refine t_of_body Try.func58 rfl (Nat.le_of_ble_eq_true rfl) fun F => ?_
  repeat' (first
    | refine sl_makeSlice (m := n + 1) rfl rfl rfl rfl rfl rfl rfl (by omega) (by omega) (fun b1 hS os => ?_)
    | refine swp_seq ?_
    | (refine gk 0 rfl ?_; first | refine sl_op rfl rfl rfl (by first | exact opv_move rfl rfl | exact opv_assign rfl rfl ) ?_ )
    | (refine gk 1 rfl ?_; first | refine sl_op rfl rfl rfl (by first | exact opv_add64 rfl rfl rfl (by omega) (by omega) ) ?_ )
    | (refine gk 4 rfl ?_; first | refine sl_op rfl rfl rfl (by first | exact opv_len rfl rfl rfl rfl rfl ) ?_)
    | refine sl_region rfl ?_
    | refine sl_nil ?_
    )
  refine sl_copy rfl rfl rfl rfl rfl rfl rfl rfl rfl os ‹Sl J b (xs.map i64)› (by rw [List.length_map]; exact h1) (by omega) (by omega) (i64s_one xs) (fun h2 os2 => ?_)
  haveI sl2 := os2.sl
  have hd : (List.replicate (n + 1) (Value.int .i64 0)).drop n = [i64 0] := by rw [List.drop_replicate, show n + 1 - n = 1 by omega]; rfl
  rw [hd] at os2
  have hfl : (xs.map i64 ++ [i64 0]).length = n + 1 := by simp [h1]
  haveI sl3 := os2.sl
  repeat' (first
    | refine swp_seq ?_
    | (refine gk 0 rfl ?_; first | refine sl_op rfl rfl rfl (by first | exact opv_move rfl rfl ) ?_ )
    | (refine gk 3 rfl ?_; first | refine sl_op rfl rfl rfl (by first | exact opv_indexAddrI rfl rfl rfl (by omega) (by omega) (by first | omega ) ) ?_ )
    | (refine gk 4 rfl ?_; first | refine sl_op rfl rfl rfl (by first | exact opv_len rfl rfl rfl rfl rfl ) ?_)
    | refine sl_region rfl ?_
    | refine sl_nil ?_
    )
  refine sl_storeE rfl rfl rfl rfl rfl os2 rfl rfl rfl (Nat.succ_pos _) (by simp; omega) (cs' := (xs ++ [v]).map i64) ?_ (fun h3 os3 => ?_)
  · have e : ((n : Int)).toNat * 1 = xs.length := by omega
    rw [e, List.take_left' (by simp), List.drop_eq_nil_of_le (by simp)]
    simp
  repeat' (first
    | refine swp_seq ?_
    | (refine gk 0 rfl ?_; first | refine sl_op rfl rfl rfl (by first | exact opv_move rfl rfl | exact opv_assign rfl rfl ) ?_ )
    | refine sl_region rfl ?_
    | refine sl_nil ?_
    | refine thn_k ?_
    | refine swp_ret ?_
    )
  exact end_retL [J, h3] (resOk_one (resV_tmp rfl)) ⟨[h3], rfl, h3, _, rfl, rfl, os3⟩
theorem pushed_W (own : List Heap) (b : Option Addr) (n c : Nat) (xs : List Int) (v : Int) [s : SlIn own b (xs.map i64)] (h1 : xs.length = n) (hsm : n ≤ 4000000) :
    SL.T Try.prog 58 [.slice b n c, i64 v] own fun e o => ∃ N, o = own ++ N ∧ ∃ h b' , e = .returned (.slice b' (n + 1) (n + 1)) ∧ N = [h] ∧ OS h b' (n + 1) (n + 1) 3 1 ((xs ++ [v]).map i64) :=
  T_whole fun J hJ => by
    haveI := s.all hJ
    exact pushed_calls J b n c xs v h1 hsm
theorem does2_calls (J : Heap) (b : Option Addr) (n c : Nat) (xs : List Int) (v : Int) [Sl J b (xs.map i64)] (h1 : xs.length = n) (hsm : n ≤ 4000000) :
    SL.T Try.prog 57 [.slice b n c, i64 v] [J] fun e o => ∃ N, o = J :: N ∧ ∃ h b' , e = .returned (stV b' (n + 1) (n + 1) (decide (n < 8 ∧ v ∉ xs))) ∧ N = [h] ∧ OS h b' (n + 1) (n + 1) 3 1 ((xs ++ [v]).map i64) := by
  have hc : ∀ {bb : Bool}, decide (v ∈ xs) = bb → ∀ own [SlIn own b (xs.map i64)], PFn Try.prog 41 [.slice b n c, i64 v] own (.bool bb) := fun hb own _ => by
    rw [← hb]; exact Contains_calls own b n c xs v h1 (by omega)
  by_cases hv : v ∈ xs
  · have hb := decide_eq_true hv
    rw [decide_eq_false fun h : n < 8 ∧ v ∉ xs => h.2 hv]
    refine t_of_body Try.func57 rfl (Nat.le_of_ble_eq_true rfl) fun F => ?_
    repeat' (first
      | refine swp_seq ?_
      | (refine gk 0 rfl ?_; first | refine sl_op rfl rfl rfl (by first | exact opv_move rfl rfl | exact opv_assign rfl rfl | exact opv_pick_t rfl rfl rfl | exact opv_pick_f rfl rfl rfl | exact opv_not_t rfl rfl ) ?_ | refine sl_pass rfl rfl rfl rfl ?_)
      | (refine gk 2 rfl ?_; first | refine sl_if rfl rfl rfl (by first | exact opv_lss rfl rfl rfl ) (fun h => ?_) (fun h => ?_) )
      | (refine gk 4 rfl ?_; first | refine sl_pass rfl rfl rfl rfl ?_ | refine sl_op rfl rfl rfl (by first | exact opv_len rfl rfl rfl rfl rfl ) ?_ | (refine sl_callW rfl rfl rfl rfl rfl rfl rfl rfl (pushed_W _ _ _ _ xs _ h1 hsm) ?_; rintro _ _ ⟨hP, bP, rfl, rfl, osP⟩; refine ⟨_, _, rfl, rfl, ?_⟩) | refine sl_op rfl rfl rfl (opv_callW rfl rfl rfl rfl rfl (hc hb _)) ?_)
      | refine sl_region rfl ?_
      | refine sl_nil ?_
      | refine thn_k ?_
      | refine swp_ret ?_
      )
    all_goals exact end_retL [J, hP] (resOk_two (resV_tmp rfl) (resV_tmp rfl)) ⟨[hP], rfl, hP, _, rfl, rfl, osP⟩
  · have hb := decide_eq_false hv
    by_cases hn : n < 8
    · rw [decide_eq_true (show n < 8 ∧ v ∉ xs from ⟨hn, hv⟩)]
      refine t_of_body Try.func57 rfl (Nat.le_of_ble_eq_true rfl) fun F => ?_
      repeat' (first
        | refine swp_seq ?_
        | (refine gk 0 rfl ?_; first | refine sl_op rfl rfl rfl (by first | exact opv_move rfl rfl | exact opv_assign rfl rfl | exact opv_pick_t rfl rfl rfl | exact opv_not_f rfl rfl ) ?_ )
        | (refine gk 2 rfl ?_; first | refine sl_yes rfl rfl rfl (by first | exact opv_lss rfl rfl rfl ) (by first | omega ) ?_ )
        | (refine gk 4 rfl ?_; first | refine sl_op rfl rfl rfl (by first | exact opv_len rfl rfl rfl rfl rfl ) ?_ | (refine sl_callW rfl rfl rfl rfl rfl rfl rfl rfl (pushed_W _ _ _ _ xs _ h1 hsm) ?_; rintro _ _ ⟨hP, bP, rfl, rfl, osP⟩; refine ⟨_, _, rfl, rfl, ?_⟩) | refine sl_op rfl rfl rfl (opv_callW rfl rfl rfl rfl rfl (hc hb _)) ?_)
        | refine sl_region rfl ?_
        | refine sl_nil ?_
        | refine thn_k ?_
        | refine swp_ret ?_
        )
      all_goals exact end_retL [J, hP] (resOk_two (resV_tmp rfl) (resV_tmp rfl)) ⟨[hP], rfl, hP, _, rfl, rfl, osP⟩
    · rw [decide_eq_false fun h : n < 8 ∧ v ∉ xs => hn h.1]
      refine t_of_body Try.func57 rfl (Nat.le_of_ble_eq_true rfl) fun F => ?_
      repeat' (first
        | refine swp_seq ?_
        | (refine gk 0 rfl ?_; first | refine sl_op rfl rfl rfl (by first | exact opv_move rfl rfl | exact opv_assign rfl rfl | exact opv_pick_f rfl rfl rfl ) ?_ | refine sl_pass rfl rfl rfl rfl ?_)
        | (refine gk 2 rfl ?_; first | refine sl_no rfl rfl rfl (by first | exact opv_lss rfl rfl rfl ) (by first | omega ) ?_ )
        | (refine gk 4 rfl ?_; first | refine sl_pass rfl rfl rfl rfl ?_ | refine sl_op rfl rfl rfl (by first | exact opv_len rfl rfl rfl rfl rfl ) ?_ | (refine sl_callW rfl rfl rfl rfl rfl rfl rfl rfl (pushed_W _ _ _ _ xs _ h1 hsm) ?_; rintro _ _ ⟨hP, bP, rfl, rfl, osP⟩; refine ⟨_, _, rfl, rfl, ?_⟩) )
        | refine sl_region rfl ?_
        | refine sl_nil ?_
        | refine thn_k ?_
        | refine swp_ret ?_
        )
      all_goals exact end_retL [J, hP] (resOk_two (resV_tmp rfl) (resV_tmp rfl)) ⟨[hP], rfl, hP, _, rfl, rfl, osP⟩
end Go.Proofs.Ytifhhfeibnpaoaa
