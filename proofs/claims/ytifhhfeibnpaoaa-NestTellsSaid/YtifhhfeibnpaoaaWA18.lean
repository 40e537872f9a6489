/- Going through a method: the document's answer, in full. -/
import Derived.Test.YtifhhfeibnpaoaaWA17
namespace Go.Proofs.Ytifhhfeibnpaoaa
open Go.SL
set_option maxRecDepth 100000
set_option maxHeartbeats 16000000
attribute [local irreducible] SL.T PFn OpV SOL SWP HOp ChU
theorem rGo_none (J : Heap) (p : Value) (lo st : Int) (cb : Option Addr) (cc : Nat) :
    SL.T Try.prog 8 [mth p lo st cb 0 cc] [J] fun e o => ∃ hS sb kb, o = [J, hS, emp] ∧ e = .returned (.agg ⟨[.slice sb 0 0, .slice kb 0 0, i64 (-1)]⟩) ∧ OS hS sb 0 0 47 1 [] := by
  refine t_of_body Try.func8 rfl (Nat.le_of_ble_eq_true rfl) fun F => ?_
  refine swp_emp ?_
  repeat' (first
    | refine swp_seq ?_
    | (refine gk 0 rfl ?_; first | refine sl_op rfl rfl rfl (by first | exact opv_assign rfl rfl ) ?_ )
    | (refine gk 3 rfl ?_; first | refine sl_op rfl rfl rfl (by first | exact opv_load rfl (by exact rfl) rfl (by exact rfl) | exact opv_fieldAddr rfl rfl ) ?_ )
    | (refine gk 4 rfl ?_; first | refine sl_op rfl rfl rfl (by first | exact opv_len rfl rfl rfl rfl rfl ) ?_)
    | (refine gk 5 rfl ?_; first | refine sl_box rfl rfl rfl rfl rfl rfl (fun β => ?_) | refine sl_alloc rfl rfl rfl rfl (by exact rfl) (fun β => ?_) )
    | refine sl_region rfl ?_
    | refine sl_nil ?_
    )
  refine sl_drawC [.q [0], .an 1, .q [2], .an 3, .an 5, .rv 1, .rv 3, .q [4], .rv 5, .h true 6] [] (by kernel_rfl) (by kernel_rfl) (by kernel_rfl) (by kernel_rfl) ?_
  repeat' (first
    | refine swp_seq ?_
    | (refine gk 0 rfl ?_; first | refine sl_op rfl rfl rfl (by first | exact opv_move rfl rfl ) ?_ )
    | (refine gk 2 rfl ?_; first | refine sl_yes rfl rfl rfl (by first | exact opv_eql rfl rfl rfl ) (by first | omega ) ?_ )
    | (refine gk 3 rfl ?_; first | refine sl_op rfl rfl rfl (by first | exact opv_loadA rfl (by exact rfl) rfl (by exact rfl) (by exact rfl) ) ?_ )
    | (refine gk 5 rfl ?_; first | refine sl_op rfl rfl rfl (by first | exact opv_build rfl rfl (by exact rfl) ) ?_ | refine sl_store rfl rfl rfl rfl rfl rfl (by exact rfl) rfl (by exact rfl) ?_)
    | refine sl_region rfl ?_
    | refine chu_nil ?_
    | refine chu_q rfl ?_
    | refine chu_new rfl rfl (by first | exact new_alloc rfl (by exact rfl) | exact new_makeSlice rfl rfl rfl rfl (by omega) (by omega) ) ?_
    | refine chu_rv rfl rfl rfl (fun β => ?_)
    | refine chu_store rfl rfl rfl rfl rfl rfl (by exact rfl) rfl (by exact rfl) (by exact rfl) ?_
    | refine sl_nil ?_
    | refine thn_k ?_
    | refine swp_true rfl ?_
    | refine swp_ret ?_
    | refine thn_ret ?_
    )
  rename_i β1 β2 β3 β4
  exact end_retL [J, blk β3 (.cells ⟨List.replicate 0 (.slice none 0 0)⟩ 47 (0, 0)), emp] (resOk_one (resV_cellA rfl rfl rfl rfl)) ⟨_, _, _, rfl, rfl, OS.blk rfl⟩
theorem rGo_calls (J : Heap) (p : Value) (lo st : Int) (cb : Option Addr) (cl cc : Nat) (cs : List Ins) [iJ : Sl J cb (flatI cs)] (hl : cs.length = cl) (hsm : cl ≤ 1000000) :
    SL.T Try.prog 8 [mth p lo st cb cl cc] [J] fun e o => ∃ N, o = J :: N ∧ ∃ K hS sb kb vals, N = [hS, K] ∧ e = .returned (.agg ⟨[.slice sb cl cl, .slice kb cl cl, i64 (wrG cs)]⟩) ∧
      OS hS sb cl cl 47 1 vals ∧ Rows K (endG cs).stk cl vals ∧ (endG cs).res = some (wrG cs) := by
  rcases Nat.eq_zero_or_pos cl with h0 | h0
  · subst h0
    obtain rfl : cs = [] := List.length_eq_zero_iff.1 hl
    obtain ⟨h1, h2, h3⟩ := wrG_eq (cs := []) rfl end_none
    refine (rGo_none J p lo st cb cc).mono ?_
    rintro e o ⟨hS, sb, kb, rfl, rfl, os⟩
    exact ⟨[hS, emp], rfl, emp, hS, sb, kb, [], rfl, by rw [h2], os, fun t ht => absurd ht (Nat.not_lt_zero _), h3⟩
  · refine (rGo_big J p lo st cb cl cc cs hl hsm h0).mono ?_
    rintro e o ⟨K, hS, hC, hO, sb, kb, ob, oc, V, stk, vals, i, k, n, wr, rfl, rfl, ri, hg⟩
    obtain ⟨h1, rfl, h3⟩ := wrG_eq hg rfl
    exact ⟨[hS, K], rfl, K, hS, sb, kb, vals, rfl, rfl, ri.os, by rw [← h1]; exact ri.rows, h3⟩
end Go.Proofs.Ytifhhfeibnpaoaa
