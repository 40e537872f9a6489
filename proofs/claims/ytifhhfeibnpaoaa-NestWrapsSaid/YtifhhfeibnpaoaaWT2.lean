/- The document's answer of layer 27: where instructions go, which ones lead. -/
import Derived.Test.YtifhhfeibnpaoaaWT
namespace Go.Proofs.Ytifhhfeibnpaoaa
open Go.SL
set_option maxRecDepth 100000
set_option maxHeartbeats 16000000
attribute [local irreducible] SL.T PFn OpV SOL SWP HOp ChU
theorem nextL_sorted (x : Ins) (k : Nat) : (nextL x k).Pairwise (· < ·) := rise_sorted _
theorem mem_leadF {k : Nat} {x : Ins} {z : Int} : z ∈ leadF k x ↔ (jmp x.1 ∧ z = x.2.1) ∨ ((jmp x.1 ∨ x.1 = 20) ∧ z = (k : Int) + 1) := by
  unfold leadF
  rw [List.mem_append]
  constructor
  · rintro (h | h)
    · split at h
      · rename_i hj; exact .inl ⟨hj, by simpa using h⟩
      · cases h
    · split at h
      · rename_i hj; exact .inr ⟨hj, by simpa using h⟩
      · cases h
  · rintro (⟨h1, h2⟩ | ⟨h1, h2⟩)
    · left; rw [if_pos h1, h2]; exact List.mem_singleton.2 rfl
    · right; rw [if_pos h1, h2]; exact List.mem_singleton.2 rfl
structure ST where
  i : Nat
  is : Bool
theorem Leader_calls (J : Heap) (p : Value) (lo st : Int) (cb : Option Addr) (cl cc : Nat) (cs : List Ins) (at_ : Int) [Sl J cb (flatI cs)] (hl : cs.length = cl) (hsm : cl ≤ 4000000) :
    PFn Try.prog 31 [mth p lo st cb cl cc, i64 at_] [J] (.bool (decide (at_ ∈ leads cs))) := by
  by_cases hat : 0 ≤ at_ ∧ at_ < cl
  · have e0 : decide (at_ ∈ leads cs) = decide (at_ ∈ leadA cs cl) := decide_eq_decide.2 (by rw [mem_leads, hl]; exact ⟨fun h => h.2, fun h => ⟨hat, h⟩⟩)
    rw [e0]
    have hs0 : ∀ b : Bool, b = decide (at_ = 0) → b = decide (at_ ∈ leadA cs 0) := fun b hb => by rw [hb]; simp [leadA]
    refine pure_of_body Try.func31 rfl (Nat.le_of_ble_eq_true rfl) fun F => ?_
    obtain ⟨b0, hb0⟩ : ∃ b : Bool, b = decide (at_ = 0) := ⟨_, rfl⟩
    repeat' (first
      | refine sl_op rfl rfl rfl ((opv_eql rfl rfl rfl).to (congrArg Value.bool hb0.symm)) ?_
      | refine swp_seq ?_
      | (refine gk 0 rfl ?_; first | refine sl_op rfl rfl rfl (by first | exact opv_move rfl rfl | exact opv_assign rfl rfl | exact opv_pick_f rfl rfl rfl ) ?_ )
      | (refine gk 2 rfl ?_; first | refine sl_no rfl rfl rfl (by first | exact opv_lss rfl rfl rfl | exact opv_geq rfl rfl rfl ) (by first | omega ) ?_ )
      | (refine gk 3 rfl ?_; first | refine sl_op rfl rfl rfl (by first | exact opv_load rfl (by exact rfl) rfl (by exact rfl) | exact opv_fieldAddr rfl rfl ) ?_ )
      | (refine gk 4 rfl ?_; first | refine sl_op rfl rfl rfl (by first | exact opv_len rfl rfl rfl rfl rfl ) ?_)
      | (refine gk 5 rfl ?_; first | refine sl_box rfl rfl rfl rfl rfl rfl (fun β => ?_) )
      | refine sl_region rfl ?_
      | refine sl_nil ?_
      | refine thn_k ?_
      | refine swp_false rfl ?_
      | refine swp_block ?_
      | refine swp_skip ?_
      )
    obtain ⟨β2, rfl⟩ : ∃ x, x = β := ⟨_, rfl⟩
    refine swp_loopS (fun s : ST => [(1, i64 at_), (2, .pointer (some ⟨β2, 0, none⟩)), (5, .bool s.is), (6, i64 (s.i : Int))])
      (fun _ => [J, mBlk β2 p lo st cb cl cc]) (fun s => s.i ≤ cl ∧ s.is = decide (at_ ∈ leadA cs s.i)) (fun s => cl - s.i) ⟨0, b0⟩ (by repeat first | exact Sub.nil _ | refine Sub.cons rfl ?_) ⟨Nat.zero_le _, hs0 _ hb0⟩ ?_
    rintro ⟨i, is⟩ ⟨hi1, his⟩
    dsimp only at hi1 his ⊢
    by_cases hi : i < cl
    · obtain ⟨⟨op, a, b⟩, hx⟩ : ∃ x, cs[i]? = some x := ⟨_, List.getElem?_eq_getElem (by omega)⟩
      obtain ⟨c0, c1, c2⟩ := flatI_at hx
      have c0 : (flatI cs)[((i : Nat) : Int).toNat * 3]? = some (i64 op) := c0
      have c1 : (flatI cs)[((i : Nat) : Int).toNat * 3 + 1]? = some (i64 a) := c1
      have c2 : (flatI cs)[((i : Nat) : Int).toNat * 3 + 2]? = some (i64 b) := c2
      have hfl := flatI_length cs
      have hq : ((i : Nat) : Int).toNat * 3 < (flatI cs).length := by simp; omega
      have hiff : at_ ∈ leadA cs (i + 1) ↔ at_ ∈ leadA cs i ∨ ((op = 6 ∨ op = 7 ∨ op = 8) ∧ at_ = a) ∨ (((op = 6 ∨ op = 7 ∨ op = 8) ∨ op = 20) ∧ at_ = (i : Int) + 1) := by
        rw [leadA_succ hx, List.mem_append, mem_leadF]; simp [jmp]
      cases is with
      | true =>
        have hP := of_decide_eq_true his.symm
        repeat' (first
          | refine swp_seq ?_
          | (refine gk 0 rfl ?_; first | refine sl_op rfl rfl rfl (by first | exact opv_move rfl rfl | exact opv_assign rfl rfl | exact opv_pick_t rfl rfl rfl | exact opv_pick_f rfl rfl rfl ) ?_ | refine sl_pass rfl rfl rfl rfl ?_)
          | (refine gk 1 rfl ?_; first | refine sl_op rfl rfl rfl (by first | exact opv_add64 rfl rfl rfl (by omega) (by omega) ) ?_ | refine sl_pass rfl rfl rfl rfl ?_)
          | (refine gk 2 rfl ?_; first | refine sl_pass rfl rfl rfl rfl ?_ | refine sl_yes rfl rfl rfl (by first | exact opv_lss rfl rfl rfl | exact opv_eql rfl rfl rfl ) (by first | omega ) ?_ | refine sl_if rfl rfl rfl (by first | exact opv_eql rfl rfl rfl ) (fun h => ?_) (fun h => ?_) )
          | (refine gk 3 rfl ?_; first | refine sl_op rfl rfl rfl (by first | exact opv_load rfl (by exact rfl) rfl (by exact rfl) | exact opv_fieldAddr rfl rfl | exact opv_indexAddrI rfl rfl rfl (by omega) (by omega) (by first | omega ) | exact opv_load3 rfl (by exact rfl) (by infer_instance) (by assumption) (by assumption) (by assumption)) ?_ | refine sl_pass rfl rfl rfl rfl ?_)
          | (refine gk 4 rfl ?_; first | refine sl_op rfl rfl rfl (by first | exact opv_len rfl rfl rfl rfl rfl ) ?_)
          | (refine gk 5 rfl ?_; first | refine sl_alloc rfl rfl rfl rfl (by exact rfl) (fun β => ?_) | refine sl_store rfl rfl rfl rfl rfl rfl (by exact rfl) rfl (by exact rfl) ?_)
          | refine sl_region rfl ?_
          | refine sl_nil ?_
          | refine thn_k ?_
          | refine swp_true rfl ?_
          | refine swp_block ?_
          | refine swp_skip ?_
          )
        all_goals exact ⟨rfl, ⟨i + 1, true⟩, next_ok (by repeat first | exact Sub.nil _ | refine Sub.cons rfl ?_), ⟨hi, (decide_eq_true (hiff.2 (.inl hP))).symm⟩, by dsimp only; omega⟩
      | false =>
        have hP := of_decide_eq_false his.symm
        have hd : decide (at_ ∈ leadA cs (i + 1)) = decide (((op = 6 ∨ op = 7 ∨ op = 8) ∧ at_ = a) ∨ (((op = 6 ∨ op = 7 ∨ op = 8) ∨ op = 20) ∧ at_ = (i : Int) + 1)) :=
          decide_eq_decide.2 (by rw [hiff]; exact ⟨fun h => h.resolve_left hP, .inr⟩)
        repeat' (first
          | refine swp_seq ?_
          | (refine gk 0 rfl ?_; first | refine sl_op rfl rfl rfl (by first | exact opv_move rfl rfl | exact opv_assign rfl rfl | exact opv_pick_t rfl rfl rfl | exact opv_pick_f rfl rfl rfl ) ?_ | refine sl_pass rfl rfl rfl rfl ?_)
          | (refine gk 1 rfl ?_; first | refine sl_op rfl rfl rfl (by first | exact opv_add64 rfl rfl rfl (by omega) (by omega) ) ?_ | refine sl_pass rfl rfl rfl rfl ?_)
          | (refine gk 2 rfl ?_; first | refine sl_pass rfl rfl rfl rfl ?_ | refine sl_yes rfl rfl rfl (by first | exact opv_lss rfl rfl rfl | exact opv_eql rfl rfl rfl ) (by first | omega ) ?_ | refine sl_if rfl rfl rfl (by first | exact opv_eql rfl rfl rfl ) (fun h => ?_) (fun h => ?_) )
          | (refine gk 3 rfl ?_; first | refine sl_op rfl rfl rfl (by first | exact opv_load rfl (by exact rfl) rfl (by exact rfl) | exact opv_fieldAddr rfl rfl | exact opv_indexAddrI rfl rfl rfl (by omega) (by omega) (by first | omega ) | exact opv_load3 rfl (by exact rfl) (by infer_instance) (by assumption) (by assumption) (by assumption)) ?_ | refine sl_pass rfl rfl rfl rfl ?_)
          | (refine gk 4 rfl ?_; first | refine sl_op rfl rfl rfl (by first | exact opv_len rfl rfl rfl rfl rfl ) ?_)
          | (refine gk 5 rfl ?_; first | refine sl_alloc rfl rfl rfl rfl (by exact rfl) (fun β => ?_) | refine sl_store rfl rfl rfl rfl rfl rfl (by exact rfl) rfl (by exact rfl) ?_)
          | refine sl_region rfl ?_
          | refine sl_nil ?_
          | refine thn_k ?_
          | refine swp_true rfl ?_
          | refine swp_block ?_
          | refine swp_skip ?_
          )
        all_goals
          refine ⟨rfl, ⟨i + 1, _⟩, next_ok (by repeat first | exact Sub.nil _ | refine Sub.cons rfl ?_), ⟨hi, ?_⟩, by dsimp only; omega⟩
          dsimp only
          rw [hd]
          symm
          first | exact decide_eq_true (by omega) | exact decide_eq_false (by omega)
    · obtain rfl : i = cl := by omega
      repeat' (first
        | refine swp_seq ?_
        | (refine gk 0 rfl ?_; first | refine sl_op rfl rfl rfl (by first | exact opv_move rfl rfl | exact opv_assign rfl rfl ) ?_ )
        | (refine gk 2 rfl ?_; first | refine sl_no rfl rfl rfl (by first | exact opv_lss rfl rfl rfl ) (by first | omega ) ?_ )
        | (refine gk 3 rfl ?_; first | refine sl_op rfl rfl rfl (by first | exact opv_load rfl (by exact rfl) rfl (by exact rfl) | exact opv_fieldAddr rfl rfl ) ?_ )
        | (refine gk 4 rfl ?_; first | refine sl_op rfl rfl rfl (by first | exact opv_len rfl rfl rfl rfl rfl ) ?_)
        | refine sl_region rfl ?_
        | refine sl_nil ?_
        | refine thn_k ?_
        | refine swp_false rfl ?_
        | refine swp_ret ?_
        | refine swp_exit ?_
        )
      exact end_retL [J] (resOk_one (resV_tmp rfl)) ⟨by rw [his], rfl⟩
  · have e : decide (at_ ∈ leads cs) = false := decide_eq_false fun h => hat (by rw [← hl]; exact (mem_leads.1 h).1)
    rw [e]
    refine pure_of_body Try.func31 rfl (Nat.le_of_ble_eq_true rfl) fun F => ?_
    repeat' (first
      | refine swp_seq ?_
      | (refine gk 0 rfl ?_; first | refine sl_op rfl rfl rfl (by first | exact opv_move rfl rfl | exact opv_assign rfl rfl | exact opv_pick_t rfl rfl rfl | exact opv_pick_f rfl rfl rfl ) ?_ | refine sl_pass rfl rfl rfl rfl ?_)
      | (refine gk 2 rfl ?_; first | refine sl_pass rfl rfl rfl rfl ?_ | refine sl_yes rfl rfl rfl (by first | exact opv_lss rfl rfl rfl | exact opv_geq rfl rfl rfl ) (by first | omega ) ?_ | refine sl_if rfl rfl rfl (by first | exact opv_lss rfl rfl rfl ) (fun h => ?_) (fun h => ?_) )
      | (refine gk 3 rfl ?_; first | refine sl_op rfl rfl rfl (by first | exact opv_load rfl (by exact rfl) rfl (by exact rfl) | exact opv_fieldAddr rfl rfl ) ?_ | refine sl_pass rfl rfl rfl rfl ?_)
      | (refine gk 4 rfl ?_; first | refine sl_pass rfl rfl rfl rfl ?_ | refine sl_op rfl rfl rfl (by first | exact opv_len rfl rfl rfl rfl rfl ) ?_)
      | (refine gk 5 rfl ?_; first | refine sl_box rfl rfl rfl rfl rfl rfl (fun β => ?_) )
      | refine sl_region rfl ?_
      | refine sl_nil ?_
      | refine thn_k ?_
      | refine swp_true rfl ?_
      | refine swp_ret ?_
      | refine thn_ret ?_
      )
    all_goals first | (exfalso; omega) | exact end_retL [J] (resOk_one (resV_tmp rfl)) ⟨rfl, rfl⟩
end Go.Proofs.Ytifhhfeibnpaoaa
