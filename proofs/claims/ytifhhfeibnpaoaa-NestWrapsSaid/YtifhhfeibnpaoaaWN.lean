/- Where an instruction may go. -/
import Derived.Test.YtifhhfeibnpaoaaWS
namespace Go.Proofs.Ytifhhfeibnpaoaa
open Go.SL
set_option maxRecDepth 100000
set_option maxHeartbeats 16000000
attribute [local irreducible] SL.T PFn OpV SOL SWP HOp ChU
/-- Where an instruction at a place may go. -/
def nextL (x : Ins) (k : Nat) : List Int := rise ((if jmp x.1 then [x.2.1] else []) ++ (if x.1 ≠ 6 ∧ x.1 ≠ 20 then [(k : Int) + 1] else []))
def nxt (cs : List Ins) (at_ : Int) : List Int := if 0 ≤ at_ ∧ at_ < cs.length then nextL (cs.getD at_.toNat (0, 0, 0)) at_.toNat else []
theorem nxt_no {cs : List Ins} {at_ : Int} (h : ¬ (0 ≤ at_ ∧ at_ < cs.length)) : nxt cs at_ = [] := if_neg h
theorem nxt_yes {cs : List Ins} {k : Nat} {x : Ins} (h : cs[k]? = some x) : nxt cs (k : Int) = nextL x k := by
  have hk := (List.getElem?_eq_some_iff.1 h).1
  rw [nxt, if_pos (by omega)]
  simp [List.getD, h]
theorem rise_nil : rise [] = [] := rise_eq List.Pairwise.nil (fun _ => Iff.rfl)
theorem Next_calls (J : Heap) (p : Value) (lo st : Int) (cb : Option Addr) (cl cc : Nat) (cs : List Ins) (at_ : Int) [Sl J cb (flatI cs)] (hl : cs.length = cl) (hsm : cl ≤ 4000000):
    SL.T Try.prog 15 [mth p lo st cb cl cc, i64 at_] [J] fun e o => ∃ N, o = J :: N ∧ ∃ h b c, e = .returned (.slice b (nxt cs at_).length c) ∧ N = [h] ∧ OS h b (nxt cs at_).length c 3 1 ((nxt cs at_).map i64) := by
  have ht := there_calls p lo st cb cl cc at_
  by_cases hat : 0 ≤ at_ ∧ at_ < cl
  · rw [decide_eq_true hat] at ht
    obtain ⟨k, rfl⟩ := Int.eq_ofNat_of_zero_le hat.1
    have hk : k < cl := by omega
    obtain ⟨x, hx⟩ : ∃ x, cs[k]? = some x := ⟨_, List.getElem?_eq_getElem (by omega)⟩
    rw [nxt_yes hx]
    obtain ⟨op, a, b⟩ := x
    obtain ⟨c0, c1, c2⟩ := flatI_at hx
    have c0 : (flatI cs)[((k : Nat) : Int).toNat * 3]? = some (i64 op) := c0
    have c1 : (flatI cs)[((k : Nat) : Int).toNat * 3 + 1]? = some (i64 a) := c1
    have c2 : (flatI cs)[((k : Nat) : Int).toNat * 3 + 2]? = some (i64 b) := c2
    have hfl := flatI_length cs
    have hq : ((k : Nat) : Int).toNat * 3 < (flatI cs).length := by simp; omega
    have hj := jumps_calls op a b
    by_cases hjm : jmp op
    · rw [decide_eq_true hjm] at hj
      have h20 : op ≠ 20 := by simp [jmp] at hjm; omega
      by_cases h6 : op = 6
      · have e : nextL (op, a, b) k = rise [a] := by simp only [nextL]; rw [if_pos hjm, if_neg (by omega)]; rfl
        rw [e]
        refine t_of_body Try.func15 rfl (Nat.le_of_ble_eq_true rfl) fun F => ?_
        refine swp_emp ?_
        repeat' (first
          | refine swp_seq ?_
          | (refine gk 0 rfl ?_; first | refine sl_op rfl rfl rfl (by first | exact opv_move rfl rfl | exact opv_assign rfl rfl | exact opv_pick_f rfl rfl rfl | exact opv_not_t rfl rfl ) ?_ )
          | (refine gk 2 rfl ?_; first | refine sl_pass rfl rfl rfl rfl ?_ | refine sl_no rfl rfl rfl (by first | exact opv_neq rfl rfl rfl) (by first | omega ) ?_ )
          | (refine gk 3 rfl ?_; first | refine sl_op rfl rfl rfl (by first | exact opv_load rfl (by exact rfl) rfl (by exact rfl) | exact opv_fieldAddr rfl rfl | exact opv_loadA rfl (by exact rfl) rfl (by exact rfl) (by exact rfl) | exact opv_indexAddrI rfl rfl rfl (by omega) (by omega) (by first | omega ) | exact opv_load3 rfl (by exact rfl) (by infer_instance) (by assumption) (by assumption) (by assumption)) ?_ | refine sl_pass rfl rfl rfl rfl ?_)
          | (refine gk 4 rfl ?_; first | refine sl_op rfl rfl rfl (opv_call rfl rfl rfl rfl rfl (ht)) ?_ | refine sl_op rfl rfl rfl (opv_call rfl rfl rfl rfl rfl (hj)) ?_ | (refine sl_append rfl rfl rfl rfl rfl rfl rfl rfl rfl OS.nil (by decide) rfl (by decide) rfl (by omega) (by omega) (fun h1 b1 c1 os1 => ?_); have os2 : OS h1 b1 1 c1 3 1 ([a].map i64) := os1) | (refine sl_callT rfl rfl rfl rfl rfl rfl rfl rfl (rising_calls _ _ _ _ _ os2 (by omega)) ?_; rintro _ _ ⟨hR, rfl, rfl, osR⟩; refine ⟨_, _, rfl, rfl, ?_⟩))
          | (refine gk 5 rfl ?_; first | refine sl_buildSlice rfl rfl rfl rfl rfl (by exact rfl) (by exact rfl) (by exact rfl) (by exact rfl) rfl (fun b => ?_) | refine sl_box rfl rfl rfl rfl rfl rfl (fun β => ?_) | refine sl_alloc rfl rfl rfl rfl (by exact rfl) (fun β => ?_) | refine sl_store rfl rfl rfl rfl rfl rfl (by exact rfl) rfl (by exact rfl) ?_)
          | refine sl_region rfl ?_
          | refine sl_nil ?_
          | refine thn_k ?_
          | refine swp_true rfl ?_
          | refine swp_false rfl ?_
          | refine swp_ret ?_
          | refine swp_skip ?_
          )
        exact end_retL [J, hR] (resOk_one (resV_tmp rfl)) ⟨[hR], rfl, hR, _, _, rfl, rfl, osR⟩
      · have e : nextL (op, a, b) k = rise [a, (k : Int) + 1] := by simp [nextL, hjm, h6, h20]
        rw [e]
        refine t_of_body Try.func15 rfl (Nat.le_of_ble_eq_true rfl) fun F => ?_
        refine swp_emp ?_
        repeat' (first
          | refine swp_seq ?_
          | (refine gk 0 rfl ?_; first | refine sl_op rfl rfl rfl (by first | exact opv_move rfl rfl | exact opv_assign rfl rfl | exact opv_pick_t rfl rfl rfl | exact opv_not_t rfl rfl ) ?_ )
          | (refine gk 1 rfl ?_; first | refine sl_op rfl rfl rfl (by first | exact opv_add64 rfl rfl rfl (by omega) (by omega) ) ?_ )
          | (refine gk 2 rfl ?_; first | refine sl_yes rfl rfl rfl (by first | exact opv_neq rfl rfl rfl) (by first | omega ) ?_ )
          | (refine gk 3 rfl ?_; first | refine sl_op rfl rfl rfl (by first | exact opv_load rfl (by exact rfl) rfl (by exact rfl) | exact opv_fieldAddr rfl rfl | exact opv_loadA rfl (by exact rfl) rfl (by exact rfl) (by exact rfl) | exact opv_indexAddrI rfl rfl rfl (by omega) (by omega) (by first | omega ) | exact opv_load3 rfl (by exact rfl) (by infer_instance) (by assumption) (by assumption) (by assumption)) ?_ )
          | (refine gk 4 rfl ?_; first | refine sl_op rfl rfl rfl (opv_call rfl rfl rfl rfl rfl (ht)) ?_ | refine sl_op rfl rfl rfl (opv_call rfl rfl rfl rfl rfl (hj)) ?_ | (refine sl_append rfl rfl rfl rfl rfl rfl rfl rfl rfl OS.nil (by decide) rfl (by decide) rfl (by omega) (by omega) (fun h1 b1 c1 os1 => ?_)) | (refine sl_append rfl rfl rfl rfl rfl rfl rfl rfl rfl os1 (by decide) rfl (by decide) rfl (by omega) (by omega) (fun h3 b3 c3 os3 => ?_); have os2 : OS h3 b3 2 c3 3 1 ([a, (k : Int) + 1].map i64) := os3) | (refine sl_callT rfl rfl rfl rfl rfl rfl rfl rfl (rising_calls _ _ _ _ _ os2 (by omega)) ?_; rintro _ _ ⟨hR, rfl, rfl, osR⟩; refine ⟨_, _, rfl, rfl, ?_⟩))
          | (refine gk 5 rfl ?_; first | refine sl_buildSlice rfl rfl rfl rfl rfl (by exact rfl) (by exact rfl) (by exact rfl) (by exact rfl) rfl (fun b => ?_) | refine sl_box rfl rfl rfl rfl rfl rfl (fun β => ?_) | refine sl_alloc rfl rfl rfl rfl (by exact rfl) (fun β => ?_) | refine sl_store rfl rfl rfl rfl rfl rfl (by exact rfl) rfl (by exact rfl) ?_)
          | refine sl_region rfl ?_
          | refine sl_nil ?_
          | refine thn_k ?_
          | refine swp_true rfl ?_
          | refine swp_false rfl ?_
          | refine swp_ret ?_
          | refine swp_skip ?_
          )
        exact end_retL [J, hR] (resOk_one (resV_tmp rfl)) ⟨[hR], rfl, hR, _, _, rfl, rfl, osR⟩
    · rw [decide_eq_false hjm] at hj
      have h6 : op ≠ 6 := by simp [jmp] at hjm; omega
      by_cases h20 : op = 20
      · have e : nextL (op, a, b) k = rise [] := by simp only [nextL]; rw [if_neg hjm, if_neg (by omega)]; rfl
        rw [e]
        refine t_of_body Try.func15 rfl (Nat.le_of_ble_eq_true rfl) fun F => ?_
        refine swp_emp ?_
        have os2 : OS emp none 0 0 3 1 (([] : List Int).map i64) := OS.nil
        repeat' (first
          | refine swp_seq ?_
          | (refine gk 0 rfl ?_; first | refine sl_op rfl rfl rfl (by first | exact opv_move rfl rfl | exact opv_assign rfl rfl | exact opv_pick_t rfl rfl rfl | exact opv_not_t rfl rfl ) ?_ )
          | (refine gk 2 rfl ?_; first | refine sl_yes rfl rfl rfl (by first | exact opv_neq rfl rfl rfl) (by first | omega ) ?_ | refine sl_no rfl rfl rfl (by first | exact opv_neq rfl rfl rfl) (by first | omega ) ?_ )
          | (refine gk 3 rfl ?_; first | refine sl_op rfl rfl rfl (by first | exact opv_load rfl (by exact rfl) rfl (by exact rfl) | exact opv_fieldAddr rfl rfl | exact opv_loadA rfl (by exact rfl) rfl (by exact rfl) (by exact rfl) | exact opv_indexAddrI rfl rfl rfl (by omega) (by omega) (by first | omega ) | exact opv_load3 rfl (by exact rfl) (by infer_instance) (by assumption) (by assumption) (by assumption)) ?_ )
          | (refine gk 4 rfl ?_; first | refine sl_op rfl rfl rfl (opv_call rfl rfl rfl rfl rfl (ht)) ?_ | refine sl_op rfl rfl rfl (opv_call rfl rfl rfl rfl rfl (hj)) ?_ | (refine sl_callT rfl rfl rfl rfl rfl rfl rfl rfl (rising_calls _ _ _ _ _ os2 (by omega)) ?_; rintro _ _ ⟨hR, rfl, rfl, osR⟩; refine ⟨_, _, rfl, rfl, ?_⟩))
          | (refine gk 5 rfl ?_; first | refine sl_box rfl rfl rfl rfl rfl rfl (fun β => ?_) | refine sl_alloc rfl rfl rfl rfl (by exact rfl) (fun β => ?_) | refine sl_store rfl rfl rfl rfl rfl rfl (by exact rfl) rfl (by exact rfl) ?_)
          | refine sl_region rfl ?_
          | refine sl_nil ?_
          | refine thn_k ?_
          | refine swp_false rfl ?_
          | refine swp_ret ?_
          | refine swp_skip ?_
          )
        exact end_retL [J, hR] (resOk_one (resV_tmp rfl)) ⟨[hR], rfl, hR, _, _, rfl, rfl, osR⟩
      · have e : nextL (op, a, b) k = rise [(k : Int) + 1] := by simp [nextL, hjm, h6, h20]
        rw [e]
        refine t_of_body Try.func15 rfl (Nat.le_of_ble_eq_true rfl) fun F => ?_
        refine swp_emp ?_
        repeat' (first
          | refine swp_seq ?_
          | (refine gk 0 rfl ?_; first | refine sl_op rfl rfl rfl (by first | exact opv_move rfl rfl | exact opv_assign rfl rfl | exact opv_pick_t rfl rfl rfl | exact opv_not_t rfl rfl ) ?_ )
          | (refine gk 1 rfl ?_; first | refine sl_op rfl rfl rfl (by first | exact opv_add64 rfl rfl rfl (by omega) (by omega) ) ?_ )
          | (refine gk 2 rfl ?_; first | refine sl_yes rfl rfl rfl (by first | exact opv_neq rfl rfl rfl) (by first | omega ) ?_ )
          | (refine gk 3 rfl ?_; first | refine sl_op rfl rfl rfl (by first | exact opv_load rfl (by exact rfl) rfl (by exact rfl) | exact opv_fieldAddr rfl rfl | exact opv_loadA rfl (by exact rfl) rfl (by exact rfl) (by exact rfl) | exact opv_indexAddrI rfl rfl rfl (by omega) (by omega) (by first | omega ) | exact opv_load3 rfl (by exact rfl) (by infer_instance) (by assumption) (by assumption) (by assumption)) ?_ )
          | (refine gk 4 rfl ?_; first | refine sl_op rfl rfl rfl (opv_call rfl rfl rfl rfl rfl (ht)) ?_ | refine sl_op rfl rfl rfl (opv_call rfl rfl rfl rfl rfl (hj)) ?_ | (refine sl_append rfl rfl rfl rfl rfl rfl rfl rfl rfl OS.nil (by decide) rfl (by decide) rfl (by omega) (by omega) (fun h1 b1 c1 os1 => ?_); have os2 : OS h1 b1 1 c1 3 1 ([(k : Int) + 1].map i64) := os1) | (refine sl_callT rfl rfl rfl rfl rfl rfl rfl rfl (rising_calls _ _ _ _ _ os2 (by omega)) ?_; rintro _ _ ⟨hR, rfl, rfl, osR⟩; refine ⟨_, _, rfl, rfl, ?_⟩))
          | (refine gk 5 rfl ?_; first | refine sl_buildSlice rfl rfl rfl rfl rfl (by exact rfl) (by exact rfl) (by exact rfl) (by exact rfl) rfl (fun b => ?_) | refine sl_box rfl rfl rfl rfl rfl rfl (fun β => ?_) | refine sl_alloc rfl rfl rfl rfl (by exact rfl) (fun β => ?_) | refine sl_store rfl rfl rfl rfl rfl rfl (by exact rfl) rfl (by exact rfl) ?_)
          | refine sl_region rfl ?_
          | refine sl_nil ?_
          | refine thn_k ?_
          | refine swp_true rfl ?_
          | refine swp_false rfl ?_
          | refine swp_ret ?_
          | refine swp_skip ?_
          )
        exact end_retL [J, hR] (resOk_one (resV_tmp rfl)) ⟨[hR], rfl, hR, _, _, rfl, rfl, osR⟩
  · rw [decide_eq_false hat] at ht
    rw [nxt_no (by rw [hl]; exact hat)]
    refine t_of_body Try.func15 rfl (Nat.le_of_ble_eq_true rfl) fun F => ?_
    refine swp_emp ?_
    repeat' (first
      | refine swp_seq ?_
      | (refine gk 0 rfl ?_; first | refine sl_op rfl rfl rfl (by first | exact opv_move rfl rfl | exact opv_assign rfl rfl | exact opv_not_f rfl rfl ) ?_ )
      | (refine gk 3 rfl ?_; first | refine sl_op rfl rfl rfl (by first | exact opv_loadA rfl (by exact rfl) rfl (by exact rfl) (by exact rfl) ) ?_ )
      | (refine gk 4 rfl ?_; first | refine sl_op rfl rfl rfl (opv_call rfl rfl rfl rfl rfl (ht)) ?_)
      | (refine gk 5 rfl ?_; first | refine sl_box rfl rfl rfl rfl rfl rfl (fun β => ?_) )
      | refine sl_region rfl ?_
      | refine sl_nil ?_
      | refine thn_k ?_
      | refine swp_true rfl ?_
      | refine swp_ret ?_
      | refine thn_ret ?_
      )
    exact end_retL [J, emp] (resOk_one (resV_tmp rfl)) ⟨[emp], rfl, emp, _, _, rfl, rfl, OS.nil⟩
theorem Next_W (own : List Heap) (p : Value) (lo st : Int) (cb : Option Addr) (cl cc : Nat) (cs : List Ins) (at_ : Int) [s : SlIn own cb (flatI cs)] (hl : cs.length = cl) (hsm : cl ≤ 4000000) :
    SL.T Try.prog 15 [mth p lo st cb cl cc, i64 at_] own fun e o => ∃ N, o = own ++ N ∧ ∃ h b c, e = .returned (.slice b (nxt cs at_).length c) ∧ N = [h] ∧ OS h b (nxt cs at_).length c 3 1 ((nxt cs at_).map i64) :=
  T_whole fun J hJ => by
    haveI := s.all hJ
    exact Next_calls J p lo st cb cl cc cs at_ hl hsm
end Go.Proofs.Ytifhhfeibnpaoaa
