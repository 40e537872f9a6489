/- The document's answer of layer 27: Next, Off; what is reached; codes cut as they come. -/
import Derived.Test.YtifhhfeibnpaoaaWT2
namespace Go.Proofs.Ytifhhfeibnpaoaa
open Go.SL
set_option maxRecDepth 100000
set_option maxHeartbeats 16000000
attribute [local irreducible] SL.T PFn OpV SOL SWP HOp ChU
theorem nxt_two {S : List Int} {a v : Int} (hs : S.Pairwise (· < ·)) (h : ∀ z ∈ S, z = a ∨ z = v) : S = (if min a v ∈ S then [min a v] else []) ++ (if a ≠ v ∧ max a v ∈ S then [max a v] else []) := by
  refine sorted_unique hs ?_ fun x => ?_
  · split <;> split
    · rename_i h1 h2
      simp only [List.cons_append, List.nil_append, List.pairwise_cons, List.mem_singleton]
      refine ⟨fun y hy => ?_, ?_⟩
      · subst hy; omega
      · simp
    all_goals simp
  · rw [List.mem_append]
    constructor
    · intro hx
      rcases h x hx with e | e
      · subst e
        by_cases hle : x ≤ v
        · left; have : min x v = x := by omega
          rw [this, if_pos hx]; exact List.mem_singleton.2 rfl
        · right; have : max x v = x := by omega
          rw [this, if_pos ⟨by omega, hx⟩]; exact List.mem_singleton.2 rfl
      · subst e
        by_cases hle : x ≤ a
        · left; have : min a x = x := by omega
          rw [this, if_pos hx]; exact List.mem_singleton.2 rfl
        · right; have : max a x = x := by omega
          rw [this, if_pos ⟨by omega, hx⟩]; exact List.mem_singleton.2 rfl
    · rintro (hx | hx)
      · split at hx
        · rename_i h1; rw [List.mem_singleton.1 hx]; exact h1
        · cases hx
      · split at hx
        · rename_i h1; rw [List.mem_singleton.1 hx]; exact h1.2
        · cases hx
theorem rNext_calls (J : Heap) (p : Value) (lo st : Int) (cb : Option Addr) (cl cc : Nat) (cs : List Ins) (at_ : Int) [Sl J cb (flatI cs)] (hl : cs.length = cl) (hsm : cl ≤ 4000000) :
    SL.T Try.prog 25 [mth p lo st cb cl cc, i64 at_] [J] fun e o => ∃ N, o = J :: N ∧ ∃ h b c, e = .returned (.slice b (nxt cs at_).length c) ∧ N = [h] ∧ OS h b (nxt cs at_).length c 3 1 ((nxt cs at_).map i64) := by
  by_cases hat : 0 ≤ at_ ∧ at_ < cl
  · obtain ⟨k, rfl⟩ := Int.eq_ofNat_of_zero_le hat.1
    have hk : k < cl := by omega
    obtain ⟨⟨op, a, b⟩, hx⟩ : ∃ x, cs[k]? = some x := ⟨_, List.getElem?_eq_getElem (by omega)⟩
    obtain ⟨c0, c1, c2⟩ := flatI_at hx
    have c1 : (flatI cs)[((k : Nat) : Int).toNat * 3 + 1]? = some (i64 a) := c1
    have hfl := flatI_length cs
    have hq : ((k : Nat) : Int).toNat * 3 < (flatI cs).length := by simp; omega
    have g1 := Goes_calls J p lo st cb cl cc cs (k : Int) (min a ((k : Int) + 1)) hl hsm
    have g2 := Goes_calls J p lo st cb cl cc cs (k : Int) (max a ((k : Int) + 1)) hl hsm
    have e := nxt_two (S := nxt cs (k : Int)) (a := a) (v := (k : Int) + 1) (by rw [nxt_yes hx]; exact nextL_sorted _ _) (fun z hz => by
      rw [nxt_yes hx, mem_nextL] at hz
      rcases hz with ⟨-, h⟩ | ⟨-, h⟩
      · exact .inl h
      · exact .inr h)
    generalize nxt cs (k : Int) = S at *
    by_cases hm : min a ((k : Int) + 1) ∈ S
    · rw [decide_eq_true hm] at g1
      rw [if_pos hm] at e
      by_cases hab : a = (k : Int) + 1
      · rw [if_neg (fun h => h.1 hab), List.append_nil] at e
        rw [e]
        refine t_of_body Try.func25 rfl (Nat.le_of_ble_eq_true rfl) fun F => ?_
        refine swp_emp ?_
        repeat' (first
          | refine swp_seq ?_
          | (refine gk 0 rfl ?_; first | refine sl_op rfl rfl rfl (by first | exact opv_move rfl rfl | exact opv_assign rfl rfl | exact opv_pick_f rfl rfl rfl ) ?_ | refine sl_pass rfl rfl rfl rfl ?_)
          | (refine gk 1 rfl ?_; first | refine sl_op rfl rfl rfl (by first | exact opv_add64 rfl rfl rfl (by omega) (by omega) ) ?_ )
          | (refine gk 2 rfl ?_; first | refine sl_no rfl rfl rfl (by first | exact opv_lss rfl rfl rfl | exact opv_geq rfl rfl rfl | exact opv_neq rfl rfl rfl) (by first | omega ) ?_ )
          | (refine gk 3 rfl ?_; first | refine sl_op rfl rfl rfl (by first | exact opv_load rfl (by exact rfl) rfl (by exact rfl) | exact opv_fieldAddr rfl rfl | exact opv_loadA rfl (by exact rfl) rfl (by exact rfl) (by exact rfl) | exact opv_indexAddrI rfl rfl rfl (by omega) (by omega) (by first | omega ) | exact opv_fieldAddrE rfl rfl (by first | assumption ) | exact opv_loadEx rfl (by exact rfl) (by infer_instance) (by first | assumption ) ) ?_ | refine sl_pass rfl rfl rfl rfl ?_)
          | (refine gk 4 rfl ?_; first | refine sl_pass rfl rfl rfl rfl ?_ | refine sl_op rfl rfl rfl (by first | exact opv_len rfl rfl rfl rfl rfl | exact opv_min rfl rfl rfl rfl rfl ) ?_ | refine sl_op rfl rfl rfl (opv_call rfl rfl rfl rfl rfl (g1)) ?_ | (refine sl_append rfl rfl rfl rfl rfl rfl rfl rfl rfl OS.nil (by decide) rfl (by decide) rfl (by omega) (by omega) (fun h1 b1 c1 os1 => ?_)))
          | (refine gk 5 rfl ?_; first | refine sl_buildSlice rfl rfl rfl rfl rfl (by exact rfl) (by exact rfl) (by exact rfl) (by exact rfl) rfl (fun b => ?_) | refine sl_box rfl rfl rfl rfl rfl rfl (fun β => ?_) )
          | refine sl_region rfl ?_
          | refine sl_nil ?_
          | refine thn_k ?_
          | refine swp_true rfl ?_
          | refine swp_false rfl ?_
          | refine swp_ret ?_
          | refine swp_skip ?_
          )
        exact end_retL [J, h1] (resOk_one (resV_tmp rfl)) ⟨[h1], rfl, h1, _, _, rfl, rfl, os1⟩
      · by_cases hM : max a ((k : Int) + 1) ∈ S
        · rw [decide_eq_true hM] at g2
          rw [if_pos ⟨hab, hM⟩] at e
          rw [e]
          refine t_of_body Try.func25 rfl (Nat.le_of_ble_eq_true rfl) fun F => ?_
          refine swp_emp ?_
          repeat' (first
            | refine swp_seq ?_
            | (refine gk 0 rfl ?_; first | refine sl_op rfl rfl rfl (by first | exact opv_move rfl rfl | exact opv_assign rfl rfl | exact opv_pick_t rfl rfl rfl | exact opv_pick_f rfl rfl rfl ) ?_ )
            | (refine gk 1 rfl ?_; first | refine sl_op rfl rfl rfl (by first | exact opv_add64 rfl rfl rfl (by omega) (by omega) ) ?_ )
            | (refine gk 2 rfl ?_; first | refine sl_yes rfl rfl rfl (by first | exact opv_lss rfl rfl rfl | exact opv_geq rfl rfl rfl | exact opv_neq rfl rfl rfl) (by first | omega ) ?_ | refine sl_no rfl rfl rfl (by first | exact opv_lss rfl rfl rfl | exact opv_geq rfl rfl rfl ) (by first | omega ) ?_ )
            | (refine gk 3 rfl ?_; first | refine sl_op rfl rfl rfl (by first | exact opv_load rfl (by exact rfl) rfl (by exact rfl) | exact opv_fieldAddr rfl rfl | exact opv_loadA rfl (by exact rfl) rfl (by exact rfl) (by exact rfl) | exact opv_indexAddrI rfl rfl rfl (by omega) (by omega) (by first | omega ) | exact opv_fieldAddrE rfl rfl (by first | assumption ) | exact opv_loadEx rfl (by exact rfl) (by infer_instance) (by first | assumption ) ) ?_ )
            | (refine gk 4 rfl ?_; first | refine sl_op rfl rfl rfl (by first | exact opv_len rfl rfl rfl rfl rfl | exact opv_min rfl rfl rfl rfl rfl | exact opv_max rfl rfl rfl rfl rfl) ?_ | refine sl_op rfl rfl rfl (opv_call rfl rfl rfl rfl rfl (g1)) ?_ | refine sl_op rfl rfl rfl (opv_call rfl rfl rfl rfl rfl (g2)) ?_ | (refine sl_append rfl rfl rfl rfl rfl rfl rfl rfl rfl OS.nil (by decide) rfl (by decide) rfl (by omega) (by omega) (fun h1 b1 c1 os1 => ?_)) | (refine sl_append rfl rfl rfl rfl rfl rfl rfl rfl rfl os1 (by decide) rfl (by decide) rfl (by omega) (by omega) (fun h3 b3 c3 os3 => ?_)))
            | (refine gk 5 rfl ?_; first | refine sl_buildSlice rfl rfl rfl rfl rfl (by exact rfl) (by exact rfl) (by exact rfl) (by exact rfl) rfl (fun b => ?_) | refine sl_box rfl rfl rfl rfl rfl rfl (fun β => ?_) )
            | refine sl_region rfl ?_
            | refine sl_nil ?_
            | refine thn_k ?_
            | refine swp_true rfl ?_
            | refine swp_false rfl ?_
            | refine swp_ret ?_
            | refine swp_skip ?_
            )
          exact end_retL [J, h3] (resOk_one (resV_tmp rfl)) ⟨[h3], rfl, h3, _, _, rfl, rfl, os3⟩
        · rw [decide_eq_false hM] at g2
          rw [if_neg (fun h => hM h.2), List.append_nil] at e
          rw [e]
          refine t_of_body Try.func25 rfl (Nat.le_of_ble_eq_true rfl) fun F => ?_
          refine swp_emp ?_
          repeat' (first
            | refine swp_seq ?_
            | (refine gk 0 rfl ?_; first | refine sl_op rfl rfl rfl (by first | exact opv_move rfl rfl | exact opv_assign rfl rfl | exact opv_pick_t rfl rfl rfl | exact opv_pick_f rfl rfl rfl ) ?_ )
            | (refine gk 1 rfl ?_; first | refine sl_op rfl rfl rfl (by first | exact opv_add64 rfl rfl rfl (by omega) (by omega) ) ?_ )
            | (refine gk 2 rfl ?_; first | refine sl_yes rfl rfl rfl (by first | exact opv_lss rfl rfl rfl | exact opv_geq rfl rfl rfl | exact opv_neq rfl rfl rfl) (by first | omega ) ?_ | refine sl_no rfl rfl rfl (by first | exact opv_lss rfl rfl rfl | exact opv_geq rfl rfl rfl ) (by first | omega ) ?_ )
            | (refine gk 3 rfl ?_; first | refine sl_op rfl rfl rfl (by first | exact opv_load rfl (by exact rfl) rfl (by exact rfl) | exact opv_fieldAddr rfl rfl | exact opv_loadA rfl (by exact rfl) rfl (by exact rfl) (by exact rfl) | exact opv_indexAddrI rfl rfl rfl (by omega) (by omega) (by first | omega ) | exact opv_fieldAddrE rfl rfl (by first | assumption ) | exact opv_loadEx rfl (by exact rfl) (by infer_instance) (by first | assumption ) ) ?_ )
            | (refine gk 4 rfl ?_; first | refine sl_op rfl rfl rfl (by first | exact opv_len rfl rfl rfl rfl rfl | exact opv_min rfl rfl rfl rfl rfl | exact opv_max rfl rfl rfl rfl rfl) ?_ | refine sl_op rfl rfl rfl (opv_call rfl rfl rfl rfl rfl (g1)) ?_ | refine sl_op rfl rfl rfl (opv_call rfl rfl rfl rfl rfl (g2)) ?_ | (refine sl_append rfl rfl rfl rfl rfl rfl rfl rfl rfl OS.nil (by decide) rfl (by decide) rfl (by omega) (by omega) (fun h1 b1 c1 os1 => ?_)))
            | (refine gk 5 rfl ?_; first | refine sl_buildSlice rfl rfl rfl rfl rfl (by exact rfl) (by exact rfl) (by exact rfl) (by exact rfl) rfl (fun b => ?_) | refine sl_box rfl rfl rfl rfl rfl rfl (fun β => ?_) )
            | refine sl_region rfl ?_
            | refine sl_nil ?_
            | refine thn_k ?_
            | refine swp_true rfl ?_
            | refine swp_false rfl ?_
            | refine swp_ret ?_
            | refine swp_skip ?_
            )
          exact end_retL [J, h1] (resOk_one (resV_tmp rfl)) ⟨[h1], rfl, h1, _, _, rfl, rfl, os1⟩
    · rw [decide_eq_false hm] at g1
      rw [if_neg hm, List.nil_append] at e
      by_cases hab : a = (k : Int) + 1
      · rw [if_neg (fun h => h.1 hab)] at e
        rw [e]
        refine t_of_body Try.func25 rfl (Nat.le_of_ble_eq_true rfl) fun F => ?_
        refine swp_emp ?_
        repeat' (first
          | refine swp_seq ?_
          | (refine gk 0 rfl ?_; first | refine sl_op rfl rfl rfl (by first | exact opv_move rfl rfl | exact opv_assign rfl rfl | exact opv_pick_f rfl rfl rfl ) ?_ | refine sl_pass rfl rfl rfl rfl ?_)
          | (refine gk 1 rfl ?_; first | refine sl_op rfl rfl rfl (by first | exact opv_add64 rfl rfl rfl (by omega) (by omega) ) ?_ )
          | (refine gk 2 rfl ?_; first | refine sl_no rfl rfl rfl (by first | exact opv_lss rfl rfl rfl | exact opv_geq rfl rfl rfl | exact opv_neq rfl rfl rfl) (by first | omega ) ?_ )
          | (refine gk 3 rfl ?_; first | refine sl_op rfl rfl rfl (by first | exact opv_load rfl (by exact rfl) rfl (by exact rfl) | exact opv_fieldAddr rfl rfl | exact opv_loadA rfl (by exact rfl) rfl (by exact rfl) (by exact rfl) | exact opv_indexAddrI rfl rfl rfl (by omega) (by omega) (by first | omega ) | exact opv_fieldAddrE rfl rfl (by first | assumption ) | exact opv_loadEx rfl (by exact rfl) (by infer_instance) (by first | assumption ) ) ?_ | refine sl_pass rfl rfl rfl rfl ?_)
          | (refine gk 4 rfl ?_; first | refine sl_pass rfl rfl rfl rfl ?_ | refine sl_op rfl rfl rfl (by first | exact opv_len rfl rfl rfl rfl rfl | exact opv_min rfl rfl rfl rfl rfl ) ?_ | refine sl_op rfl rfl rfl (opv_call rfl rfl rfl rfl rfl (g1)) ?_ )
          | (refine gk 5 rfl ?_; first | refine sl_box rfl rfl rfl rfl rfl rfl (fun β => ?_) )
          | refine sl_region rfl ?_
          | refine sl_nil ?_
          | refine thn_k ?_
          | refine swp_false rfl ?_
          | refine swp_ret ?_
          | refine swp_skip ?_
          )
        exact end_retL [J, emp] (resOk_one (resV_tmp rfl)) ⟨[emp], rfl, emp, _, _, rfl, rfl, OS.nil⟩
      · by_cases hM : max a ((k : Int) + 1) ∈ S
        · rw [decide_eq_true hM] at g2
          rw [if_pos ⟨hab, hM⟩] at e
          rw [e]
          refine t_of_body Try.func25 rfl (Nat.le_of_ble_eq_true rfl) fun F => ?_
          refine swp_emp ?_
          repeat' (first
            | refine swp_seq ?_
            | (refine gk 0 rfl ?_; first | refine sl_op rfl rfl rfl (by first | exact opv_move rfl rfl | exact opv_assign rfl rfl | exact opv_pick_t rfl rfl rfl | exact opv_pick_f rfl rfl rfl ) ?_ )
            | (refine gk 1 rfl ?_; first | refine sl_op rfl rfl rfl (by first | exact opv_add64 rfl rfl rfl (by omega) (by omega) ) ?_ )
            | (refine gk 2 rfl ?_; first | refine sl_yes rfl rfl rfl (by first | exact opv_lss rfl rfl rfl | exact opv_geq rfl rfl rfl | exact opv_neq rfl rfl rfl) (by first | omega ) ?_ | refine sl_no rfl rfl rfl (by first | exact opv_lss rfl rfl rfl | exact opv_geq rfl rfl rfl ) (by first | omega ) ?_ )
            | (refine gk 3 rfl ?_; first | refine sl_op rfl rfl rfl (by first | exact opv_load rfl (by exact rfl) rfl (by exact rfl) | exact opv_fieldAddr rfl rfl | exact opv_loadA rfl (by exact rfl) rfl (by exact rfl) (by exact rfl) | exact opv_indexAddrI rfl rfl rfl (by omega) (by omega) (by first | omega ) | exact opv_fieldAddrE rfl rfl (by first | assumption ) | exact opv_loadEx rfl (by exact rfl) (by infer_instance) (by first | assumption ) ) ?_ )
            | (refine gk 4 rfl ?_; first | refine sl_op rfl rfl rfl (by first | exact opv_len rfl rfl rfl rfl rfl | exact opv_min rfl rfl rfl rfl rfl | exact opv_max rfl rfl rfl rfl rfl) ?_ | refine sl_op rfl rfl rfl (opv_call rfl rfl rfl rfl rfl (g1)) ?_ | refine sl_op rfl rfl rfl (opv_call rfl rfl rfl rfl rfl (g2)) ?_ | (refine sl_append rfl rfl rfl rfl rfl rfl rfl rfl rfl OS.nil (by decide) rfl (by decide) rfl (by omega) (by omega) (fun h1 b1 c1 os1 => ?_)))
            | (refine gk 5 rfl ?_; first | refine sl_buildSlice rfl rfl rfl rfl rfl (by exact rfl) (by exact rfl) (by exact rfl) (by exact rfl) rfl (fun b => ?_) | refine sl_box rfl rfl rfl rfl rfl rfl (fun β => ?_) )
            | refine sl_region rfl ?_
            | refine sl_nil ?_
            | refine thn_k ?_
            | refine swp_true rfl ?_
            | refine swp_false rfl ?_
            | refine swp_ret ?_
            | refine swp_skip ?_
            )
          exact end_retL [J, h1] (resOk_one (resV_tmp rfl)) ⟨[h1], rfl, h1, _, _, rfl, rfl, os1⟩
        · rw [decide_eq_false hM] at g2
          rw [if_neg (fun h => hM h.2)] at e
          rw [e]
          refine t_of_body Try.func25 rfl (Nat.le_of_ble_eq_true rfl) fun F => ?_
          refine swp_emp ?_
          repeat' (first
            | refine swp_seq ?_
            | (refine gk 0 rfl ?_; first | refine sl_op rfl rfl rfl (by first | exact opv_move rfl rfl | exact opv_assign rfl rfl | exact opv_pick_t rfl rfl rfl | exact opv_pick_f rfl rfl rfl ) ?_ )
            | (refine gk 1 rfl ?_; first | refine sl_op rfl rfl rfl (by first | exact opv_add64 rfl rfl rfl (by omega) (by omega) ) ?_ )
            | (refine gk 2 rfl ?_; first | refine sl_yes rfl rfl rfl (by first | exact opv_lss rfl rfl rfl | exact opv_geq rfl rfl rfl | exact opv_neq rfl rfl rfl) (by first | omega ) ?_ | refine sl_no rfl rfl rfl (by first | exact opv_lss rfl rfl rfl | exact opv_geq rfl rfl rfl ) (by first | omega ) ?_ )
            | (refine gk 3 rfl ?_; first | refine sl_op rfl rfl rfl (by first | exact opv_load rfl (by exact rfl) rfl (by exact rfl) | exact opv_fieldAddr rfl rfl | exact opv_loadA rfl (by exact rfl) rfl (by exact rfl) (by exact rfl) | exact opv_indexAddrI rfl rfl rfl (by omega) (by omega) (by first | omega ) | exact opv_fieldAddrE rfl rfl (by first | assumption ) | exact opv_loadEx rfl (by exact rfl) (by infer_instance) (by first | assumption ) ) ?_ )
            | (refine gk 4 rfl ?_; first | refine sl_op rfl rfl rfl (by first | exact opv_len rfl rfl rfl rfl rfl | exact opv_min rfl rfl rfl rfl rfl | exact opv_max rfl rfl rfl rfl rfl) ?_ | refine sl_op rfl rfl rfl (opv_call rfl rfl rfl rfl rfl (g1)) ?_ | refine sl_op rfl rfl rfl (opv_call rfl rfl rfl rfl rfl (g2)) ?_)
            | (refine gk 5 rfl ?_; first | refine sl_box rfl rfl rfl rfl rfl rfl (fun β => ?_) )
            | refine sl_region rfl ?_
            | refine sl_nil ?_
            | refine thn_k ?_
            | refine swp_false rfl ?_
            | refine swp_ret ?_
            | refine swp_skip ?_
            )
          exact end_retL [J, emp] (resOk_one (resV_tmp rfl)) ⟨[emp], rfl, emp, _, _, rfl, rfl, OS.nil⟩
  · rw [nxt_no (by rw [hl]; exact hat)]
    refine t_of_body Try.func25 rfl (Nat.le_of_ble_eq_true rfl) fun F => ?_
    refine swp_emp ?_
    repeat' (first
      | refine swp_seq ?_
      | (refine gk 0 rfl ?_; first | refine sl_op rfl rfl rfl (by first | exact opv_move rfl rfl | exact opv_assign rfl rfl | exact opv_pick_t rfl rfl rfl | exact opv_pick_f rfl rfl rfl ) ?_ | refine sl_pass rfl rfl rfl rfl ?_)
      | (refine gk 2 rfl ?_; first | refine sl_pass rfl rfl rfl rfl ?_ | refine sl_yes rfl rfl rfl (by first | exact opv_lss rfl rfl rfl | exact opv_geq rfl rfl rfl ) (by first | omega ) ?_ | refine sl_if rfl rfl rfl (by first | exact opv_lss rfl rfl rfl ) (fun h => ?_) (fun h => ?_) )
      | (refine gk 3 rfl ?_; first | refine sl_op rfl rfl rfl (by first | exact opv_load rfl (by exact rfl) rfl (by exact rfl) | exact opv_fieldAddr rfl rfl ) ?_ | refine sl_pass rfl rfl rfl rfl ?_)
      | (refine gk 4 rfl ?_; first | refine sl_pass rfl rfl rfl rfl ?_ | refine sl_op rfl rfl rfl (by first | exact opv_len rfl rfl rfl rfl rfl ) ?_)
      | (refine gk 5 rfl ?_; first | refine sl_box rfl rfl rfl rfl rfl rfl (fun β => ?_) )
      | refine sl_region rfl ?_
      | refine sl_nil ?_
      | refine thn_k ?_
      | refine swp_true rfl ?_
      | refine swp_ret ?_
      | refine thn_ret ?_
      )
    all_goals first | (exfalso; omega) | exact end_retL [J, emp] (resOk_one (resV_tmp rfl)) ⟨[emp], rfl, emp, _, _, rfl, rfl, OS.nil⟩
theorem rNext_W (own : List Heap) (p : Value) (lo st : Int) (cb : Option Addr) (cl cc : Nat) (cs : List Ins) (at_ : Int) [s : SlIn own cb (flatI cs)] (hl : cs.length = cl) (hsm : cl ≤ 4000000) :
    SL.T Try.prog 25 [mth p lo st cb cl cc, i64 at_] own fun e o => ∃ N, o = own ++ N ∧ ∃ h b c, e = .returned (.slice b (nxt cs at_).length c) ∧ N = [h] ∧ OS h b (nxt cs at_).length c 3 1 ((nxt cs at_).map i64) :=
  T_whole fun J hJ => by
    haveI := s.all hJ
    exact rNext_calls J p lo st cb cl cc cs at_ hl hsm
/-! The first that goes off. -/
def bad (cs : List Ins) (k : Nat) : Bool := (nxt cs (k : Int)).any fun t => !inC cs.length t
def off (cs : List Ins) : Int := match (List.range cs.length).find? (bad cs) with
  | some k => (k : Int)
  | none => if cs.length = 0 then 0 else -1
theorem off_at {cs : List Ins} {k : Nat} (hk : k < cs.length) (h1 : ∀ j < k, bad cs j = false) (h2 : bad cs k = true) : off cs = k := by
  have : (List.range cs.length).find? (bad cs) = some k := by
    rw [List.find?_range_eq_some]
    exact ⟨h2, by simpa using hk, fun j hj => by simpa using h1 j hj⟩
  rw [off, this]
theorem off_none {cs : List Ins} (h1 : ∀ j < cs.length, bad cs j = false) : off cs = if cs.length = 0 then 0 else -1 := by
  have : (List.range cs.length).find? (bad cs) = none := by
    rw [List.find?_range_eq_none]; exact fun j hj => by simpa using h1 j hj
  rw [off, this]
end Go.Proofs.Ytifhhfeibnpaoaa
