/- For which local an instruction asks. -/
import Derived.Test.YtifhhfeibnpaoaaWA2
namespace Go.Proofs.Ytifhhfeibnpaoaa
open Go.SL
set_option maxRecDepth 100000
set_option maxHeartbeats 16000000
attribute [local irreducible] SL.T PFn OpV SOL SWP HOp ChU
/-- The local for which an instruction asks. -/
def askO (cs : List Ins) (z : Int) : Option Int :=
  if 1 ≤ z ∧ z < cs.length ∧ five (cs.getD z.toNat (0, 0, 0)).1 ∧ z ∉ leads cs ∧ (cs.getD (z - 1).toNat (0, 0, 0)).1 = 2 then some (cs.getD (z - 1).toNat (0, 0, 0)).2.1 else none
abbrev askV (o : Option Int) : Value := .tuple ⟨[i64 (o.getD 0), .bool o.isSome]⟩
theorem askO_none {cs : List Ins} {z : Int} (h : ¬(1 ≤ z ∧ z < cs.length)) : askO cs z = none := if_neg fun ⟨a, b, _⟩ => h ⟨a, b⟩
theorem askO_at {cs : List Ins} {k : Nat} {op a b op0 a0 b0 : Int} (h : cs[k + 1]? = some (op, a, b)) (h0 : cs[k]? = some (op0, a0, b0)) :
    askO cs ((k + 1 : Nat) : Int) = if five op ∧ ((k + 1 : Nat) : Int) ∉ leads cs ∧ op0 = 2 then some a0 else none := by
  have hl := (List.getElem?_eq_some_iff.1 h).1
  unfold askO
  have e1 : (((k + 1 : Nat) : Int)).toNat = k + 1 := by omega
  have e2 : (((k + 1 : Nat) : Int) - 1).toNat = k := by omega
  rw [e1, e2, List.getD_eq_getElem?_getD, List.getD_eq_getElem?_getD, h, h0]
  have p1 : (1 : Int) ≤ ((k + 1 : Nat) : Int) := by omega
  have p2 : ((k + 1 : Nat) : Int) < cs.length := by omega
  simp only [p1, p2, true_and, Option.getD_some]
theorem leads_le (cs : List Ins) : (leads cs).Pairwise (· ≤ ·) := (leads_sorted cs).imp fun h => by omega
theorem Search_b (own : List Heap) (b : Option Addr) (n c : Nat) (xs : List Int) (v : Int) [SlIn own b (xs.map i64)] (h1 : xs.length = n) (hsm : n ≤ 4000000) (hs : xs.Pairwise (· ≤ ·)) {bb : Bool} (hb : decide (v ∈ xs) = bb) :
    PFn Try.prog 28 [.slice b n c, i64 v] own (.tuple ⟨[i64 (xs.countP (· < v) : Nat), .bool bb]⟩) := by
  rw [← hb]; exact Search_calls own b n c xs v h1 hsm hs
theorem Asks_calls (J : Heap) (p : Value) (lo st : Int) (cb : Option Addr) (cl cc : Nat) (cs : List Ins) (z : Int) [Sl J cb (flatI cs)] (hl : cs.length = cl) (hsm : cl ≤ 1000000) :
    PFn Try.prog 10 [mth p lo st cb cl cc, i64 z] [J] (askV (askO cs z)) := by
  by_cases hz : 1 ≤ z ∧ z < cl
  · obtain ⟨k, rfl⟩ : ∃ k : Nat, z = ((k + 1 : Nat) : Int) := ⟨(z - 1).toNat, by omega⟩
    obtain ⟨⟨op, a, b⟩, hx⟩ : ∃ x, cs[k + 1]? = some x := ⟨_, List.getElem?_eq_getElem (by omega)⟩
    obtain ⟨⟨op0, a0, b0⟩, hx0⟩ : ∃ x, cs[k]? = some x := ⟨_, List.getElem?_eq_getElem (by omega)⟩
    rw [askO_at hx hx0]
    obtain ⟨c0, c1, c2⟩ := flatI_at hx
    have c0 : (flatI cs)[((k + 1 : Nat) : Int).toNat * 3]? = some (i64 op) := c0
    obtain ⟨d0, d1, d2⟩ := flatI_at hx0
    have ek : (((k + 1 : Nat) : Int) - 1).toNat = k := by omega
    have d0 : (flatI cs)[(((k + 1 : Nat) : Int) - 1).toNat * 3]? = some (i64 op0) := by rw [ek]; exact d0
    have d1 : (flatI cs)[(((k + 1 : Nat) : Int) - 1).toNat * 3 + 1]? = some (i64 a0) := by rw [ek]; exact d1
    have hfl := flatI_length cs
    have hq : ((k + 1 : Nat) : Int).toNat * 3 < (flatI cs).length := by rw [hfl]; omega
    have hq0 : (((k + 1 : Nat) : Int) - 1).toNat * 3 < (flatI cs).length := by rw [hfl]; omega
    have hll := leads_length cs
    have hle := leads_le cs
    refine pure_of_body Try.func10 rfl (Nat.le_of_ble_eq_true rfl) fun F => ?_
    by_cases h5 : five op
    · by_cases h2 : op0 = 2
      · by_cases hm : ((k + 1 : Nat) : Int) ∈ leads cs
        · have hb := decide_eq_true hm
          repeat' (first
            | refine swp_seq ?_
            | (refine gk 0 rfl ?_; first | refine sl_op rfl rfl rfl (by first | exact opv_move rfl rfl | exact opv_assign rfl rfl | exact opv_pick_f rfl rfl rfl | exact opv_not_t rfl rfl | exact opv_extract rfl rfl rfl ) ?_ )
            | (refine gk 1 rfl ?_; first | refine sl_op rfl rfl rfl (by first | exact opv_sub64 rfl rfl rfl (by omega) (by omega) ) ?_ )
            | (refine gk 2 rfl ?_; first | refine sl_no rfl rfl rfl (by first | exact opv_lss rfl rfl rfl | exact opv_geq rfl rfl rfl | exact opv_neq rfl rfl rfl) (by first | omega ) ?_ )
            | (refine gk 3 rfl ?_; first | refine sl_op rfl rfl rfl (by first | exact opv_load rfl (by exact rfl) rfl (by exact rfl) | exact opv_fieldAddr rfl rfl | exact opv_loadA rfl (by exact rfl) rfl (by exact rfl) (by exact rfl) | exact opv_indexAddrI rfl rfl rfl (by omega) (by omega) (by first | omega ) | exact opv_fieldAddrE rfl rfl (by first | assumption ) | exact opv_loadEx rfl (by exact rfl) (by infer_instance) (by first | assumption ) ) ?_ )
            | (refine gk 4 rfl ?_; first | refine sl_op rfl rfl rfl (by first | exact opv_len rfl rfl rfl rfl rfl ) ?_ | refine sl_yes rfl rfl rfl (opv_call rfl rfl rfl rfl rfl (asking_calls _)) (by first | omega ) ?_ | (refine sl_callW rfl rfl rfl rfl rfl rfl rfl rfl (Leaders_W _ _ _ _ _ _ _ cs (by assumption) (by omega)) ?_; rintro _ _ ⟨hL, bL, cL, rfl, rfl, osL⟩; haveI slL := osL.sl; refine ⟨_, _, rfl, rfl, ?_⟩) | refine sl_op rfl rfl rfl (opv_callW rfl rfl rfl rfl rfl (Search_b _ _ _ _ (leads cs) _ rfl (by omega) (by assumption) hb)) ?_)
            | (refine gk 5 rfl ?_; first | refine sl_box rfl rfl rfl rfl rfl rfl (fun β => ?_) )
            | refine sl_region rfl ?_
            | refine sl_nil ?_
            | refine thn_k ?_
            | refine swp_true rfl ?_
            | refine swp_false rfl ?_
            | refine swp_ret ?_
            | refine swp_skip ?_
            | refine thn_ret ?_
            )
          exact end_retL [J] (resOk_two (resV_tmp rfl) (resV_tmp rfl)) ⟨by rw [if_neg fun h => h.2.1 hm]; rfl, rfl⟩
        · have hb := decide_eq_false hm
          repeat' (first
            | refine swp_seq ?_
            | (refine gk 0 rfl ?_; first | refine sl_op rfl rfl rfl (by first | exact opv_move rfl rfl | exact opv_assign rfl rfl | exact opv_pick_f rfl rfl rfl | exact opv_not_t rfl rfl | exact opv_extract rfl rfl rfl ) ?_ )
            | (refine gk 1 rfl ?_; first | refine sl_op rfl rfl rfl (by first | exact opv_sub64 rfl rfl rfl (by omega) (by omega) ) ?_ )
            | (refine gk 2 rfl ?_; first | refine sl_no rfl rfl rfl (by first | exact opv_lss rfl rfl rfl | exact opv_geq rfl rfl rfl | exact opv_neq rfl rfl rfl) (by first | omega ) ?_ )
            | (refine gk 3 rfl ?_; first | refine sl_op rfl rfl rfl (by first | exact opv_load rfl (by exact rfl) rfl (by exact rfl) | exact opv_fieldAddr rfl rfl | exact opv_loadA rfl (by exact rfl) rfl (by exact rfl) (by exact rfl) | exact opv_indexAddrI rfl rfl rfl (by omega) (by omega) (by first | omega ) | exact opv_fieldAddrE rfl rfl (by first | assumption ) | exact opv_loadEx rfl (by exact rfl) (by infer_instance) (by first | assumption ) ) ?_ )
            | (refine gk 4 rfl ?_; first | refine sl_op rfl rfl rfl (by first | exact opv_len rfl rfl rfl rfl rfl ) ?_ | refine sl_yes rfl rfl rfl (opv_call rfl rfl rfl rfl rfl (asking_calls _)) (by first | omega ) ?_ | (refine sl_callW rfl rfl rfl rfl rfl rfl rfl rfl (Leaders_W _ _ _ _ _ _ _ cs (by assumption) (by omega)) ?_; rintro _ _ ⟨hL, bL, cL, rfl, rfl, osL⟩; haveI slL := osL.sl; refine ⟨_, _, rfl, rfl, ?_⟩) | refine sl_op rfl rfl rfl (opv_callW rfl rfl rfl rfl rfl (Search_b _ _ _ _ (leads cs) _ rfl (by omega) (by assumption) hb)) ?_)
            | (refine gk 5 rfl ?_; first | refine sl_box rfl rfl rfl rfl rfl rfl (fun β => ?_) )
            | refine sl_region rfl ?_
            | refine sl_nil ?_
            | refine thn_k ?_
            | refine swp_false rfl ?_
            | refine swp_ret ?_
            | refine swp_skip ?_
            )
          exact end_retL [J] (resOk_two (resV_tmp rfl) (resV_tmp rfl)) ⟨by rw [if_pos ⟨h5, hm, h2⟩]; rfl, rfl⟩
      · repeat' (first
          | refine swp_seq ?_
          | (refine gk 0 rfl ?_; first | refine sl_op rfl rfl rfl (by first | exact opv_move rfl rfl | exact opv_assign rfl rfl | exact opv_pick_f rfl rfl rfl | exact opv_not_t rfl rfl ) ?_ )
          | (refine gk 1 rfl ?_; first | refine sl_op rfl rfl rfl (by first | exact opv_sub64 rfl rfl rfl (by omega) (by omega) ) ?_ )
          | (refine gk 2 rfl ?_; first | refine sl_yes rfl rfl rfl (by first | exact opv_lss rfl rfl rfl | exact opv_geq rfl rfl rfl | exact opv_neq rfl rfl rfl) (by first | omega ) ?_ | refine sl_no rfl rfl rfl (by first | exact opv_lss rfl rfl rfl | exact opv_geq rfl rfl rfl ) (by first | omega ) ?_ )
          | (refine gk 3 rfl ?_; first | refine sl_op rfl rfl rfl (by first | exact opv_load rfl (by exact rfl) rfl (by exact rfl) | exact opv_fieldAddr rfl rfl | exact opv_indexAddrI rfl rfl rfl (by omega) (by omega) (by first | omega ) | exact opv_fieldAddrE rfl rfl (by first | assumption ) | exact opv_loadEx rfl (by exact rfl) (by infer_instance) (by first | assumption ) ) ?_ )
          | (refine gk 4 rfl ?_; first | refine sl_op rfl rfl rfl (by first | exact opv_len rfl rfl rfl rfl rfl ) ?_ | refine sl_yes rfl rfl rfl (opv_call rfl rfl rfl rfl rfl (asking_calls _)) (by first | omega ) ?_ )
          | (refine gk 5 rfl ?_; first | refine sl_box rfl rfl rfl rfl rfl rfl (fun β => ?_) )
          | refine sl_region rfl ?_
          | refine sl_nil ?_
          | refine thn_k ?_
          | refine swp_true rfl ?_
          | refine swp_ret ?_
          | refine thn_ret ?_
          )
        exact end_retL [J] (resOk_two (resV_tmp rfl) (resV_tmp rfl)) ⟨by rw [if_neg fun h => h2 h.2.2]; rfl, rfl⟩
    · repeat' (first
        | refine swp_seq ?_
        | (refine gk 0 rfl ?_; first | refine sl_op rfl rfl rfl (by first | exact opv_move rfl rfl | exact opv_assign rfl rfl | exact opv_pick_t rfl rfl rfl | exact opv_pick_f rfl rfl rfl | exact opv_not_f rfl rfl ) ?_ | refine sl_pass rfl rfl rfl rfl ?_)
        | (refine gk 1 rfl ?_; first | refine sl_pass rfl rfl rfl rfl ?_)
        | (refine gk 2 rfl ?_; first | refine sl_pass rfl rfl rfl rfl ?_ | refine sl_no rfl rfl rfl (by first | exact opv_lss rfl rfl rfl | exact opv_geq rfl rfl rfl ) (by first | omega ) ?_ )
        | (refine gk 3 rfl ?_; first | refine sl_op rfl rfl rfl (by first | exact opv_load rfl (by exact rfl) rfl (by exact rfl) | exact opv_fieldAddr rfl rfl | exact opv_indexAddrI rfl rfl rfl (by omega) (by omega) (by first | omega ) | exact opv_fieldAddrE rfl rfl (by first | assumption ) | exact opv_loadEx rfl (by exact rfl) (by infer_instance) (by first | assumption ) ) ?_ | refine sl_pass rfl rfl rfl rfl ?_)
        | (refine gk 4 rfl ?_; first | refine sl_op rfl rfl rfl (by first | exact opv_len rfl rfl rfl rfl rfl ) ?_ | refine sl_no rfl rfl rfl (opv_call rfl rfl rfl rfl rfl (asking_calls _)) (by first | omega ) ?_ )
        | (refine gk 5 rfl ?_; first | refine sl_box rfl rfl rfl rfl rfl rfl (fun β => ?_) )
        | refine sl_region rfl ?_
        | refine sl_nil ?_
        | refine thn_k ?_
        | refine swp_true rfl ?_
        | refine swp_ret ?_
        | refine thn_ret ?_
        )
      exact end_retL [J] (resOk_two (resV_tmp rfl) (resV_tmp rfl)) ⟨by rw [if_neg fun h => h5 h.1]; rfl, rfl⟩
  · rw [askO_none (by rw [hl]; exact hz)]
    refine pure_of_body Try.func10 rfl (Nat.le_of_ble_eq_true rfl) fun F => ?_
    repeat' (first
      | refine swp_seq ?_
      | (refine gk 0 rfl ?_; first | refine sl_op rfl rfl rfl (by first | exact opv_move rfl rfl | exact opv_assign rfl rfl | exact opv_pick_t rfl rfl rfl | exact opv_pick_f rfl rfl rfl ) ?_ | refine sl_pass rfl rfl rfl rfl ?_)
      | (refine gk 1 rfl ?_; first | refine sl_pass rfl rfl rfl rfl ?_)
      | (refine gk 2 rfl ?_; first | refine sl_pass rfl rfl rfl rfl ?_ | refine sl_yes rfl rfl rfl (by first | exact opv_lss rfl rfl rfl | exact opv_geq rfl rfl rfl ) (by first | omega ) ?_ | refine sl_if rfl rfl rfl (by first | exact opv_lss rfl rfl rfl ) (fun h => ?_) (fun h => ?_) )
      | (refine gk 3 rfl ?_; first | refine sl_op rfl rfl rfl (by first | exact opv_load rfl (by exact rfl) rfl (by exact rfl) | exact opv_fieldAddr rfl rfl ) ?_ | refine sl_pass rfl rfl rfl rfl ?_)
      | (refine gk 4 rfl ?_; first | refine sl_pass rfl rfl rfl rfl ?_ | refine sl_op rfl rfl rfl (by first | exact opv_len rfl rfl rfl rfl rfl ) ?_)
      | (refine gk 5 rfl ?_; first | refine sl_box rfl rfl rfl rfl rfl rfl (fun β => ?_) )
      | refine sl_region rfl ?_
      | refine sl_nil ?_
      | refine thn_k ?_
      | refine swp_true rfl ?_
      | refine swp_ret ?_
      | refine thn_ret ?_
      )
    all_goals first | (exfalso; omega) | exact end_retL [J] (resOk_two (resV_tmp rfl) (resV_tmp rfl)) ⟨rfl, rfl⟩
end Go.Proofs.Ytifhhfeibnpaoaa
