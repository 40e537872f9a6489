/- For which local an instruction asks: the document's answer. -/
import Derived.Test.YtifhhfeibnpaoaaWA3
namespace Go.Proofs.Ytifhhfeibnpaoaa
open Go.SL
set_option maxRecDepth 100000
set_option maxHeartbeats 16000000
attribute [local irreducible] SL.T PFn OpV SOL SWP HOp ChU
theorem Leader_P (own : List Heap) (p : Value) (lo st : Int) (cb : Option Addr) (cl cc : Nat) (cs : List Ins) (at_ : Int) {b : Bool} (hb : decide (at_ ∈ leads cs) = b) [s : SlIn own cb (flatI cs)] (hl : cs.length = cl) (hsm : cl ≤ 4000000) : PFn Try.prog 31 [mth p lo st cb cl cc, i64 at_] own (.bool b) :=
  P_whole fun J hJ => by
    haveI := s.all hJ
    rw [← hb]
    exact Leader_calls J p lo st cb cl cc cs at_ hl hsm
theorem rAsks_calls (J : Heap) (p : Value) (lo st : Int) (cb : Option Addr) (cl cc : Nat) (cs : List Ins) (z : Int) [Sl J cb (flatI cs)] (hl : cs.length = cl) (hsm : cl ≤ 1000000) :
    PFn Try.prog 11 [mth p lo st cb cl cc, i64 z] [J] (askV (askO cs z)) := by
  by_cases hz : 1 ≤ z ∧ z < cl
  · obtain ⟨k, rfl⟩ : ∃ k : Nat, z = ((k + 1 : Nat) : Int) := ⟨(z - 1).toNat, by omega⟩
    obtain ⟨⟨op, a, b⟩, hx⟩ : ∃ x, cs[k + 1]? = some x := ⟨_, List.getElem?_eq_getElem (by omega)⟩
    obtain ⟨⟨op0, a0, b0⟩, hx0⟩ : ∃ x, cs[k]? = some x := ⟨_, List.getElem?_eq_getElem (by omega)⟩
    rw [askO_at hx hx0]
    obtain ⟨c0, c1, c2⟩ := flatI_at hx
    have c0 : (flatI cs)[((k + 1 : Nat) : Int).toNat * 3]? = some (i64 op) := c0
    obtain ⟨d0, d1, d2⟩ := flatI_at hx0
    have ek : (((k + 1 : Nat) : Int) - 1).toNat = k := by omega
    have d0 : (flatI cs)[(((k + 1 : Nat) : Int) - 1).toNat * 3]? = some (i64 op0) := by rw [ek]; exact d0
    have d1 : (flatI cs)[(((k + 1 : Nat) : Int) - 1).toNat * 3 + 1]? = some (i64 a0) := by rw [ek]; exact d1
    have hfl := flatI_length cs
    have hq : ((k + 1 : Nat) : Int).toNat * 3 < (flatI cs).length := by rw [hfl]; omega
    have hq0 : (((k + 1 : Nat) : Int) - 1).toNat * 3 < (flatI cs).length := by rw [hfl]; omega
    have hll := leads_length cs
    have hle := leads_le cs
    refine pure_of_body Try.func11 rfl (Nat.le_of_ble_eq_true rfl) fun F => ?_
    by_cases h5 : five op
    · by_cases hm : ((k + 1 : Nat) : Int) ∈ leads cs
      · have hb := decide_eq_true hm
        repeat' (first
          | refine swp_seq ?_
          | (refine gk 0 rfl ?_; first | refine sl_op rfl rfl rfl (by first | exact opv_move rfl rfl | exact opv_assign rfl rfl | exact opv_pick_t rfl rfl rfl | exact opv_pick_f rfl rfl rfl | exact opv_not_t rfl rfl ) ?_ | refine sl_pass rfl rfl rfl rfl ?_)
          | (refine gk 1 rfl ?_; first | refine sl_pass rfl rfl rfl rfl ?_)
          | (refine gk 2 rfl ?_; first | refine sl_pass rfl rfl rfl rfl ?_ | refine sl_no rfl rfl rfl (by first | exact opv_lss rfl rfl rfl | exact opv_geq rfl rfl rfl ) (by first | omega ) ?_ )
          | (refine gk 3 rfl ?_; first | refine sl_op rfl rfl rfl (by first | exact opv_load rfl (by exact rfl) rfl (by exact rfl) | exact opv_fieldAddr rfl rfl | exact opv_loadA rfl (by exact rfl) rfl (by exact rfl) (by exact rfl) | exact opv_indexAddrI rfl rfl rfl (by omega) (by omega) (by first | omega ) | exact opv_fieldAddrE rfl rfl (by first | assumption ) | exact opv_loadEx rfl (by exact rfl) (by infer_instance) (by first | assumption ) ) ?_ | refine sl_pass rfl rfl rfl rfl ?_)
          | (refine gk 4 rfl ?_; first | refine sl_op rfl rfl rfl (by first | exact opv_len rfl rfl rfl rfl rfl ) ?_ | refine sl_yes rfl rfl rfl (opv_call rfl rfl rfl rfl rfl (Five_calls _)) (by first | omega ) ?_ | refine sl_op rfl rfl rfl (opv_callW rfl rfl rfl rfl rfl (Leader_P _ _ _ _ _ _ _ cs _ hb (by assumption) (by omega))) ?_)
          | (refine gk 5 rfl ?_; first | refine sl_box rfl rfl rfl rfl rfl rfl (fun β => ?_) )
          | refine sl_region rfl ?_
          | refine sl_nil ?_
          | refine thn_k ?_
          | refine swp_true rfl ?_
          | refine swp_ret ?_
          | refine thn_ret ?_
          )
        exact end_retL [J] (resOk_two (resV_tmp rfl) (resV_tmp rfl)) ⟨by rw [if_neg fun h => h.2.1 hm]; rfl, rfl⟩
      · have hb := decide_eq_false hm
        by_cases h2 : op0 = 2
        · repeat' (first
            | refine swp_seq ?_
            | (refine gk 0 rfl ?_; first | refine sl_op rfl rfl rfl (by first | exact opv_move rfl rfl | exact opv_assign rfl rfl | exact opv_pick_f rfl rfl rfl | exact opv_not_t rfl rfl ) ?_ )
            | (refine gk 1 rfl ?_; first | refine sl_op rfl rfl rfl (by first | exact opv_sub64 rfl rfl rfl (by omega) (by omega) ) ?_ )
            | (refine gk 2 rfl ?_; first | refine sl_no rfl rfl rfl (by first | exact opv_lss rfl rfl rfl | exact opv_geq rfl rfl rfl | exact opv_neq rfl rfl rfl) (by first | omega ) ?_ )
            | (refine gk 3 rfl ?_; first | refine sl_op rfl rfl rfl (by first | exact opv_load rfl (by exact rfl) rfl (by exact rfl) | exact opv_fieldAddr rfl rfl | exact opv_loadA rfl (by exact rfl) rfl (by exact rfl) (by exact rfl) | exact opv_indexAddrI rfl rfl rfl (by omega) (by omega) (by first | omega ) | exact opv_fieldAddrE rfl rfl (by first | assumption ) | exact opv_loadEx rfl (by exact rfl) (by infer_instance) (by first | assumption ) ) ?_ )
            | (refine gk 4 rfl ?_; first | refine sl_op rfl rfl rfl (by first | exact opv_len rfl rfl rfl rfl rfl ) ?_ | refine sl_yes rfl rfl rfl (opv_call rfl rfl rfl rfl rfl (Five_calls _)) (by first | omega ) ?_ | refine sl_op rfl rfl rfl (opv_callW rfl rfl rfl rfl rfl (Leader_P _ _ _ _ _ _ _ cs _ hb (by assumption) (by omega))) ?_)
            | (refine gk 5 rfl ?_; first | refine sl_box rfl rfl rfl rfl rfl rfl (fun β => ?_) )
            | refine sl_region rfl ?_
            | refine sl_nil ?_
            | refine thn_k ?_
            | refine swp_false rfl ?_
            | refine swp_ret ?_
            | refine swp_skip ?_
            )
          exact end_retL [J] (resOk_two (resV_tmp rfl) (resV_tmp rfl)) ⟨by rw [if_pos ⟨h5, hm, h2⟩]; rfl, rfl⟩
        · repeat' (first
            | refine swp_seq ?_
            | (refine gk 0 rfl ?_; first | refine sl_op rfl rfl rfl (by first | exact opv_move rfl rfl | exact opv_assign rfl rfl | exact opv_pick_f rfl rfl rfl | exact opv_not_t rfl rfl ) ?_ )
            | (refine gk 1 rfl ?_; first | refine sl_op rfl rfl rfl (by first | exact opv_sub64 rfl rfl rfl (by omega) (by omega) ) ?_ )
            | (refine gk 2 rfl ?_; first | refine sl_yes rfl rfl rfl (by first | exact opv_lss rfl rfl rfl | exact opv_geq rfl rfl rfl | exact opv_neq rfl rfl rfl) (by first | omega ) ?_ | refine sl_no rfl rfl rfl (by first | exact opv_lss rfl rfl rfl | exact opv_geq rfl rfl rfl ) (by first | omega ) ?_ )
            | (refine gk 3 rfl ?_; first | refine sl_op rfl rfl rfl (by first | exact opv_load rfl (by exact rfl) rfl (by exact rfl) | exact opv_fieldAddr rfl rfl | exact opv_loadA rfl (by exact rfl) rfl (by exact rfl) (by exact rfl) | exact opv_indexAddrI rfl rfl rfl (by omega) (by omega) (by first | omega ) | exact opv_fieldAddrE rfl rfl (by first | assumption ) | exact opv_loadEx rfl (by exact rfl) (by infer_instance) (by first | assumption ) ) ?_ )
            | (refine gk 4 rfl ?_; first | refine sl_op rfl rfl rfl (by first | exact opv_len rfl rfl rfl rfl rfl ) ?_ | refine sl_yes rfl rfl rfl (opv_call rfl rfl rfl rfl rfl (Five_calls _)) (by first | omega ) ?_ | refine sl_op rfl rfl rfl (opv_callW rfl rfl rfl rfl rfl (Leader_P _ _ _ _ _ _ _ cs _ hb (by assumption) (by omega))) ?_)
            | (refine gk 5 rfl ?_; first | refine sl_box rfl rfl rfl rfl rfl rfl (fun β => ?_) )
            | refine sl_region rfl ?_
            | refine sl_nil ?_
            | refine thn_k ?_
            | refine swp_true rfl ?_
            | refine swp_ret ?_
            | refine thn_ret ?_
            )
          exact end_retL [J] (resOk_two (resV_tmp rfl) (resV_tmp rfl)) ⟨by rw [if_neg fun h => h2 h.2.2]; rfl, rfl⟩
    · repeat' (first
        | refine swp_seq ?_
        | (refine gk 0 rfl ?_; first | refine sl_op rfl rfl rfl (by first | exact opv_move rfl rfl | exact opv_assign rfl rfl | exact opv_pick_t rfl rfl rfl | exact opv_pick_f rfl rfl rfl | exact opv_not_f rfl rfl ) ?_ | refine sl_pass rfl rfl rfl rfl ?_)
        | (refine gk 1 rfl ?_; first | refine sl_pass rfl rfl rfl rfl ?_)
        | (refine gk 2 rfl ?_; first | refine sl_pass rfl rfl rfl rfl ?_ | refine sl_no rfl rfl rfl (by first | exact opv_lss rfl rfl rfl | exact opv_geq rfl rfl rfl ) (by first | omega ) ?_ )
        | (refine gk 3 rfl ?_; first | refine sl_op rfl rfl rfl (by first | exact opv_load rfl (by exact rfl) rfl (by exact rfl) | exact opv_fieldAddr rfl rfl | exact opv_loadA rfl (by exact rfl) rfl (by exact rfl) (by exact rfl) | exact opv_indexAddrI rfl rfl rfl (by omega) (by omega) (by first | omega ) | exact opv_fieldAddrE rfl rfl (by first | assumption ) | exact opv_loadEx rfl (by exact rfl) (by infer_instance) (by first | assumption ) ) ?_ | refine sl_pass rfl rfl rfl rfl ?_)
        | (refine gk 4 rfl ?_; first | refine sl_pass rfl rfl rfl rfl ?_ | refine sl_op rfl rfl rfl (by first | exact opv_len rfl rfl rfl rfl rfl ) ?_ | refine sl_no rfl rfl rfl (opv_call rfl rfl rfl rfl rfl (Five_calls _)) (by first | omega ) ?_ )
        | (refine gk 5 rfl ?_; first | refine sl_box rfl rfl rfl rfl rfl rfl (fun β => ?_) )
        | refine sl_region rfl ?_
        | refine sl_nil ?_
        | refine thn_k ?_
        | refine swp_true rfl ?_
        | refine swp_ret ?_
        | refine thn_ret ?_
        )
      exact end_retL [J] (resOk_two (resV_tmp rfl) (resV_tmp rfl)) ⟨by rw [if_neg fun h => h5 h.1]; rfl, rfl⟩
  · rw [askO_none (by rw [hl]; exact hz)]
    refine pure_of_body Try.func11 rfl (Nat.le_of_ble_eq_true rfl) fun F => ?_
    repeat' (first
      | refine swp_seq ?_
      | (refine gk 0 rfl ?_; first | refine sl_op rfl rfl rfl (by first | exact opv_move rfl rfl | exact opv_assign rfl rfl | exact opv_pick_t rfl rfl rfl | exact opv_pick_f rfl rfl rfl ) ?_ | refine sl_pass rfl rfl rfl rfl ?_)
      | (refine gk 1 rfl ?_; first | refine sl_pass rfl rfl rfl rfl ?_)
      | (refine gk 2 rfl ?_; first | refine sl_pass rfl rfl rfl rfl ?_ | refine sl_yes rfl rfl rfl (by first | exact opv_lss rfl rfl rfl | exact opv_geq rfl rfl rfl ) (by first | omega ) ?_ | refine sl_if rfl rfl rfl (by first | exact opv_lss rfl rfl rfl ) (fun h => ?_) (fun h => ?_) )
      | (refine gk 3 rfl ?_; first | refine sl_op rfl rfl rfl (by first | exact opv_load rfl (by exact rfl) rfl (by exact rfl) | exact opv_fieldAddr rfl rfl | exact opv_loadA rfl (by exact rfl) rfl (by exact rfl) (by exact rfl) ) ?_ | refine sl_pass rfl rfl rfl rfl ?_)
      | (refine gk 4 rfl ?_; first | refine sl_pass rfl rfl rfl rfl ?_ | refine sl_op rfl rfl rfl (by first | exact opv_len rfl rfl rfl rfl rfl ) ?_)
      | (refine gk 5 rfl ?_; first | refine sl_box rfl rfl rfl rfl rfl rfl (fun β => ?_) )
      | refine sl_region rfl ?_
      | refine sl_nil ?_
      | refine thn_k ?_
      | refine swp_true rfl ?_
      | refine swp_ret ?_
      | refine thn_ret ?_
      )
    all_goals first | (exfalso; omega) | exact end_retL [J] (resOk_two (resV_tmp rfl) (resV_tmp rfl)) ⟨rfl, rfl⟩
end Go.Proofs.Ytifhhfeibnpaoaa
