/- Whether an image may be laid; bytes that are put one behind the other, walked. -/
import Derived.Test.YtjdjkcebflablaaDoorWB3
import Derived.Test.YtjdjkcebflablaaDoorSlGa
set_option linter.unusedVariables false
set_option linter.unusedSimpArgs false
set_option linter.unusedSectionVars false
namespace Go.Proofs.YtjdjkcebflablaaDoor
open Go.SL
set_option maxRecDepth 100000
set_option maxHeartbeats 16000000
attribute [local irreducible] SL.T PFn OpV SOL SWP HOp ChU
-- ALIAS Tryd
-- USE_L4
-- USE_L1
/-- May it be laid? -/
def mayF (x : Im) : Bool := decide ((x.cls.length : Int) ≤ 16) && (wi x.ms.length 1 32 && ((match x.ms[0]? with | some m => methodF m 0 x.cls.length | none => false) && (!x.cls.any (clno x.cls.length) && !x.ms.any (meno x.cls.length))))
theorem may_calls (J : Heap) (x : Im) (v : Value) (h : ImIn J x v) : PFn Tryd.prog 18 [v] [J] (.bool (mayF x)) := by
  obtain ⟨clb, cln, clc, mb, mn, mc, rfl, hc, hm, -, -⟩ := h
  have hcl : x.cls.length = cln := by obtain ⟨_, _, _, h, _⟩ := hc; exact h
  have hml : x.ms.length = mn := by obtain ⟨_, _, _, h, _⟩ := hm; exact h
  have hmn : mn ≤ 9223372036854775807 := by obtain ⟨_, _, _, _, h, _⟩ := hm; exact h
  have hC := fun β => containsC_calls J β cln clb cln clc x.cls hc
  have hM := fun β => containsM_calls J β cln mb mn mc x.ms hm
  have hw := within_calls (mn : Int) 1 32
  unfold mayF
  rw [hcl, hml]
  refine pure_of_body Tryd.func18 rfl (Nat.le_of_ble_eq_true rfl) fun F => ?_
  by_cases h1 : (cln : Int) ≤ 16
  · rw [decide_eq_true h1, Bool.true_and]
    cases e1 : wi (mn : Int) 1 32
    · rw [e1] at hw
      repeat' (first
        | refine swp_seq ?_
        | (refine gk 0 rfl ?_; first | refine sl_op rfl rfl rfl (by first | exact opv_move rfl rfl | exact opv_assign rfl rfl | exact opv_pick_t rfl rfl rfl | exact opv_pick_f rfl rfl rfl | exact opv_not_f rfl rfl ) ?_ | refine sl_pass rfl rfl rfl rfl ?_)
        | (refine gk 2 rfl ?_; first | refine sl_no rfl rfl rfl (by first | exact opv_gtr rfl rfl rfl ) (by first | omega ) ?_ )
        | (refine gk 3 rfl ?_; first | refine sl_op rfl rfl rfl (by first | exact opv_load rfl (by exact rfl) rfl (by exact rfl) | exact opv_fieldAddr rfl rfl ) ?_ | refine sl_pass rfl rfl rfl rfl ?_)
        | (refine gk 4 rfl ?_; first | refine sl_pass rfl rfl rfl rfl ?_ | refine sl_op rfl rfl rfl (by first | exact opv_len rfl rfl rfl rfl rfl ) ?_ | refine sl_op rfl rfl rfl (opv_call rfl rfl rfl rfl rfl (hw)) ?_)
        | (refine gk 5 rfl ?_; first | refine sl_box rfl rfl rfl rfl rfl rfl (fun β => ?_) | refine sl_alloc rfl rfl rfl rfl (by exact rfl) (fun β => ?_) | refine sl_store rfl rfl rfl rfl rfl rfl (by exact rfl) rfl (by exact rfl) ?_)
        | refine sl_region rfl ?_
        | refine sl_draw (by kernel_rfl) (by kernel_rfl) rfl ?_
        | refine sl_nil ?_
        | refine thn_k ?_
        | refine swp_true rfl ?_
        | refine swp_ret ?_
        | refine thn_ret ?_
        )
      refine end_pure (resOk_one (resV_tmp rfl)) ?_
      rfl
    · rw [e1] at hw
      have hpos : 0 < mn := by unfold wi at e1; simp at e1; omega
      obtain ⟨m, hm0⟩ : ∃ z, x.ms[0]? = some z := ⟨_, List.getElem?_eq_getElem (by omega)⟩
      obtain ⟨vals, sv, hvl, -, -, hf⟩ := hm
      obtain ⟨pb, pn, pc, cb, cn, cc, g1, g2, g3, g4, g5, g6, g7, g8, g9, g10, g11⟩ := hf 0 m hm0
      haveI := sv
      haveI := g5
      haveI := g8
      have hk : (0 : Int).toNat * 4 < vals.length := by simp; omega
      have hc0 : vals[(0 : Int).toNat * 4]? = some (.slice pb pn pc) := by simpa using g1
      have hc1 : vals[(0 : Int).toNat * 4 + 1]? = some (i64 m.lo) := by simpa using g2
      have hc2 : vals[(0 : Int).toNat * 4 + 2]? = some (i64 m.st) := by simpa using g3
      have hc3 : vals[(0 : Int).toNat * 4 + 3]? = some (.slice cb cn cc) := by simpa using g4
      have hr := method_calls J m pb cb pn pc cn cc 0 cln g6 g9 g7 g11
      rw [hm0]
      simp only [Bool.true_and]
      generalize methodF m 0 (cln : Int) = bm at *
      generalize x.cls.any (clno cln) = ba at *
      generalize x.ms.any (meno cln) = bb at *
      cases bm
      · repeat' (first
          | refine swp_seq ?_
          | (refine gk 0 rfl ?_; first | refine sl_op rfl rfl rfl (by first | exact opv_move rfl rfl | exact opv_assign rfl rfl | exact opv_pick_f rfl rfl rfl | exact opv_not_t rfl rfl | exact opv_not_f rfl rfl ) ?_ )
          | (refine gk 2 rfl ?_; first | refine sl_no rfl rfl rfl (by first | exact opv_gtr rfl rfl rfl ) (by first | omega ) ?_ )
          | (refine gk 3 rfl ?_; first | refine sl_op rfl rfl rfl (by first | exact opv_load rfl (by exact rfl) rfl (by exact rfl) | exact opv_fieldAddr rfl rfl | exact opv_indexAddrI rfl rfl rfl (by omega) (by omega) (by first | omega ) | exact opv_load4 rfl (by exact rfl) (by infer_instance) (by assumption) (by assumption) (by assumption) (by assumption) ) ?_ )
          | (refine gk 4 rfl ?_; first | refine sl_op rfl rfl rfl (by first | exact opv_len rfl rfl rfl rfl rfl ) ?_ | refine sl_op rfl rfl rfl (opv_call rfl rfl rfl rfl rfl (hw)) ?_ | refine sl_op rfl rfl rfl (opv_call rfl rfl rfl rfl rfl (hr)) ?_)
          | (refine gk 5 rfl ?_; first | refine sl_box rfl rfl rfl rfl rfl rfl (fun β => ?_) | refine sl_alloc rfl rfl rfl rfl (by exact rfl) (fun β => ?_) | refine sl_store rfl rfl rfl rfl rfl rfl (by exact rfl) rfl (by exact rfl) ?_)
          | refine sl_region rfl ?_
          | refine sl_draw (by kernel_rfl) (by kernel_rfl) rfl ?_
          | refine sl_nil ?_
          | refine thn_k ?_
          | refine swp_true rfl ?_
          | refine swp_ret ?_
          | refine thn_ret ?_
          )
        refine end_pure (resOk_one (resV_tmp rfl)) ?_
        rfl
      · cases ba
        · cases bb
          · repeat' (first
              | refine swp_seq ?_
              | (refine gk 0 rfl ?_; first | refine sl_op rfl rfl rfl (by first | exact opv_move rfl rfl | exact opv_assign rfl rfl | exact opv_pick_t rfl rfl rfl | exact opv_pick_f rfl rfl rfl | exact opv_not_t rfl rfl | exact opv_not_f rfl rfl | exact opv_makeFunc rfl rfl rfl) ?_ )
              | (refine gk 2 rfl ?_; first | refine sl_no rfl rfl rfl (by first | exact opv_gtr rfl rfl rfl ) (by first | omega ) ?_ )
              | (refine gk 3 rfl ?_; first | refine sl_op rfl rfl rfl (by first | exact opv_load rfl (by exact rfl) rfl (by exact rfl) | exact opv_fieldAddr rfl rfl | exact opv_indexAddrI rfl rfl rfl (by omega) (by omega) (by first | omega ) | exact opv_load4 rfl (by exact rfl) (by infer_instance) (by assumption) (by assumption) (by assumption) (by assumption) ) ?_ )
              | (refine gk 4 rfl ?_; first | refine sl_op rfl rfl rfl (by first | exact opv_len rfl rfl rfl rfl rfl ) ?_ | refine sl_op rfl rfl rfl (opv_call rfl rfl rfl rfl rfl (hw)) ?_ | refine sl_op rfl rfl rfl (opv_call rfl rfl rfl rfl rfl (hr)) ?_ | refine sl_op rfl rfl rfl (opv_call rfl rfl rfl rfl rfl (hC _)) ?_ | refine sl_op rfl rfl rfl (opv_call rfl rfl rfl rfl rfl (hM _)) ?_)
              | (refine gk 5 rfl ?_; first | refine sl_box rfl rfl rfl rfl rfl rfl (fun β => ?_) | refine sl_alloc rfl rfl rfl rfl (by exact rfl) (fun β => ?_) | refine sl_store rfl rfl rfl rfl rfl rfl (by exact rfl) rfl (by exact rfl) ?_)
              | refine sl_region rfl ?_
              | refine sl_draw (by kernel_rfl) (by kernel_rfl) rfl ?_
              | refine sl_nil ?_
              | refine thn_k ?_
              | refine swp_false rfl ?_
              | refine swp_ret ?_
              | refine swp_skip ?_
              )
            refine end_pure (resOk_one (resV_tmp rfl)) ?_
            rfl
          · repeat' (first
              | refine swp_seq ?_
              | (refine gk 0 rfl ?_; first | refine sl_op rfl rfl rfl (by first | exact opv_move rfl rfl | exact opv_assign rfl rfl | exact opv_pick_t rfl rfl rfl | exact opv_pick_f rfl rfl rfl | exact opv_not_t rfl rfl | exact opv_not_f rfl rfl | exact opv_makeFunc rfl rfl rfl) ?_ )
              | (refine gk 2 rfl ?_; first | refine sl_no rfl rfl rfl (by first | exact opv_gtr rfl rfl rfl ) (by first | omega ) ?_ )
              | (refine gk 3 rfl ?_; first | refine sl_op rfl rfl rfl (by first | exact opv_load rfl (by exact rfl) rfl (by exact rfl) | exact opv_fieldAddr rfl rfl | exact opv_indexAddrI rfl rfl rfl (by omega) (by omega) (by first | omega ) | exact opv_load4 rfl (by exact rfl) (by infer_instance) (by assumption) (by assumption) (by assumption) (by assumption) ) ?_ )
              | (refine gk 4 rfl ?_; first | refine sl_op rfl rfl rfl (by first | exact opv_len rfl rfl rfl rfl rfl ) ?_ | refine sl_op rfl rfl rfl (opv_call rfl rfl rfl rfl rfl (hw)) ?_ | refine sl_op rfl rfl rfl (opv_call rfl rfl rfl rfl rfl (hr)) ?_ | refine sl_op rfl rfl rfl (opv_call rfl rfl rfl rfl rfl (hC _)) ?_ | refine sl_op rfl rfl rfl (opv_call rfl rfl rfl rfl rfl (hM _)) ?_)
              | (refine gk 5 rfl ?_; first | refine sl_box rfl rfl rfl rfl rfl rfl (fun β => ?_) | refine sl_alloc rfl rfl rfl rfl (by exact rfl) (fun β => ?_) | refine sl_store rfl rfl rfl rfl rfl rfl (by exact rfl) rfl (by exact rfl) ?_)
              | refine sl_region rfl ?_
              | refine sl_draw (by kernel_rfl) (by kernel_rfl) rfl ?_
              | refine sl_nil ?_
              | refine thn_k ?_
              | refine swp_false rfl ?_
              | refine swp_ret ?_
              | refine swp_skip ?_
              )
            refine end_pure (resOk_one (resV_tmp rfl)) ?_
            rfl
        · repeat' (first
            | refine swp_seq ?_
            | (refine gk 0 rfl ?_; first | refine sl_op rfl rfl rfl (by first | exact opv_move rfl rfl | exact opv_assign rfl rfl | exact opv_pick_f rfl rfl rfl | exact opv_not_t rfl rfl | exact opv_makeFunc rfl rfl rfl) ?_ | refine sl_pass rfl rfl rfl rfl ?_)
            | (refine gk 2 rfl ?_; first | refine sl_no rfl rfl rfl (by first | exact opv_gtr rfl rfl rfl ) (by first | omega ) ?_ )
            | (refine gk 3 rfl ?_; first | refine sl_op rfl rfl rfl (by first | exact opv_load rfl (by exact rfl) rfl (by exact rfl) | exact opv_fieldAddr rfl rfl | exact opv_indexAddrI rfl rfl rfl (by omega) (by omega) (by first | omega ) | exact opv_load4 rfl (by exact rfl) (by infer_instance) (by assumption) (by assumption) (by assumption) (by assumption) ) ?_ | refine sl_pass rfl rfl rfl rfl ?_)
            | (refine gk 4 rfl ?_; first | refine sl_pass rfl rfl rfl rfl ?_ | refine sl_op rfl rfl rfl (by first | exact opv_len rfl rfl rfl rfl rfl ) ?_ | refine sl_op rfl rfl rfl (opv_call rfl rfl rfl rfl rfl (hw)) ?_ | refine sl_op rfl rfl rfl (opv_call rfl rfl rfl rfl rfl (hr)) ?_ | refine sl_op rfl rfl rfl (opv_call rfl rfl rfl rfl rfl (hC _)) ?_ )
            | (refine gk 5 rfl ?_; first | refine sl_box rfl rfl rfl rfl rfl rfl (fun β => ?_) | refine sl_alloc rfl rfl rfl rfl (by exact rfl) (fun β => ?_) | refine sl_store rfl rfl rfl rfl rfl rfl (by exact rfl) rfl (by exact rfl) ?_)
            | refine sl_region rfl ?_
            | refine sl_draw (by kernel_rfl) (by kernel_rfl) rfl ?_
            | refine sl_nil ?_
            | refine thn_k ?_
            | refine swp_false rfl ?_
            | refine swp_ret ?_
            | refine swp_skip ?_
            )
          refine end_pure (resOk_one (resV_tmp rfl)) ?_
          rfl
  · rw [decide_eq_false h1, Bool.false_and]
    repeat' (first
      | refine swp_seq ?_
      | (refine gk 0 rfl ?_; first | refine sl_op rfl rfl rfl (by first | exact opv_move rfl rfl | exact opv_assign rfl rfl | exact opv_pick_t rfl rfl rfl ) ?_ | refine sl_pass rfl rfl rfl rfl ?_)
      | (refine gk 2 rfl ?_; first | refine sl_yes rfl rfl rfl (by first | exact opv_gtr rfl rfl rfl ) (by first | omega ) ?_ )
      | (refine gk 3 rfl ?_; first | refine sl_op rfl rfl rfl (by first | exact opv_load rfl (by exact rfl) rfl (by exact rfl) | exact opv_fieldAddr rfl rfl ) ?_ | refine sl_pass rfl rfl rfl rfl ?_)
      | (refine gk 4 rfl ?_; first | refine sl_pass rfl rfl rfl rfl ?_ | refine sl_op rfl rfl rfl (by first | exact opv_len rfl rfl rfl rfl rfl ) ?_ )
      | (refine gk 5 rfl ?_; first | refine sl_box rfl rfl rfl rfl rfl rfl (fun β => ?_) | refine sl_alloc rfl rfl rfl rfl (by exact rfl) (fun β => ?_) | refine sl_store rfl rfl rfl rfl rfl rfl (by exact rfl) rfl (by exact rfl) ?_)
      | refine sl_region rfl ?_
      | refine sl_draw (by kernel_rfl) (by kernel_rfl) rfl ?_
      | refine sl_nil ?_
      | refine thn_k ?_
      | refine swp_true rfl ?_
      | refine swp_ret ?_
      | refine thn_ret ?_
      )
    refine end_pure (resOk_one (resV_tmp rfl)) ?_
    rfl
end Go.Proofs.YtjdjkcebflablaaDoor
