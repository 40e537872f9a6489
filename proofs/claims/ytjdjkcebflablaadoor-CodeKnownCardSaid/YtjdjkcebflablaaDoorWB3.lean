/- Whether an image may be laid, walked. -/
import Derived.Test.YtjdjkcebflablaaDoorWB2
set_option linter.unusedVariables false
set_option linter.unusedSimpArgs false
set_option linter.unusedSectionVars false
namespace Go.Proofs.YtjdjkcebflablaaDoor
open Go.SL
set_option maxRecDepth 100000
set_option maxHeartbeats 16000000
attribute [local irreducible] SL.T PFn OpV SOL SWP HOp ChU
-- ALIAS Tryd
-- USE_L4
-- USE_L1
def clno (cl : Int) (f : List Int) : Bool := !rightF f 8 cl
theorem may1_calls (J : Heap) (β : Nat) (cl : Int) (f : List Int) (fb : Option Addr) (fn fc : Nat) [Sl J fb (f.map i64)] (h1 : f.length = fn) (hs : fn ≤ 9223372036854775807) :
    PFn Tryd.prog 37 [.agg ⟨[.slice fb fn fc]⟩, ptr β] [J, blk β (.cells ⟨[i64 cl]⟩ 3 (0, 0))] (.bool (clno cl f)) := by
  have hr := right_calls J fb fn fc f 8 cl h1 hs
  refine pure_of_body Tryd.func37 rfl (Nat.le_of_ble_eq_true rfl) fun F => ?_
  repeat' (first
    | refine swp_seq ?_
    | (refine gk 0 rfl ?_; first | refine sl_op rfl rfl rfl (by first | exact opv_assign rfl rfl | exact opv_not rfl rfl ) ?_ )
    | (refine gk 3 rfl ?_; first | refine sl_op rfl rfl rfl (by first | exact opv_load rfl (by exact rfl) rfl (by exact rfl) | exact opv_fieldAddr rfl rfl ) ?_ )
    | (refine gk 4 rfl ?_; first | refine sl_op rfl rfl rfl (opv_call rfl rfl rfl rfl rfl (hr)) ?_)
    | (refine gk 5 rfl ?_; first | refine sl_box rfl rfl rfl rfl rfl rfl (fun β => ?_) )
    | refine sl_region rfl ?_
    | refine sl_nil ?_
    | refine thn_k ?_
    | refine swp_ret ?_
    )
  refine end_pure (resOk_one (resV_tmp rfl)) ?_
  rfl
theorem indexC_calls (J : Heap) (β : Nat) (cl : Int) (b : Option Addr) (n c : Nat) (cls : List (List Int)) (h : ClsIn J cls b n) :
    PFn Tryd.prog 60 [.slice b n c, .func (.func 37) #[] #[ptr β]] [J, blk β (.cells ⟨[i64 cl]⟩ 3 (0, 0))] (i64 (fi (clno cl) cls)) := by
  obtain ⟨vals, sv, hvl, h1, hsm, hf⟩ := h
  haveI := sv
  refine pure_of_body Tryd.func60 rfl (Nat.le_of_ble_eq_true rfl) fun F => ?_
  repeat' (first
    | refine swp_seq ?_
    | (refine gk 0 rfl ?_; first | refine sl_op rfl rfl rfl (by first | exact opv_move rfl rfl | exact opv_assign rfl rfl ) ?_ )
    | (refine gk 4 rfl ?_; first | refine sl_op rfl rfl rfl (by first | exact opv_len rfl rfl rfl rfl rfl ) ?_)
    | refine sl_region rfl ?_
    | refine sl_nil ?_
    | refine thn_k ?_
    | refine swp_block ?_
    )
  refine swp_loopS (fun j : Nat => [(0, .slice b n c), (1, .func (.func 37) #[] #[ptr β]), (7, i64 (n : Int)), (8, i64 (j : Int))])
    (fun _ => [J, blk β (.cells ⟨[i64 cl]⟩ 3 (0, 0))]) (fun j => j ≤ n ∧ ∀ y ∈ cls.take j, clno cl y = false) (fun j => n - j) 0 (by repeat first | exact Sub.nil _ | refine Sub.cons rfl ?_) ⟨Nat.zero_le _, by simp⟩ ?_
  rintro j ⟨hj1, hj2⟩
  by_cases hj : j < n
  · obtain ⟨x, hx⟩ : ∃ z, cls[j]? = some z := ⟨_, List.getElem?_eq_getElem (by omega)⟩
    obtain ⟨fb, fn, fc, g1, g2, g3, g4⟩ := hf j x hx
    haveI := g2
    have hk : ((j : Nat) : Int).toNat * 1 < vals.length := by simp; omega
    have hcx : vals[((j : Nat) : Int).toNat * 1]? = some (.slice fb fn fc) := by simpa using g1
    have hr := may1_calls J β cl x fb fn fc g3 g4
    cases hp : clno cl x with
    | true =>
      rw [hp] at hr
      repeat' (first
        | refine swp_seq ?_
        | (refine gk 0 rfl ?_; first | refine sl_op rfl rfl rfl (by first | exact opv_move rfl rfl | exact opv_assign rfl rfl ) ?_ )
        | (refine gk 2 rfl ?_; first | refine sl_yes rfl rfl rfl (by first | exact opv_lss rfl rfl rfl ) (by first | omega ) ?_ )
        | (refine gk 3 rfl ?_; first | refine sl_op rfl rfl rfl (by first | exact opv_indexAddrI rfl rfl rfl (by omega) (by omega) (by first | omega ) | exact opv_load1 rfl (by exact rfl) (by infer_instance) (by assumption)) ?_ )
        | (refine gk 4 rfl ?_; first | refine sl_op rfl rfl rfl (opv_call rfl rfl rfl rfl rfl (hr)) ?_)
        | refine sl_region rfl ?_
        | refine sl_nil ?_
        | refine thn_k ?_
        | refine swp_true rfl ?_
        | refine swp_block ?_
        | refine swp_ret ?_
        | refine swp_skip ?_
        | refine thn_ret ?_
        | refine inb_ret ?_
        )
      refine end_pure (resOk_one (resV_tmp rfl)) ?_
      rw [fi_hit hj2 hx hp]
    | false =>
      rw [hp] at hr
      repeat' (first
        | refine swp_seq ?_
        | (refine gk 0 rfl ?_; first | refine sl_op rfl rfl rfl (by first | exact opv_move rfl rfl | exact opv_assign rfl rfl ) ?_ )
        | (refine gk 1 rfl ?_; first | refine sl_op rfl rfl rfl (by first | exact opv_add64 rfl rfl rfl (by omega) (by omega) ) ?_ )
        | (refine gk 2 rfl ?_; first | refine sl_yes rfl rfl rfl (by first | exact opv_lss rfl rfl rfl ) (by first | omega ) ?_ )
        | (refine gk 3 rfl ?_; first | refine sl_op rfl rfl rfl (by first | exact opv_indexAddrI rfl rfl rfl (by omega) (by omega) (by first | omega ) | exact opv_load1 rfl (by exact rfl) (by infer_instance) (by assumption)) ?_ )
        | (refine gk 4 rfl ?_; first | refine sl_op rfl rfl rfl (opv_call rfl rfl rfl rfl rfl (hr)) ?_)
        | refine sl_region rfl ?_
        | refine sl_nil ?_
        | refine thn_k ?_
        | refine swp_true rfl ?_
        | refine swp_false rfl ?_
        | refine swp_block ?_
        | refine swp_skip ?_
        )
      exact ⟨rfl, j + 1, next_ok (by repeat first | exact Sub.nil _ | refine Sub.cons rfl ?_), ⟨by omega, take_snoc hj2 hx hp⟩, by omega⟩
  · repeat' (first
      | refine swp_seq ?_
      | (refine gk 0 rfl ?_; first | refine sl_op rfl rfl rfl (by first | exact opv_assign rfl rfl ) ?_ )
      | (refine gk 2 rfl ?_; first | refine sl_no rfl rfl rfl (by first | exact opv_lss rfl rfl rfl ) (by first | omega ) ?_ )
      | refine sl_region rfl ?_
      | refine sl_nil ?_
      | refine thn_k ?_
      | refine swp_false rfl ?_
      | refine swp_ret ?_
      | refine swp_exit ?_
      )
    refine end_pure (resOk_one (resV_tmp rfl)) ?_
    rw [List.take_of_length_le (by omega)] at hj2
    rw [fi_none hj2]
theorem containsC_calls (J : Heap) (β : Nat) (cl : Int) (b : Option Addr) (n c : Nat) (cls : List (List Int)) (h : ClsIn J cls b n) :
    PFn Tryd.prog 36 [.slice b n c, .func (.func 37) #[] #[ptr β]] [J, blk β (.cells ⟨[i64 cl]⟩ 3 (0, 0))] (.bool (cls.any (clno cl))) := by
  have hc := indexC_calls J β cl b n c cls h
  have he := fi_any (clno cl) cls
  refine pure_of_body Tryd.func36 rfl (Nat.le_of_ble_eq_true rfl) fun F => ?_
  repeat' (first
    | refine swp_seq ?_
    | (refine gk 0 rfl ?_; first | refine sl_op rfl rfl rfl (by first | exact opv_move rfl rfl | exact opv_assign rfl rfl ) ?_ )
    | (refine gk 2 rfl ?_; first | refine sl_if rfl rfl rfl (by first | exact opv_geq rfl rfl rfl ) (fun h => ?_) (fun h => ?_) )
    | (refine gk 4 rfl ?_; first | refine sl_op rfl rfl rfl (opv_call rfl rfl rfl rfl rfl (hc)) ?_)
    | refine sl_region rfl ?_
    | refine sl_nil ?_
    | refine thn_k ?_
    | refine swp_ret ?_
    )
  · refine end_pure (resOk_one (resV_tmp rfl)) ?_
    rw [← he]; simp [h]
  · refine end_pure (resOk_one (resV_tmp rfl)) ?_
    rw [← he]; simp [h]
def meno (cl : Int) (m : Me) : Bool := !methodF m 16 cl
theorem may2_calls (J : Heap) (β : Nat) (cl : Int) (m : Me) (pb cb : Option Addr) (pn pc cn cc : Nat) [Sl J pb (m.params.map i64)] [Sl J cb (flatI m.code)] (h1 : m.params.length = pn) (h2 : m.code.length = cn) (hs1 : pn ≤ 9223372036854775807) (hs2 : cn ≤ 9223372036854775807) :
    PFn Tryd.prog 40 [.agg ⟨[.slice pb pn pc, i64 m.lo, i64 m.st, .slice cb cn cc]⟩, ptr β] [J, blk β (.cells ⟨[i64 cl]⟩ 3 (0, 0))] (.bool (meno cl m)) := by
  have hr := method_calls J m pb cb pn pc cn cc 16 cl h1 h2 hs1 hs2
  refine pure_of_body Tryd.func40 rfl (Nat.le_of_ble_eq_true rfl) fun F => ?_
  repeat' (first
    | refine swp_seq ?_
    | (refine gk 0 rfl ?_; first | refine sl_op rfl rfl rfl (by first | exact opv_assign rfl rfl | exact opv_not rfl rfl ) ?_ )
    | (refine gk 3 rfl ?_; first | refine sl_op rfl rfl rfl (by first | exact opv_load rfl (by exact rfl) rfl (by exact rfl) | exact opv_loadA rfl (by exact rfl) rfl (by exact rfl) (by exact rfl) ) ?_ )
    | (refine gk 4 rfl ?_; first | refine sl_op rfl rfl rfl (opv_call rfl rfl rfl rfl rfl (hr)) ?_)
    | (refine gk 5 rfl ?_; first | refine sl_box rfl rfl rfl rfl rfl rfl (fun β => ?_) )
    | refine sl_region rfl ?_
    | refine sl_nil ?_
    | refine thn_k ?_
    | refine swp_ret ?_
    )
  refine end_pure (resOk_one (resV_tmp rfl)) ?_
  rfl
theorem indexM_calls (J : Heap) (β : Nat) (cl : Int) (b : Option Addr) (n c : Nat) (ms : List Me) (h : MsIn J ms b n) :
    PFn Tryd.prog 63 [.slice b n c, .func (.func 40) #[] #[ptr β]] [J, blk β (.cells ⟨[i64 cl]⟩ 3 (0, 0))] (i64 (fi (meno cl) ms)) := by
  obtain ⟨vals, sv, hvl, h1, hsm, hf⟩ := h
  haveI := sv
  refine pure_of_body Tryd.func63 rfl (Nat.le_of_ble_eq_true rfl) fun F => ?_
  repeat' (first
    | refine swp_seq ?_
    | (refine gk 0 rfl ?_; first | refine sl_op rfl rfl rfl (by first | exact opv_move rfl rfl | exact opv_assign rfl rfl ) ?_ )
    | (refine gk 4 rfl ?_; first | refine sl_op rfl rfl rfl (by first | exact opv_len rfl rfl rfl rfl rfl ) ?_)
    | refine sl_region rfl ?_
    | refine sl_nil ?_
    | refine thn_k ?_
    | refine swp_block ?_
    )
  refine swp_loopS (fun j : Nat => [(0, .slice b n c), (1, .func (.func 40) #[] #[ptr β]), (7, i64 (n : Int)), (8, i64 (j : Int))])
    (fun _ => [J, blk β (.cells ⟨[i64 cl]⟩ 3 (0, 0))]) (fun j => j ≤ n ∧ ∀ y ∈ ms.take j, meno cl y = false) (fun j => n - j) 0 (by repeat first | exact Sub.nil _ | refine Sub.cons rfl ?_) ⟨Nat.zero_le _, by simp⟩ ?_
  rintro j ⟨hj1, hj2⟩
  by_cases hj : j < n
  · obtain ⟨x, hx⟩ : ∃ z, ms[j]? = some z := ⟨_, List.getElem?_eq_getElem (by omega)⟩
    obtain ⟨pb, pn, pc, cb, cn, cc, g1, g2, g3, g4, g5, g6, g7, g8, g9, g10, g11⟩ := hf j x hx
    haveI := g5
    haveI := g8
    have hk : ((j : Nat) : Int).toNat * 4 < vals.length := by simp; omega
    have hc0 : vals[((j : Nat) : Int).toNat * 4]? = some (.slice pb pn pc) := by simpa using g1
    have hc1 : vals[((j : Nat) : Int).toNat * 4 + 1]? = some (i64 x.lo) := by simpa using g2
    have hc2 : vals[((j : Nat) : Int).toNat * 4 + 2]? = some (i64 x.st) := by simpa using g3
    have hc3 : vals[((j : Nat) : Int).toNat * 4 + 3]? = some (.slice cb cn cc) := by simpa using g4
    have hr := may2_calls J β cl x pb cb pn pc cn cc g6 g9 g7 g11
    cases hp : meno cl x with
    | true =>
      rw [hp] at hr
      repeat' (first
        | refine swp_seq ?_
        | (refine gk 0 rfl ?_; first | refine sl_op rfl rfl rfl (by first | exact opv_move rfl rfl | exact opv_assign rfl rfl ) ?_ )
        | (refine gk 2 rfl ?_; first | refine sl_yes rfl rfl rfl (by first | exact opv_lss rfl rfl rfl ) (by first | omega ) ?_ )
        | (refine gk 3 rfl ?_; first | refine sl_op rfl rfl rfl (by first | exact opv_indexAddrI rfl rfl rfl (by omega) (by omega) (by first | omega ) | exact opv_load4 rfl (by exact rfl) (by infer_instance) (by assumption) (by assumption) (by assumption) (by assumption) ) ?_ )
        | (refine gk 4 rfl ?_; first | refine sl_op rfl rfl rfl (opv_call rfl rfl rfl rfl rfl (hr)) ?_)
        | refine sl_region rfl ?_
        | refine sl_nil ?_
        | refine thn_k ?_
        | refine swp_true rfl ?_
        | refine swp_block ?_
        | refine swp_ret ?_
        | refine swp_skip ?_
        | refine thn_ret ?_
        | refine inb_ret ?_
        )
      refine end_pure (resOk_one (resV_tmp rfl)) ?_
      rw [fi_hit hj2 hx hp]
    | false =>
      rw [hp] at hr
      repeat' (first
        | refine swp_seq ?_
        | (refine gk 0 rfl ?_; first | refine sl_op rfl rfl rfl (by first | exact opv_move rfl rfl | exact opv_assign rfl rfl ) ?_ )
        | (refine gk 1 rfl ?_; first | refine sl_op rfl rfl rfl (by first | exact opv_add64 rfl rfl rfl (by omega) (by omega) ) ?_ )
        | (refine gk 2 rfl ?_; first | refine sl_yes rfl rfl rfl (by first | exact opv_lss rfl rfl rfl ) (by first | omega ) ?_ )
        | (refine gk 3 rfl ?_; first | refine sl_op rfl rfl rfl (by first | exact opv_indexAddrI rfl rfl rfl (by omega) (by omega) (by first | omega ) | exact opv_load4 rfl (by exact rfl) (by infer_instance) (by assumption) (by assumption) (by assumption) (by assumption) ) ?_ )
        | (refine gk 4 rfl ?_; first | refine sl_op rfl rfl rfl (opv_call rfl rfl rfl rfl rfl (hr)) ?_)
        | refine sl_region rfl ?_
        | refine sl_nil ?_
        | refine thn_k ?_
        | refine swp_true rfl ?_
        | refine swp_false rfl ?_
        | refine swp_block ?_
        | refine swp_skip ?_
        )
      exact ⟨rfl, j + 1, next_ok (by repeat first | exact Sub.nil _ | refine Sub.cons rfl ?_), ⟨by omega, take_snoc hj2 hx hp⟩, by omega⟩
  · repeat' (first
      | refine swp_seq ?_
      | (refine gk 0 rfl ?_; first | refine sl_op rfl rfl rfl (by first | exact opv_assign rfl rfl ) ?_ )
      | (refine gk 2 rfl ?_; first | refine sl_no rfl rfl rfl (by first | exact opv_lss rfl rfl rfl ) (by first | omega ) ?_ )
      | refine sl_region rfl ?_
      | refine sl_nil ?_
      | refine thn_k ?_
      | refine swp_false rfl ?_
      | refine swp_ret ?_
      | refine swp_exit ?_
      )
    refine end_pure (resOk_one (resV_tmp rfl)) ?_
    rw [List.take_of_length_le (by omega)] at hj2
    rw [fi_none hj2]
theorem containsM_calls (J : Heap) (β : Nat) (cl : Int) (b : Option Addr) (n c : Nat) (ms : List Me) (h : MsIn J ms b n) :
    PFn Tryd.prog 39 [.slice b n c, .func (.func 40) #[] #[ptr β]] [J, blk β (.cells ⟨[i64 cl]⟩ 3 (0, 0))] (.bool (ms.any (meno cl))) := by
  have hc := indexM_calls J β cl b n c ms h
  have he := fi_any (meno cl) ms
  refine pure_of_body Tryd.func39 rfl (Nat.le_of_ble_eq_true rfl) fun F => ?_
  repeat' (first
    | refine swp_seq ?_
    | (refine gk 0 rfl ?_; first | refine sl_op rfl rfl rfl (by first | exact opv_move rfl rfl | exact opv_assign rfl rfl ) ?_ )
    | (refine gk 2 rfl ?_; first | refine sl_if rfl rfl rfl (by first | exact opv_geq rfl rfl rfl ) (fun h => ?_) (fun h => ?_) )
    | (refine gk 4 rfl ?_; first | refine sl_op rfl rfl rfl (opv_call rfl rfl rfl rfl rfl (hc)) ?_)
    | refine sl_region rfl ?_
    | refine sl_nil ?_
    | refine thn_k ?_
    | refine swp_ret ?_
    )
  · refine end_pure (resOk_one (resV_tmp rfl)) ?_
    rw [← he]; simp [h]
  · refine end_pure (resOk_one (resV_tmp rfl)) ?_
    rw [← he]; simp [h]
end Go.Proofs.YtjdjkcebflablaaDoor
