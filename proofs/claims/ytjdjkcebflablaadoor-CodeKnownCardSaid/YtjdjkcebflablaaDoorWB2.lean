/- What may be laid, walked: instructions, methods, classes, images. -/
import Derived.Test.YtjdjkcebflablaaDoorWB
set_option linter.unusedVariables false
set_option linter.unusedSimpArgs false
set_option linter.unusedSectionVars false
namespace Go.Proofs.YtjdjkcebflablaaDoor
open Go.SL
set_option maxRecDepth 100000
set_option maxHeartbeats 16000000
attribute [local irreducible] SL.T PFn OpV SOL SWP HOp ChU
-- ALIAS Tryd
-- USE_L4
def rightF (l : List Int) (most cl : Int) : Bool := decide ((l.length : Int) ≤ most) && !l.any (kno cl)
theorem right_calls (J : Heap) (b : Option Addr) (n c : Nat) (zs : List Int) (most cl : Int) [Sl J b (zs.map i64)] (h1 : zs.length = n) (hsm : n ≤ 9223372036854775807) :
    PFn Tryd.prog 38 [.slice b n c, i64 most, i64 cl] [J] (.bool (rightF zs most cl)) := by
  refine pure_of_body Tryd.func38 rfl (Nat.le_of_ble_eq_true rfl) fun F => ?_
  by_cases h : (n : Int) ≤ most
  · cases ha : zs.any (kno cl)
    · have hc := fun β => (containsK_calls J β cl b n c zs h1 hsm).to (congrArg Value.bool ha)
      repeat' (first
        | refine swp_seq ?_
        | (refine gk 0 rfl ?_; first | refine sl_op rfl rfl rfl (by first | exact opv_move rfl rfl | exact opv_assign rfl rfl | exact opv_pick_t rfl rfl rfl | exact opv_not_f rfl rfl | exact opv_makeFunc rfl rfl rfl) ?_ )
        | (refine gk 2 rfl ?_; first | refine sl_yes rfl rfl rfl (by first | exact opv_leq rfl rfl rfl ) (by first | omega ) ?_ )
        | (refine gk 4 rfl ?_; first | refine sl_op rfl rfl rfl (by first | exact opv_len rfl rfl rfl rfl rfl ) ?_ | refine sl_op rfl rfl rfl (opv_call rfl rfl rfl rfl rfl (hc _)) ?_)
        | (refine gk 5 rfl ?_; first | refine sl_box rfl rfl rfl rfl rfl rfl (fun β => ?_) )
        | refine sl_region rfl ?_
        | refine sl_nil ?_
        | refine thn_k ?_
        | refine swp_ret ?_
        )
      refine end_pure (resOk_one (resV_tmp rfl)) ?_
      simp [rightF, h1, h, ha]
    · have hc := fun β => (containsK_calls J β cl b n c zs h1 hsm).to (congrArg Value.bool ha)
      repeat' (first
        | refine swp_seq ?_
        | (refine gk 0 rfl ?_; first | refine sl_op rfl rfl rfl (by first | exact opv_move rfl rfl | exact opv_assign rfl rfl | exact opv_pick_t rfl rfl rfl | exact opv_not_t rfl rfl | exact opv_makeFunc rfl rfl rfl) ?_ )
        | (refine gk 2 rfl ?_; first | refine sl_yes rfl rfl rfl (by first | exact opv_leq rfl rfl rfl ) (by first | omega ) ?_ )
        | (refine gk 4 rfl ?_; first | refine sl_op rfl rfl rfl (by first | exact opv_len rfl rfl rfl rfl rfl ) ?_ | refine sl_op rfl rfl rfl (opv_call rfl rfl rfl rfl rfl (hc _)) ?_)
        | (refine gk 5 rfl ?_; first | refine sl_box rfl rfl rfl rfl rfl rfl (fun β => ?_) )
        | refine sl_region rfl ?_
        | refine sl_nil ?_
        | refine thn_k ?_
        | refine swp_ret ?_
        )
      refine end_pure (resOk_one (resV_tmp rfl)) ?_
      simp [rightF, h1, h, ha]
  · repeat' (first
      | refine swp_seq ?_
      | (refine gk 0 rfl ?_; first | refine sl_op rfl rfl rfl (by first | exact opv_move rfl rfl | exact opv_assign rfl rfl | exact opv_pick_f rfl rfl rfl | exact opv_makeFunc rfl rfl rfl) ?_ | refine sl_pass rfl rfl rfl rfl ?_)
      | (refine gk 2 rfl ?_; first | refine sl_no rfl rfl rfl (by first | exact opv_leq rfl rfl rfl ) (by first | omega ) ?_ )
      | (refine gk 4 rfl ?_; first | refine sl_pass rfl rfl rfl rfl ?_ | refine sl_op rfl rfl rfl (by first | exact opv_len rfl rfl rfl rfl rfl ) ?_)
      | (refine gk 5 rfl ?_; first | refine sl_box rfl rfl rfl rfl rfl rfl (fun β => ?_) )
      | refine sl_region rfl ?_
      | refine sl_nil ?_
      | refine thn_k ?_
      | refine swp_ret ?_
      )
    refine end_pure (resOk_one (resV_tmp rfl)) ?_
    simp [rightF, h1, h]
/-! Instructions. -/
def opno (y : Ins) : Bool := !wi y.op 0 255
theorem method1_calls (y : Ins) : PFn Tryd.prog 59 [.agg ⟨[i64 y.op, i64 y.a, i64 y.b]⟩] [] (.bool (opno y)) := by
  have hw := within_calls y.op 0 255
  refine pure_of_body Tryd.func59 rfl (Nat.le_of_ble_eq_true rfl) fun F => ?_
  repeat' (first
    | refine swp_seq ?_
    | (refine gk 0 rfl ?_; first | refine sl_op rfl rfl rfl (by first | exact opv_assign rfl rfl | exact opv_not rfl rfl ) ?_ )
    | (refine gk 3 rfl ?_; first | refine sl_op rfl rfl rfl (by first | exact opv_load rfl (by exact rfl) rfl (by exact rfl) | exact opv_fieldAddr rfl rfl ) ?_ )
    | (refine gk 4 rfl ?_; first | refine sl_op rfl rfl rfl (opv_call rfl rfl rfl rfl rfl (hw)) ?_)
    | (refine gk 5 rfl ?_; first | refine sl_box rfl rfl rfl rfl rfl rfl (fun β => ?_) )
    | refine sl_region rfl ?_
    | refine sl_nil ?_
    | refine thn_k ?_
    | refine swp_ret ?_
    )
  refine end_pure (resOk_one (resV_tmp rfl)) ?_
  rfl
theorem indexI_calls (J : Heap) (b : Option Addr) (n c : Nat) (zs : List Ins) [Sl J b (flatI zs)] (h1 : zs.length = n) (hsm : n ≤ 9223372036854775807) :
    PFn Tryd.prog 72 [.slice b n c, .func (.func 59) #[] #[]] [J] (i64 (fi opno zs)) := by
  have hfl := flatI_length zs
  refine pure_of_body Tryd.func72 rfl (Nat.le_of_ble_eq_true rfl) fun F => ?_
  repeat' (first
    | refine swp_seq ?_
    | (refine gk 0 rfl ?_; first | refine sl_op rfl rfl rfl (by first | exact opv_move rfl rfl | exact opv_assign rfl rfl ) ?_ )
    | (refine gk 4 rfl ?_; first | refine sl_op rfl rfl rfl (by first | exact opv_len rfl rfl rfl rfl rfl ) ?_)
    | refine sl_region rfl ?_
    | refine sl_nil ?_
    | refine thn_k ?_
    | refine swp_block ?_
    )
  refine swp_loopS (fun j : Nat => [(0, .slice b n c), (1, .func (.func 59) #[] #[]), (7, i64 (n : Int)), (8, i64 (j : Int))])
    (fun _ => [J]) (fun j => j ≤ n ∧ ∀ y ∈ zs.take j, opno y = false) (fun j => n - j) 0 (by repeat first | exact Sub.nil _ | refine Sub.cons rfl ?_) ⟨Nat.zero_le _, by simp⟩ ?_
  rintro j ⟨hj1, hj2⟩
  by_cases hj : j < n
  · obtain ⟨x, hx⟩ : ∃ z, zs[j]? = some z := ⟨_, List.getElem?_eq_getElem (by omega)⟩
    obtain ⟨c0, c1, c2⟩ := flatI_at hx
    have hk : ((j : Nat) : Int).toNat * 3 < (flatI zs).length := by simp; omega
    have hc0 : (flatI zs)[((j : Nat) : Int).toNat * 3]? = some (i64 x.op) := by simpa using c0
    have hc1 : (flatI zs)[((j : Nat) : Int).toNat * 3 + 1]? = some (i64 x.a) := by simpa using c1
    have hc2 : (flatI zs)[((j : Nat) : Int).toNat * 3 + 2]? = some (i64 x.b) := by simpa using c2
    have hr := method1_calls x
    cases hp : opno x with
    | true =>
      rw [hp] at hr
      repeat' (first
        | refine swp_seq ?_
        | (refine gk 0 rfl ?_; first | refine sl_op rfl rfl rfl (by first | exact opv_move rfl rfl | exact opv_assign rfl rfl ) ?_ )
        | (refine gk 2 rfl ?_; first | refine sl_yes rfl rfl rfl (by first | exact opv_lss rfl rfl rfl ) (by first | omega ) ?_ )
        | (refine gk 3 rfl ?_; first | refine sl_op rfl rfl rfl (by first | exact opv_indexAddrI rfl rfl rfl (by omega) (by omega) (by first | omega ) | exact opv_load3 rfl (by exact rfl) (by infer_instance) (by assumption) (by assumption) (by assumption) ) ?_ )
        | (refine gk 4 rfl ?_; first | refine sl_op rfl rfl rfl (opv_call rfl rfl rfl rfl rfl (hr)) ?_)
        | refine sl_region rfl ?_
        | refine sl_nil ?_
        | refine thn_k ?_
        | refine swp_true rfl ?_
        | refine swp_block ?_
        | refine swp_ret ?_
        | refine swp_skip ?_
        | refine thn_ret ?_
        | refine inb_ret ?_
        )
      refine end_pure (resOk_one (resV_tmp rfl)) ?_
      rw [fi_hit hj2 hx hp]
    | false =>
      rw [hp] at hr
      repeat' (first
        | refine swp_seq ?_
        | (refine gk 0 rfl ?_; first | refine sl_op rfl rfl rfl (by first | exact opv_move rfl rfl | exact opv_assign rfl rfl ) ?_ )
        | (refine gk 1 rfl ?_; first | refine sl_op rfl rfl rfl (by first | exact opv_add64 rfl rfl rfl (by omega) (by omega) ) ?_ )
        | (refine gk 2 rfl ?_; first | refine sl_yes rfl rfl rfl (by first | exact opv_lss rfl rfl rfl ) (by first | omega ) ?_ )
        | (refine gk 3 rfl ?_; first | refine sl_op rfl rfl rfl (by first | exact opv_indexAddrI rfl rfl rfl (by omega) (by omega) (by first | omega ) | exact opv_load3 rfl (by exact rfl) (by infer_instance) (by assumption) (by assumption) (by assumption) ) ?_ )
        | (refine gk 4 rfl ?_; first | refine sl_op rfl rfl rfl (opv_call rfl rfl rfl rfl rfl (hr)) ?_)
        | refine sl_region rfl ?_
        | refine sl_nil ?_
        | refine thn_k ?_
        | refine swp_true rfl ?_
        | refine swp_false rfl ?_
        | refine swp_block ?_
        | refine swp_skip ?_
        )
      exact ⟨rfl, j + 1, next_ok (by repeat first | exact Sub.nil _ | refine Sub.cons rfl ?_), ⟨by omega, take_snoc hj2 hx hp⟩, by omega⟩
  · repeat' (first
      | refine swp_seq ?_
      | (refine gk 0 rfl ?_; first | refine sl_op rfl rfl rfl (by first | exact opv_assign rfl rfl ) ?_ )
      | (refine gk 2 rfl ?_; first | refine sl_no rfl rfl rfl (by first | exact opv_lss rfl rfl rfl ) (by first | omega ) ?_ )
      | refine sl_region rfl ?_
      | refine sl_nil ?_
      | refine thn_k ?_
      | refine swp_false rfl ?_
      | refine swp_ret ?_
      | refine swp_exit ?_
      )
    refine end_pure (resOk_one (resV_tmp rfl)) ?_
    rw [List.take_of_length_le (by omega)] at hj2
    rw [fi_none hj2]
theorem containsI_calls (J : Heap) (b : Option Addr) (n c : Nat) (zs : List Ins) [Sl J b (flatI zs)] (h1 : zs.length = n) (hsm : n ≤ 9223372036854775807) :
    PFn Tryd.prog 58 [.slice b n c, .func (.func 59) #[] #[]] [J] (.bool (zs.any opno)) := by
  have hc := indexI_calls J b n c zs h1 hsm
  have he := fi_any opno zs
  refine pure_of_body Tryd.func58 rfl (Nat.le_of_ble_eq_true rfl) fun F => ?_
  repeat' (first
    | refine swp_seq ?_
    | (refine gk 0 rfl ?_; first | refine sl_op rfl rfl rfl (by first | exact opv_move rfl rfl | exact opv_assign rfl rfl ) ?_ )
    | (refine gk 2 rfl ?_; first | refine sl_if rfl rfl rfl (by first | exact opv_geq rfl rfl rfl ) (fun h => ?_) (fun h => ?_) )
    | (refine gk 4 rfl ?_; first | refine sl_op rfl rfl rfl (opv_call rfl rfl rfl rfl rfl (hc)) ?_)
    | refine sl_region rfl ?_
    | refine sl_nil ?_
    | refine thn_k ?_
    | refine swp_ret ?_
    )
  · refine end_pure (resOk_one (resV_tmp rfl)) ?_
    rw [← he]; simp [h]
  · refine end_pure (resOk_one (resV_tmp rfl)) ?_
    rw [← he]; simp [h]
/-! Methods. -/
def methodF (m : Me) (most cl : Int) : Bool := rightF m.params most cl && (wi m.lo m.params.length 16 && (wi m.st 0 32 && (wi m.code.length 1 256 && !m.code.any opno)))
theorem method_calls (J : Heap) (m : Me) (pb cb : Option Addr) (pn pc cn cc : Nat) (most cl : Int) [Sl J pb (m.params.map i64)] [Sl J cb (flatI m.code)] (h1 : m.params.length = pn) (h2 : m.code.length = cn) (hs1 : pn ≤ 9223372036854775807) (hs2 : cn ≤ 9223372036854775807) :
    PFn Tryd.prog 35 [.agg ⟨[.slice pb pn pc, i64 m.lo, i64 m.st, .slice cb cn cc]⟩, i64 most, i64 cl] [J] (.bool (methodF m most cl)) := by
  subst h1 h2
  have hr := right_calls J pb m.params.length pc m.params most cl rfl hs1
  have hc := containsI_calls J cb m.code.length cc m.code rfl hs2
  refine pure_of_body Tryd.func35 rfl (Nat.le_of_ble_eq_true rfl) fun F => ?_
  unfold methodF
  generalize rightF m.params most cl = r at *
  generalize m.code.any opno = a at *
  cases r
  · repeat' (first
      | refine swp_seq ?_
      | (refine gk 0 rfl ?_; first | refine sl_op rfl rfl rfl (by first | exact opv_move rfl rfl | exact opv_assign rfl rfl | exact opv_pick_f rfl rfl rfl ) ?_ | refine sl_pass rfl rfl rfl rfl ?_)
      | (refine gk 3 rfl ?_; first | refine sl_op rfl rfl rfl (by first | exact opv_load rfl (by exact rfl) rfl (by exact rfl) | exact opv_fieldAddr rfl rfl ) ?_ | refine sl_pass rfl rfl rfl rfl ?_)
      | (refine gk 4 rfl ?_; first | refine sl_pass rfl rfl rfl rfl ?_ | refine sl_op rfl rfl rfl (opv_call rfl rfl rfl rfl rfl (hr)) ?_)
      | (refine gk 5 rfl ?_; first | refine sl_box rfl rfl rfl rfl rfl rfl (fun β => ?_) )
      | refine sl_region rfl ?_
      | refine sl_nil ?_
      | refine thn_k ?_
      | refine swp_ret ?_
      )
    refine end_pure (resOk_one (resV_tmp rfl)) ?_
    rfl
  · cases e1 : wi m.lo m.params.length 16
    · have w1 := (within_calls m.lo m.params.length 16).to (congrArg Value.bool e1)
      repeat' (first
        | refine swp_seq ?_
        | (refine gk 0 rfl ?_; first | refine sl_op rfl rfl rfl (by first | exact opv_move rfl rfl | exact opv_assign rfl rfl | exact opv_pick_t rfl rfl rfl | exact opv_pick_f rfl rfl rfl ) ?_ | refine sl_pass rfl rfl rfl rfl ?_)
        | (refine gk 3 rfl ?_; first | refine sl_op rfl rfl rfl (by first | exact opv_load rfl (by exact rfl) rfl (by exact rfl) | exact opv_fieldAddr rfl rfl ) ?_ | refine sl_pass rfl rfl rfl rfl ?_)
        | (refine gk 4 rfl ?_; first | refine sl_pass rfl rfl rfl rfl ?_ | refine sl_op rfl rfl rfl (by first | exact opv_len rfl rfl rfl rfl rfl ) ?_ | refine sl_op rfl rfl rfl (opv_call rfl rfl rfl rfl rfl (hr)) ?_ | refine sl_op rfl rfl rfl (opv_call rfl rfl rfl rfl rfl (w1)) ?_)
        | (refine gk 5 rfl ?_; first | refine sl_box rfl rfl rfl rfl rfl rfl (fun β => ?_) )
        | refine sl_region rfl ?_
        | refine sl_nil ?_
        | refine thn_k ?_
        | refine swp_ret ?_
        )
      refine end_pure (resOk_one (resV_tmp rfl)) ?_
      rfl
    · have w1 := (within_calls m.lo m.params.length 16).to (congrArg Value.bool e1)
      cases e2 : wi m.st 0 32
      · have w2 := (within_calls m.st 0 32).to (congrArg Value.bool e2)
        repeat' (first
          | refine swp_seq ?_
          | (refine gk 0 rfl ?_; first | refine sl_op rfl rfl rfl (by first | exact opv_move rfl rfl | exact opv_assign rfl rfl | exact opv_pick_t rfl rfl rfl | exact opv_pick_f rfl rfl rfl ) ?_ | refine sl_pass rfl rfl rfl rfl ?_)
          | (refine gk 3 rfl ?_; first | refine sl_op rfl rfl rfl (by first | exact opv_load rfl (by exact rfl) rfl (by exact rfl) | exact opv_fieldAddr rfl rfl ) ?_ | refine sl_pass rfl rfl rfl rfl ?_)
          | (refine gk 4 rfl ?_; first | refine sl_pass rfl rfl rfl rfl ?_ | refine sl_op rfl rfl rfl (by first | exact opv_len rfl rfl rfl rfl rfl ) ?_ | refine sl_op rfl rfl rfl (opv_call rfl rfl rfl rfl rfl (hr)) ?_ | refine sl_op rfl rfl rfl (opv_call rfl rfl rfl rfl rfl (w1)) ?_ | refine sl_op rfl rfl rfl (opv_call rfl rfl rfl rfl rfl (w2)) ?_)
          | (refine gk 5 rfl ?_; first | refine sl_box rfl rfl rfl rfl rfl rfl (fun β => ?_) )
          | refine sl_region rfl ?_
          | refine sl_nil ?_
          | refine thn_k ?_
          | refine swp_ret ?_
          )
        refine end_pure (resOk_one (resV_tmp rfl)) ?_
        rfl
      · have w2 := (within_calls m.st 0 32).to (congrArg Value.bool e2)
        cases e3 : wi m.code.length 1 256
        · have w3 := (within_calls m.code.length 1 256).to (congrArg Value.bool e3)
          repeat' (first
            | refine swp_seq ?_
            | (refine gk 0 rfl ?_; first | refine sl_op rfl rfl rfl (by first | exact opv_move rfl rfl | exact opv_assign rfl rfl | exact opv_pick_t rfl rfl rfl | exact opv_pick_f rfl rfl rfl ) ?_ | refine sl_pass rfl rfl rfl rfl ?_)
            | (refine gk 3 rfl ?_; first | refine sl_op rfl rfl rfl (by first | exact opv_load rfl (by exact rfl) rfl (by exact rfl) | exact opv_fieldAddr rfl rfl ) ?_ | refine sl_pass rfl rfl rfl rfl ?_)
            | (refine gk 4 rfl ?_; first | refine sl_pass rfl rfl rfl rfl ?_ | refine sl_op rfl rfl rfl (by first | exact opv_len rfl rfl rfl rfl rfl ) ?_ | refine sl_op rfl rfl rfl (opv_call rfl rfl rfl rfl rfl (hr)) ?_ | refine sl_op rfl rfl rfl (opv_call rfl rfl rfl rfl rfl (w1)) ?_ | refine sl_op rfl rfl rfl (opv_call rfl rfl rfl rfl rfl (w2)) ?_ | refine sl_op rfl rfl rfl (opv_call rfl rfl rfl rfl rfl (w3)) ?_)
            | (refine gk 5 rfl ?_; first | refine sl_box rfl rfl rfl rfl rfl rfl (fun β => ?_) )
            | refine sl_region rfl ?_
            | refine sl_nil ?_
            | refine thn_k ?_
            | refine swp_ret ?_
            )
          refine end_pure (resOk_one (resV_tmp rfl)) ?_
          rfl
        · have w3 := (within_calls m.code.length 1 256).to (congrArg Value.bool e3)
          cases a
          · repeat' (first
              | refine swp_seq ?_
              | (refine gk 0 rfl ?_; first | refine sl_op rfl rfl rfl (by first | exact opv_move rfl rfl | exact opv_assign rfl rfl | exact opv_pick_t rfl rfl rfl | exact opv_not_f rfl rfl ) ?_ )
              | (refine gk 3 rfl ?_; first | refine sl_op rfl rfl rfl (by first | exact opv_load rfl (by exact rfl) rfl (by exact rfl) | exact opv_fieldAddr rfl rfl ) ?_ )
              | (refine gk 4 rfl ?_; first | refine sl_op rfl rfl rfl (by first | exact opv_len rfl rfl rfl rfl rfl ) ?_ | refine sl_op rfl rfl rfl (opv_call rfl rfl rfl rfl rfl (hr)) ?_ | refine sl_op rfl rfl rfl (opv_call rfl rfl rfl rfl rfl (w1)) ?_ | refine sl_op rfl rfl rfl (opv_call rfl rfl rfl rfl rfl (w2)) ?_ | refine sl_op rfl rfl rfl (opv_call rfl rfl rfl rfl rfl (w3)) ?_ | refine sl_op rfl rfl rfl (opv_call rfl rfl rfl rfl rfl (hc)) ?_)
              | (refine gk 5 rfl ?_; first | refine sl_box rfl rfl rfl rfl rfl rfl (fun β => ?_) )
              | refine sl_region rfl ?_
              | refine sl_nil ?_
              | refine thn_k ?_
              | refine swp_ret ?_
              )
            refine end_pure (resOk_one (resV_tmp rfl)) ?_
            rfl
          · repeat' (first
              | refine swp_seq ?_
              | (refine gk 0 rfl ?_; first | refine sl_op rfl rfl rfl (by first | exact opv_move rfl rfl | exact opv_assign rfl rfl | exact opv_pick_t rfl rfl rfl | exact opv_not_t rfl rfl ) ?_ )
              | (refine gk 3 rfl ?_; first | refine sl_op rfl rfl rfl (by first | exact opv_load rfl (by exact rfl) rfl (by exact rfl) | exact opv_fieldAddr rfl rfl ) ?_ )
              | (refine gk 4 rfl ?_; first | refine sl_op rfl rfl rfl (by first | exact opv_len rfl rfl rfl rfl rfl ) ?_ | refine sl_op rfl rfl rfl (opv_call rfl rfl rfl rfl rfl (hr)) ?_ | refine sl_op rfl rfl rfl (opv_call rfl rfl rfl rfl rfl (w1)) ?_ | refine sl_op rfl rfl rfl (opv_call rfl rfl rfl rfl rfl (w2)) ?_ | refine sl_op rfl rfl rfl (opv_call rfl rfl rfl rfl rfl (w3)) ?_ | refine sl_op rfl rfl rfl (opv_call rfl rfl rfl rfl rfl (hc)) ?_)
              | (refine gk 5 rfl ?_; first | refine sl_box rfl rfl rfl rfl rfl rfl (fun β => ?_) )
              | refine sl_region rfl ?_
              | refine sl_nil ?_
              | refine thn_k ?_
              | refine swp_ret ?_
              )
            refine end_pure (resOk_one (resV_tmp rfl)) ?_
            rfl
end Go.Proofs.YtjdjkcebflablaaDoor
