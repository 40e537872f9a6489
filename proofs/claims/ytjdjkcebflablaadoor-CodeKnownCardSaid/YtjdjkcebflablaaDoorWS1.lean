/- Images alike: the program's Same, walked. -/
import Derived.Test.YtjdjkcebflablaaDoorWB3
set_option linter.unusedVariables false
set_option linter.unusedSimpArgs false
set_option linter.unusedSectionVars false
namespace Go.Proofs.YtjdjkcebflablaaDoor
open Go.SL
set_option maxRecDepth 100000
set_option maxHeartbeats 16000000
attribute [local irreducible] SL.T PFn OpV SOL SWP HOp ChU
-- ALIAS Tryd
-- USE_L4
-- USE_L1
def listEq {α : Type} (p : α → α → Bool) : List α → List α → Bool
  | [], [] => true
  | a :: l, b :: m => p a b && listEq p l m
  | _, _ => false
theorem listEq_iff {α : Type} {p : α → α → Bool} (hp : ∀ a b, p a b = true ↔ a = b) : ∀ {l m : List α}, listEq p l m = true ↔ l = m
  | [], [] => by simp [listEq]
  | [], _ :: _ => by simp [listEq]
  | _ :: _, [] => by simp [listEq]
  | a :: l, b :: m => by simp [listEq, hp, listEq_iff hp]
theorem bool_no {b : Bool} {p : Prop} (h : b = true ↔ p) (hn : ¬ p) : b = false := by
  cases b with
  | false => rfl
  | true => exact absurd (h.1 rfl) hn
def eqI (x y : Ins) : Bool := decide (x.op = y.op) && (decide (x.a = y.a) && decide (x.b = y.b))
theorem eqI_iff (x y : Ins) : eqI x y = true ↔ x = y := by
  cases x; cases y; simp [eqI]
def eqM (m n : Me) : Bool := decide (m.params = n.params) && (decide (m.lo = n.lo) && (decide (m.st = n.st) && listEq eqI m.code n.code))
theorem eqM_iff (m n : Me) : eqM m n = true ↔ m = n := by
  cases m; cases n; simp [eqM, listEq_iff eqI_iff]
def eqIm (x y : Im) : Bool := decide (x.cls = y.cls) && listEq eqM x.ms y.ms
theorem eqIm_iff {x y : Im} : eqIm x y = true ↔ x = y := by
  cases x; cases y; simp [eqIm, listEq_iff eqM_iff]
theorem ne_at {α : Type} {l m : List α} {j : Nat} {x y : α} (hx : l[j]? = some x) (hy : m[j]? = some y) (h : x ≠ y) : l ≠ m := fun e => by
  rw [e, hy] at hx; cases hx; exact h rfl
theorem take_eq {α : Type} {l m : List α} {j : Nat} {x : α} (h : l.take j = m.take j) (hx : l[j]? = some x) (hy : m[j]? = some x) : l.take (j + 1) = m.take (j + 1) := by
  rw [List.take_add_one, List.take_add_one, hx, hy, h]
theorem equalK_calls (J : Heap) (b1 b2 : Option Addr) (n1 n2 c1 c2 : Nat) (l1 l2 : List Int) [Sl J b1 (l1.map i64)] [Sl J b2 (l2.map i64)] (h1 : l1.length = n1) (h2 : l2.length = n2) (hs1 : n1 ≤ 9223372036854775807) (hs2 : n2 ≤ 9223372036854775807) :
    PFn Tryd.prog 29 [.slice b1 n1 c1, .slice b2 n2 c2] [J] (.bool (decide (l1 = l2))) := by
  refine pure_of_body Tryd.func29 rfl (Nat.le_of_ble_eq_true rfl) fun F => ?_
  by_cases hn : n1 = n2
  · obtain rfl := hn
    repeat' (first
      | refine swp_seq ?_
      | (refine gk 0 rfl ?_; first | refine sl_op rfl rfl rfl (by first | exact opv_move rfl rfl | exact opv_assign rfl rfl ) ?_ )
      | (refine gk 2 rfl ?_; first | refine sl_no rfl rfl rfl (by first | exact opv_neq rfl rfl rfl) (by first | omega ) ?_ )
      | (refine gk 4 rfl ?_; first | refine sl_op rfl rfl rfl (by first | exact opv_len rfl rfl rfl rfl rfl ) ?_)
      | refine sl_region rfl ?_
      | refine sl_nil ?_
      | refine thn_k ?_
      | refine swp_false rfl ?_
      | refine swp_block ?_
      | refine swp_skip ?_
      )
    refine swp_loopS (fun j : Nat => [(0, .slice b1 n1 c1), (1, .slice b2 n1 c2), (12, i64 (n1 : Int)), (13, i64 (j : Int))]) (fun _ => [J]) (fun j => j ≤ n1 ∧ l1.take j = l2.take j) (fun j => n1 - j) 0 (by repeat first | exact Sub.nil _ | refine Sub.cons rfl ?_) ⟨Nat.zero_le _, by simp⟩ ?_
    rintro j ⟨hj1, hj2⟩
    by_cases hj : j < n1
    · obtain ⟨x, hx⟩ : ∃ z, l1[j]? = some z := ⟨_, List.getElem?_eq_getElem (by omega)⟩
      obtain ⟨y, hy⟩ : ∃ z, l2[j]? = some z := ⟨_, List.getElem?_eq_getElem (by omega)⟩
      have hk1 : ((j : Nat) : Int).toNat * 1 < (l1.map i64).length := by simp; omega
      have hk2 : ((j : Nat) : Int).toNat * 1 < (l2.map i64).length := by simp; omega
      have hcx : (l1.map i64)[((j : Nat) : Int).toNat * 1]? = some (i64 x) := by simp [hx]
      have hcy : (l2.map i64)[((j : Nat) : Int).toNat * 1]? = some (i64 y) := by simp [hy]
      by_cases hxy : x = y
      · subst hxy
        repeat' (first
          | refine swp_seq ?_
          | (refine gk 0 rfl ?_; first | refine sl_op rfl rfl rfl (by first | exact opv_move rfl rfl | exact opv_assign rfl rfl ) ?_ )
          | (refine gk 1 rfl ?_; first | refine sl_op rfl rfl rfl (by first | exact opv_add64 rfl rfl rfl (by omega) (by omega) ) ?_ )
          | (refine gk 2 rfl ?_; first | refine sl_yes rfl rfl rfl (by first | exact opv_lss rfl rfl rfl | exact opv_neq rfl rfl rfl) (by first | omega ) ?_ | refine sl_no rfl rfl rfl (by first | exact opv_neq rfl rfl rfl) (by first | omega ) ?_ )
          | (refine gk 3 rfl ?_; first | refine sl_op rfl rfl rfl (by first | exact opv_indexAddrI rfl rfl rfl (by omega) (by omega) (by first | omega ) | exact opv_loadEx rfl (by exact rfl) (by infer_instance) (by first | assumption ) ) ?_ )
          | refine sl_region rfl ?_
          | refine sl_draw (by kernel_rfl) (by kernel_rfl) rfl ?_
          | refine sl_nil ?_
          | refine thn_k ?_
          | refine swp_true rfl ?_
          | refine swp_false rfl ?_
          | refine swp_block ?_
          | refine swp_skip ?_
          )
        exact ⟨rfl, j + 1, next_ok (by repeat first | exact Sub.nil _ | refine Sub.cons rfl ?_), ⟨by omega, take_eq hj2 hx hy⟩, by omega⟩
      · repeat' (first
          | refine swp_seq ?_
          | (refine gk 0 rfl ?_; first | refine sl_op rfl rfl rfl (by first | exact opv_move rfl rfl | exact opv_assign rfl rfl ) ?_ )
          | (refine gk 2 rfl ?_; first | refine sl_yes rfl rfl rfl (by first | exact opv_lss rfl rfl rfl | exact opv_neq rfl rfl rfl) (by first | omega ) ?_ )
          | (refine gk 3 rfl ?_; first | refine sl_op rfl rfl rfl (by first | exact opv_indexAddrI rfl rfl rfl (by omega) (by omega) (by first | omega ) | exact opv_loadEx rfl (by exact rfl) (by infer_instance) (by first | assumption ) ) ?_ )
          | refine sl_region rfl ?_
          | refine sl_draw (by kernel_rfl) (by kernel_rfl) rfl ?_
          | refine sl_nil ?_
          | refine thn_k ?_
          | refine swp_true rfl ?_
          | refine swp_block ?_
          | refine swp_ret ?_
          | refine swp_skip ?_
          | refine thn_ret ?_
          | refine inb_ret ?_
          )
        refine end_pure (resOk_one (resV_tmp rfl)) ?_
        rw [decide_eq_false (ne_at hx hy hxy)]
    · rw [List.take_of_length_le (by omega), List.take_of_length_le (by omega)] at hj2
      repeat' (first
        | refine swp_seq ?_
        | (refine gk 0 rfl ?_; first | refine sl_op rfl rfl rfl (by first | exact opv_assign rfl rfl ) ?_ )
        | (refine gk 2 rfl ?_; first | refine sl_no rfl rfl rfl (by first | exact opv_lss rfl rfl rfl ) (by first | omega ) ?_ )
        | refine sl_region rfl ?_
        | refine sl_nil ?_
        | refine thn_k ?_
        | refine swp_false rfl ?_
        | refine swp_ret ?_
        | refine swp_exit ?_
        )
      refine end_pure (resOk_one (resV_tmp rfl)) ?_
      rw [decide_eq_true hj2]
  · repeat' (first
      | refine swp_seq ?_
      | (refine gk 0 rfl ?_; first | refine sl_op rfl rfl rfl (by first | exact opv_move rfl rfl | exact opv_assign rfl rfl ) ?_ )
      | (refine gk 2 rfl ?_; first | refine sl_yes rfl rfl rfl (by first | exact opv_neq rfl rfl rfl) (by first | omega ) ?_ )
      | (refine gk 4 rfl ?_; first | refine sl_op rfl rfl rfl (by first | exact opv_len rfl rfl rfl rfl rfl ) ?_)
      | refine sl_region rfl ?_
      | refine sl_nil ?_
      | refine thn_k ?_
      | refine swp_true rfl ?_
      | refine swp_ret ?_
      | refine thn_ret ?_
      )
    refine end_pure (resOk_one (resV_tmp rfl)) ?_
    rw [decide_eq_false fun e => hn (by rw [← h1, ← h2, e])]
theorem equalI_calls (J : Heap) (b1 b2 : Option Addr) (n1 n2 c1 c2 : Nat) (l1 l2 : List Ins) [Sl J b1 (flatI l1)] [Sl J b2 (flatI l2)] (h1 : l1.length = n1) (h2 : l2.length = n2) (hs1 : n1 ≤ 9223372036854775807) (hs2 : n2 ≤ 9223372036854775807) :
    PFn Tryd.prog 32 [.slice b1 n1 c1, .slice b2 n2 c2] [J] (.bool (listEq eqI l1 l2)) := by
  have hf1 := flatI_length l1
  have hf2 := flatI_length l2
  refine pure_of_body Tryd.func32 rfl (Nat.le_of_ble_eq_true rfl) fun F => ?_
  by_cases hn : n1 = n2
  · obtain rfl := hn
    repeat' (first
      | refine swp_seq ?_
      | (refine gk 0 rfl ?_; first | refine sl_op rfl rfl rfl (by first | exact opv_move rfl rfl | exact opv_assign rfl rfl ) ?_ )
      | (refine gk 2 rfl ?_; first | refine sl_no rfl rfl rfl (by first | exact opv_neq rfl rfl rfl) (by first | omega ) ?_ )
      | (refine gk 4 rfl ?_; first | refine sl_op rfl rfl rfl (by first | exact opv_len rfl rfl rfl rfl rfl ) ?_)
      | refine sl_region rfl ?_
      | refine sl_nil ?_
      | refine thn_k ?_
      | refine swp_false rfl ?_
      | refine swp_block ?_
      | refine swp_skip ?_
      )
    refine swp_loopS (fun j : Nat => [(0, .slice b1 n1 c1), (1, .slice b2 n1 c2), (12, i64 (n1 : Int)), (13, i64 (j : Int))]) (fun _ => [J]) (fun j => j ≤ n1 ∧ l1.take j = l2.take j) (fun j => n1 - j) 0 (by repeat first | exact Sub.nil _ | refine Sub.cons rfl ?_) ⟨Nat.zero_le _, by simp⟩ ?_
    rintro j ⟨hj1, hj2⟩
    by_cases hj : j < n1
    · obtain ⟨x, hx⟩ : ∃ z, l1[j]? = some z := ⟨_, List.getElem?_eq_getElem (by omega)⟩
      obtain ⟨y, hy⟩ : ∃ z, l2[j]? = some z := ⟨_, List.getElem?_eq_getElem (by omega)⟩
      have hk1 : ((j : Nat) : Int).toNat * 3 < (flatI l1).length := by simp; omega
      have hk2 : ((j : Nat) : Int).toNat * 3 < (flatI l2).length := by simp; omega
      obtain ⟨c0, c1', c2'⟩ := flatI_at hx
      obtain ⟨d0, d1, d2⟩ := flatI_at hy
      have hc0 : (flatI l1)[((j : Nat) : Int).toNat * 3]? = some (i64 x.op) := by simpa using c0
      have hc1 : (flatI l1)[((j : Nat) : Int).toNat * 3 + 1]? = some (i64 x.a) := by simpa using c1'
      have hc2 : (flatI l1)[((j : Nat) : Int).toNat * 3 + 2]? = some (i64 x.b) := by simpa using c2'
      have hd0 : (flatI l2)[((j : Nat) : Int).toNat * 3]? = some (i64 y.op) := by simpa using d0
      have hd1 : (flatI l2)[((j : Nat) : Int).toNat * 3 + 1]? = some (i64 y.a) := by simpa using d1
      have hd2 : (flatI l2)[((j : Nat) : Int).toNat * 3 + 2]? = some (i64 y.b) := by simpa using d2
      by_cases hxy : x = y
      · subst hxy
        repeat' (first
          | refine sl_ff rfl rfl rfl (opv_neqS rfl rfl rfl rfl) (by simp) ?_
          | refine swp_seq ?_
          | (refine gk 0 rfl ?_; first | refine sl_op rfl rfl rfl (by first | exact opv_move rfl rfl | exact opv_assign rfl rfl ) ?_ )
          | (refine gk 1 rfl ?_; first | refine sl_op rfl rfl rfl (by first | exact opv_add64 rfl rfl rfl (by omega) (by omega) ) ?_ )
          | (refine gk 2 rfl ?_; first | refine sl_yes rfl rfl rfl (by first | exact opv_lss rfl rfl rfl ) (by first | omega ) ?_ )
          | (refine gk 3 rfl ?_; first | refine sl_op rfl rfl rfl (by first | exact opv_indexAddrI rfl rfl rfl (by omega) (by omega) (by first | omega ) | exact opv_load3 rfl (by exact rfl) (by infer_instance) (by assumption) (by assumption) (by assumption) ) ?_ )
          | refine sl_region rfl ?_
          | refine sl_draw (by kernel_rfl) (by kernel_rfl) rfl ?_
          | refine sl_nil ?_
          | refine thn_k ?_
          | refine swp_true rfl ?_
          | refine swp_false rfl ?_
          | refine swp_block ?_
          | refine swp_skip ?_
          )
        exact ⟨rfl, j + 1, next_ok (by repeat first | exact Sub.nil _ | refine Sub.cons rfl ?_), ⟨by omega, take_eq hj2 hx hy⟩, by omega⟩
      · have hne : ¬ (x.op = y.op ∧ x.a = y.a ∧ x.b = y.b) := fun ⟨e1, e2, e3⟩ => hxy (by cases x; cases y; simp_all)
        have hb : (!(decide (x.op = y.op) && (decide (x.a = y.a) && (decide (x.b = y.b) && true)))) = true := by
          simp only [Bool.and_true, Bool.not_eq_true', Bool.and_eq_false_imp, decide_eq_true_eq, decide_eq_false_iff_not]
          exact fun e1 e2 e3 => hne ⟨e1, e2, e3⟩
        repeat' (first
          | refine swp_seq ?_
          | (refine gk 0 rfl ?_; first | refine sl_op rfl rfl rfl (by first | exact opv_move rfl rfl | exact opv_assign rfl rfl ) ?_ )
          | (refine gk 2 rfl ?_; first | refine sl_yes rfl rfl rfl (by first | exact opv_lss rfl rfl rfl ) (by first | omega ) ?_ | refine sl_tt rfl rfl rfl (by first | exact opv_neqS rfl rfl rfl rfl) (by first | assumption) ?_ )
          | (refine gk 3 rfl ?_; first | refine sl_op rfl rfl rfl (by first | exact opv_indexAddrI rfl rfl rfl (by omega) (by omega) (by first | omega ) | exact opv_load3 rfl (by exact rfl) (by infer_instance) (by assumption) (by assumption) (by assumption) ) ?_ )
          | refine sl_region rfl ?_
          | refine sl_draw (by kernel_rfl) (by kernel_rfl) rfl ?_
          | refine sl_nil ?_
          | refine thn_k ?_
          | refine swp_true rfl ?_
          | refine swp_block ?_
          | refine swp_ret ?_
          | refine swp_skip ?_
          | refine thn_ret ?_
          | refine inb_ret ?_
          )
        refine end_pure (resOk_one (resV_tmp rfl)) ?_
        rw [bool_no (listEq_iff eqI_iff) (ne_at hx hy hxy)]
    · rw [List.take_of_length_le (by omega), List.take_of_length_le (by omega)] at hj2
      repeat' (first
        | refine swp_seq ?_
        | (refine gk 0 rfl ?_; first | refine sl_op rfl rfl rfl (by first | exact opv_assign rfl rfl ) ?_ )
        | (refine gk 2 rfl ?_; first | refine sl_no rfl rfl rfl (by first | exact opv_lss rfl rfl rfl ) (by first | omega ) ?_ )
        | refine sl_region rfl ?_
        | refine sl_nil ?_
        | refine thn_k ?_
        | refine swp_false rfl ?_
        | refine swp_ret ?_
        | refine swp_exit ?_
        )
      refine end_pure (resOk_one (resV_tmp rfl)) ?_
      rw [(listEq_iff eqI_iff).2 hj2]
  · repeat' (first
      | refine swp_seq ?_
      | (refine gk 0 rfl ?_; first | refine sl_op rfl rfl rfl (by first | exact opv_move rfl rfl | exact opv_assign rfl rfl ) ?_ )
      | (refine gk 2 rfl ?_; first | refine sl_yes rfl rfl rfl (by first | exact opv_neq rfl rfl rfl) (by first | omega ) ?_ )
      | (refine gk 4 rfl ?_; first | refine sl_op rfl rfl rfl (by first | exact opv_len rfl rfl rfl rfl rfl ) ?_)
      | refine sl_region rfl ?_
      | refine sl_nil ?_
      | refine thn_k ?_
      | refine swp_true rfl ?_
      | refine swp_ret ?_
      | refine thn_ret ?_
      )
    refine end_pure (resOk_one (resV_tmp rfl)) ?_
    rw [bool_no (listEq_iff eqI_iff) fun e => hn (by rw [← h1, ← h2, e])]
theorem same1_calls (J : Heap) (b1 b2 : Option Addr) (n1 n2 c1 c2 : Nat) (l1 l2 : List Int) [Sl J b1 (l1.map i64)] [Sl J b2 (l2.map i64)] (h1 : l1.length = n1) (h2 : l2.length = n2) (hs1 : n1 ≤ 9223372036854775807) (hs2 : n2 ≤ 9223372036854775807) :
    PFn Tryd.prog 28 [.agg ⟨[.slice b1 n1 c1]⟩, .agg ⟨[.slice b2 n2 c2]⟩] [J] (.bool (decide (l1 = l2))) := by
  have hr := equalK_calls J b1 b2 n1 n2 c1 c2 l1 l2 h1 h2 hs1 hs2
  refine pure_of_body Tryd.func28 rfl (Nat.le_of_ble_eq_true rfl) fun F => ?_
  repeat' (first
    | refine swp_seq ?_
    | (refine gk 0 rfl ?_; first | refine sl_op rfl rfl rfl (by first | exact opv_assign rfl rfl ) ?_ )
    | (refine gk 3 rfl ?_; first | refine sl_op rfl rfl rfl (by first | exact opv_load rfl (by exact rfl) rfl (by exact rfl) | exact opv_fieldAddr rfl rfl ) ?_ )
    | (refine gk 4 rfl ?_; first | refine sl_op rfl rfl rfl (opv_call rfl rfl rfl rfl rfl (hr)) ?_)
    | (refine gk 5 rfl ?_; first | refine sl_box rfl rfl rfl rfl rfl rfl (fun β => ?_) )
    | refine sl_region rfl ?_
    | refine sl_nil ?_
    | refine thn_k ?_
    | refine swp_ret ?_
    )
  refine end_pure (resOk_one (resV_tmp rfl)) ?_
  rfl
theorem equalC_calls (J : Heap) (b1 b2 : Option Addr) (n1 n2 c1 c2 : Nat) (l1 l2 : List (List Int)) (i1 : ClsIn J l1 b1 n1) (i2 : ClsIn J l2 b2 n2) :
    PFn Tryd.prog 27 [.slice b1 n1 c1, .slice b2 n2 c2, .func (.func 28) #[] #[]] [J] (.bool (decide (l1 = l2))) := by
  obtain ⟨v1, sv1, hv1, h1, hs1, f1⟩ := i1
  obtain ⟨v2, sv2, hv2, h2, hs2, f2⟩ := i2
  haveI := sv1
  haveI := sv2
  refine pure_of_body Tryd.func27 rfl (Nat.le_of_ble_eq_true rfl) fun F => ?_
  by_cases hn : n1 = n2
  · obtain rfl := hn
    repeat' (first
      | refine swp_seq ?_
      | (refine gk 0 rfl ?_; first | refine sl_op rfl rfl rfl (by first | exact opv_move rfl rfl | exact opv_assign rfl rfl ) ?_ )
      | (refine gk 2 rfl ?_; first | refine sl_no rfl rfl rfl (by first | exact opv_neq rfl rfl rfl) (by first | omega ) ?_ )
      | (refine gk 4 rfl ?_; first | refine sl_op rfl rfl rfl (by first | exact opv_len rfl rfl rfl rfl rfl ) ?_)
      | refine sl_region rfl ?_
      | refine sl_nil ?_
      | refine thn_k ?_
      | refine swp_false rfl ?_
      | refine swp_block ?_
      | refine swp_skip ?_
      )
    refine swp_loopS (fun j : Nat => [(0, .slice b1 n1 c1), (1, .slice b2 n1 c2), (2, .func (.func 28) #[] #[]), (15, .slice b1 n1 c1), (16, i64 (n1 : Int)), (17, i64 (j : Int))]) (fun _ => [J]) (fun j => j ≤ n1 ∧ l1.take j = l2.take j) (fun j => n1 - j) 0 (by repeat first | exact Sub.nil _ | refine Sub.cons rfl ?_) ⟨Nat.zero_le _, by simp⟩ ?_
    rintro j ⟨hj1, hj2⟩
    by_cases hj : j < n1
    · obtain ⟨x, hx⟩ : ∃ z, l1[j]? = some z := ⟨_, List.getElem?_eq_getElem (by omega)⟩
      obtain ⟨y, hy⟩ : ∃ z, l2[j]? = some z := ⟨_, List.getElem?_eq_getElem (by omega)⟩
      obtain ⟨xb, xn, xc, g1, g2, g3, g4⟩ := f1 j x hx
      obtain ⟨yb, yn, yc, k1, k2, k3, k4⟩ := f2 j y hy
      haveI := g2
      haveI := k2
      have hk1 : ((j : Nat) : Int).toNat * 1 < v1.length := by simp; omega
      have hk2 : ((j : Nat) : Int).toNat * 1 < v2.length := by simp; omega
      have hcx : v1[((j : Nat) : Int).toNat * 1]? = some (.slice xb xn xc) := by simpa using g1
      have hcy : v2[((j : Nat) : Int).toNat * 1]? = some (.slice yb yn yc) := by simpa using k1
      have hr := same1_calls J xb yb xn yn xc yc x y g3 k3 g4 k4
      by_cases hxy : x = y
      · subst hxy
        rw [decide_eq_true rfl] at hr
        repeat' (first
          | refine swp_seq ?_
          | (refine gk 0 rfl ?_; first | refine sl_op rfl rfl rfl (by first | exact opv_move rfl rfl | exact opv_assign rfl rfl | exact opv_not_t rfl rfl ) ?_ )
          | (refine gk 1 rfl ?_; first | refine sl_op rfl rfl rfl (by first | exact opv_add64 rfl rfl rfl (by omega) (by omega) ) ?_ )
          | (refine gk 2 rfl ?_; first | refine sl_yes rfl rfl rfl (by first | exact opv_lss rfl rfl rfl ) (by first | omega ) ?_ )
          | (refine gk 3 rfl ?_; first | refine sl_op rfl rfl rfl (by first | exact opv_loadA rfl (by exact rfl) rfl (by exact rfl) (by exact rfl) | exact opv_indexAddrI rfl rfl rfl (by omega) (by omega) (by first | omega ) | exact opv_load1 rfl (by exact rfl) (by infer_instance) (by assumption)) ?_ )
          | (refine gk 4 rfl ?_; first | refine sl_op rfl rfl rfl (opv_call rfl rfl rfl rfl rfl (hr)) ?_)
          | (refine gk 5 rfl ?_; first | refine sl_alloc rfl rfl rfl rfl (by exact rfl) (fun β => ?_) | refine sl_store rfl rfl rfl rfl rfl rfl (by exact rfl) rfl (by exact rfl) ?_)
          | refine sl_region rfl ?_
          | refine sl_nil ?_
          | refine thn_k ?_
          | refine swp_true rfl ?_
          | refine swp_false rfl ?_
          | refine swp_block ?_
          | refine swp_skip ?_
          )
        exact ⟨rfl, j + 1, next_ok (by repeat first | exact Sub.nil _ | refine Sub.cons rfl ?_), ⟨by omega, take_eq hj2 hx hy⟩, by omega⟩
      · rw [decide_eq_false hxy] at hr
        repeat' (first
          | refine swp_seq ?_
          | (refine gk 0 rfl ?_; first | refine sl_op rfl rfl rfl (by first | exact opv_move rfl rfl | exact opv_assign rfl rfl | exact opv_not_f rfl rfl ) ?_ )
          | (refine gk 2 rfl ?_; first | refine sl_yes rfl rfl rfl (by first | exact opv_lss rfl rfl rfl ) (by first | omega ) ?_ )
          | (refine gk 3 rfl ?_; first | refine sl_op rfl rfl rfl (by first | exact opv_loadA rfl (by exact rfl) rfl (by exact rfl) (by exact rfl) | exact opv_indexAddrI rfl rfl rfl (by omega) (by omega) (by first | omega ) | exact opv_load1 rfl (by exact rfl) (by infer_instance) (by assumption)) ?_ )
          | (refine gk 4 rfl ?_; first | refine sl_op rfl rfl rfl (opv_call rfl rfl rfl rfl rfl (hr)) ?_)
          | (refine gk 5 rfl ?_; first | refine sl_alloc rfl rfl rfl rfl (by exact rfl) (fun β => ?_) | refine sl_store rfl rfl rfl rfl rfl rfl (by exact rfl) rfl (by exact rfl) ?_)
          | refine sl_region rfl ?_
          | refine sl_nil ?_
          | refine thn_k ?_
          | refine swp_true rfl ?_
          | refine swp_block ?_
          | refine swp_ret ?_
          | refine swp_skip ?_
          | refine thn_ret ?_
          | refine inb_ret ?_
          )
        refine end_pure (resOk_one (resV_tmp rfl)) ?_
        rw [decide_eq_false (ne_at hx hy hxy)]
    · rw [List.take_of_length_le (by omega), List.take_of_length_le (by omega)] at hj2
      repeat' (first
        | refine swp_seq ?_
        | (refine gk 0 rfl ?_; first | refine sl_op rfl rfl rfl (by first | exact opv_assign rfl rfl ) ?_ )
        | (refine gk 2 rfl ?_; first | refine sl_no rfl rfl rfl (by first | exact opv_lss rfl rfl rfl ) (by first | omega ) ?_ )
        | refine sl_region rfl ?_
        | refine sl_nil ?_
        | refine thn_k ?_
        | refine swp_false rfl ?_
        | refine swp_ret ?_
        | refine swp_exit ?_
        )
      refine end_pure (resOk_one (resV_tmp rfl)) ?_
      rw [decide_eq_true hj2]
  · repeat' (first
      | refine swp_seq ?_
      | (refine gk 0 rfl ?_; first | refine sl_op rfl rfl rfl (by first | exact opv_move rfl rfl | exact opv_assign rfl rfl ) ?_ )
      | (refine gk 2 rfl ?_; first | refine sl_yes rfl rfl rfl (by first | exact opv_neq rfl rfl rfl) (by first | omega ) ?_ )
      | (refine gk 4 rfl ?_; first | refine sl_op rfl rfl rfl (by first | exact opv_len rfl rfl rfl rfl rfl ) ?_)
      | refine sl_region rfl ?_
      | refine sl_nil ?_
      | refine thn_k ?_
      | refine swp_true rfl ?_
      | refine swp_ret ?_
      | refine thn_ret ?_
      )
    refine end_pure (resOk_one (resV_tmp rfl)) ?_
    rw [decide_eq_false fun e => hn (by rw [← h1, ← h2, e])]
abbrev meV (pb cb : Option Addr) (pn pc cn cc : Nat) (m : Me) : Value := .agg ⟨[.slice pb pn pc, i64 m.lo, i64 m.st, .slice cb cn cc]⟩
theorem same2_calls (J : Heap) (pb cb qb db : Option Addr) (pn pc cn cc qn qc dn dc : Nat) (m n : Me) [Sl J pb (m.params.map i64)] [Sl J cb (flatI m.code)] [Sl J qb (n.params.map i64)] [Sl J db (flatI n.code)]
    (h1 : m.params.length = pn) (h2 : m.code.length = cn) (h3 : n.params.length = qn) (h4 : n.code.length = dn) (s1 : pn ≤ 9223372036854775807) (s2 : cn ≤ 9223372036854775807) (s3 : qn ≤ 9223372036854775807) (s4 : dn ≤ 9223372036854775807) :
    PFn Tryd.prog 31 [meV pb cb pn pc cn cc m, meV qb db qn qc dn dc n] [J] (.bool (eqM m n)) := by
  have hk := equalK_calls J pb qb pn qn pc qc m.params n.params h1 h3 s1 s3
  have hi := equalI_calls J cb db cn dn cc dc m.code n.code h2 h4 s2 s4
  refine pure_of_body Tryd.func31 rfl (Nat.le_of_ble_eq_true rfl) fun F => ?_
  unfold eqM
  by_cases e1 : m.params = n.params
  · rw [decide_eq_true e1] at hk ⊢
    by_cases e2 : m.lo = n.lo
    · rw [decide_eq_true e2]
      by_cases e3 : m.st = n.st
      · rw [decide_eq_true e3]
        repeat' (first
          | refine swp_seq ?_
          | (refine gk 0 rfl ?_; first | refine sl_op rfl rfl rfl (by first | exact opv_move rfl rfl | exact opv_assign rfl rfl | exact opv_pick_t rfl rfl rfl ) ?_ )
          | (refine gk 2 rfl ?_; first | refine sl_yes rfl rfl rfl (by first | exact opv_eql rfl rfl rfl ) (by first | omega ) ?_ )
          | (refine gk 3 rfl ?_; first | refine sl_op rfl rfl rfl (by first | exact opv_load rfl (by exact rfl) rfl (by exact rfl) | exact opv_fieldAddr rfl rfl ) ?_ )
          | (refine gk 4 rfl ?_; first | refine sl_op rfl rfl rfl (opv_call rfl rfl rfl rfl rfl (hk)) ?_ | refine sl_op rfl rfl rfl (opv_call rfl rfl rfl rfl rfl (hi)) ?_)
          | (refine gk 5 rfl ?_; first | refine sl_box rfl rfl rfl rfl rfl rfl (fun β => ?_) )
          | refine sl_region rfl ?_
          | refine sl_nil ?_
          | refine thn_k ?_
          | refine swp_ret ?_
          )
        refine end_pure (resOk_one (resV_tmp rfl)) ?_
        rfl
      · rw [decide_eq_false e3]
        repeat' (first
          | refine swp_seq ?_
          | (refine gk 0 rfl ?_; first | refine sl_op rfl rfl rfl (by first | exact opv_move rfl rfl | exact opv_assign rfl rfl | exact opv_pick_t rfl rfl rfl | exact opv_pick_f rfl rfl rfl ) ?_ )
          | (refine gk 2 rfl ?_; first | refine sl_yes rfl rfl rfl (by first | exact opv_eql rfl rfl rfl ) (by first | omega ) ?_ | refine sl_no rfl rfl rfl (by first | exact opv_eql rfl rfl rfl ) (by first | omega ) ?_ )
          | (refine gk 3 rfl ?_; first | refine sl_op rfl rfl rfl (by first | exact opv_load rfl (by exact rfl) rfl (by exact rfl) | exact opv_fieldAddr rfl rfl ) ?_ | refine sl_pass rfl rfl rfl rfl ?_)
          | (refine gk 4 rfl ?_; first | refine sl_pass rfl rfl rfl rfl ?_ | refine sl_op rfl rfl rfl (opv_call rfl rfl rfl rfl rfl (hk)) ?_)
          | (refine gk 5 rfl ?_; first | refine sl_box rfl rfl rfl rfl rfl rfl (fun β => ?_) )
          | refine sl_region rfl ?_
          | refine sl_nil ?_
          | refine thn_k ?_
          | refine swp_ret ?_
          )
        refine end_pure (resOk_one (resV_tmp rfl)) ?_
        rfl
    · rw [decide_eq_false e2]
      repeat' (first
        | refine swp_seq ?_
        | (refine gk 0 rfl ?_; first | refine sl_op rfl rfl rfl (by first | exact opv_move rfl rfl | exact opv_assign rfl rfl | exact opv_pick_t rfl rfl rfl | exact opv_pick_f rfl rfl rfl ) ?_ )
        | (refine gk 2 rfl ?_; first | refine sl_pass rfl rfl rfl rfl ?_ | refine sl_no rfl rfl rfl (by first | exact opv_eql rfl rfl rfl ) (by first | omega ) ?_ )
        | (refine gk 3 rfl ?_; first | refine sl_op rfl rfl rfl (by first | exact opv_load rfl (by exact rfl) rfl (by exact rfl) | exact opv_fieldAddr rfl rfl ) ?_ | refine sl_pass rfl rfl rfl rfl ?_)
        | (refine gk 4 rfl ?_; first | refine sl_pass rfl rfl rfl rfl ?_ | refine sl_op rfl rfl rfl (opv_call rfl rfl rfl rfl rfl (hk)) ?_)
        | (refine gk 5 rfl ?_; first | refine sl_box rfl rfl rfl rfl rfl rfl (fun β => ?_) )
        | refine sl_region rfl ?_
        | refine sl_nil ?_
        | refine thn_k ?_
        | refine swp_ret ?_
        )
      refine end_pure (resOk_one (resV_tmp rfl)) ?_
      rfl
  · rw [decide_eq_false e1] at hk ⊢
    repeat' (first
      | refine swp_seq ?_
      | (refine gk 0 rfl ?_; first | refine sl_op rfl rfl rfl (by first | exact opv_move rfl rfl | exact opv_assign rfl rfl | exact opv_pick_f rfl rfl rfl ) ?_ )
      | (refine gk 2 rfl ?_; first | refine sl_pass rfl rfl rfl rfl ?_ )
      | (refine gk 3 rfl ?_; first | refine sl_op rfl rfl rfl (by first | exact opv_load rfl (by exact rfl) rfl (by exact rfl) | exact opv_fieldAddr rfl rfl ) ?_ | refine sl_pass rfl rfl rfl rfl ?_)
      | (refine gk 4 rfl ?_; first | refine sl_pass rfl rfl rfl rfl ?_ | refine sl_op rfl rfl rfl (opv_call rfl rfl rfl rfl rfl (hk)) ?_)
      | (refine gk 5 rfl ?_; first | refine sl_box rfl rfl rfl rfl rfl rfl (fun β => ?_) )
      | refine sl_region rfl ?_
      | refine sl_nil ?_
      | refine thn_k ?_
      | refine swp_ret ?_
      )
    refine end_pure (resOk_one (resV_tmp rfl)) ?_
    rfl
theorem equalM_calls (J : Heap) (b1 b2 : Option Addr) (n1 n2 c1 c2 : Nat) (l1 l2 : List Me) (i1 : MsIn J l1 b1 n1) (i2 : MsIn J l2 b2 n2) :
    PFn Tryd.prog 30 [.slice b1 n1 c1, .slice b2 n2 c2, .func (.func 31) #[] #[]] [J] (.bool (listEq eqM l1 l2)) := by
  obtain ⟨v1, sv1, hv1, h1, hs1, f1⟩ := i1
  obtain ⟨v2, sv2, hv2, h2, hs2, f2⟩ := i2
  haveI := sv1
  haveI := sv2
  refine pure_of_body Tryd.func30 rfl (Nat.le_of_ble_eq_true rfl) fun F => ?_
  by_cases hn : n1 = n2
  · obtain rfl := hn
    repeat' (first
      | refine swp_seq ?_
      | (refine gk 0 rfl ?_; first | refine sl_op rfl rfl rfl (by first | exact opv_move rfl rfl | exact opv_assign rfl rfl ) ?_ )
      | (refine gk 2 rfl ?_; first | refine sl_no rfl rfl rfl (by first | exact opv_neq rfl rfl rfl) (by first | omega ) ?_ )
      | (refine gk 4 rfl ?_; first | refine sl_op rfl rfl rfl (by first | exact opv_len rfl rfl rfl rfl rfl ) ?_)
      | refine sl_region rfl ?_
      | refine sl_nil ?_
      | refine thn_k ?_
      | refine swp_false rfl ?_
      | refine swp_block ?_
      | refine swp_skip ?_
      )
    refine swp_loopS (fun j : Nat => [(0, .slice b1 n1 c1), (1, .slice b2 n1 c2), (2, .func (.func 31) #[] #[]), (15, .slice b1 n1 c1), (16, i64 (n1 : Int)), (17, i64 (j : Int))]) (fun _ => [J]) (fun j => j ≤ n1 ∧ l1.take j = l2.take j) (fun j => n1 - j) 0 (by repeat first | exact Sub.nil _ | refine Sub.cons rfl ?_) ⟨Nat.zero_le _, by simp⟩ ?_
    rintro j ⟨hj1, hj2⟩
    by_cases hj : j < n1
    · obtain ⟨x, hx⟩ : ∃ z, l1[j]? = some z := ⟨_, List.getElem?_eq_getElem (by omega)⟩
      obtain ⟨y, hy⟩ : ∃ z, l2[j]? = some z := ⟨_, List.getElem?_eq_getElem (by omega)⟩
      obtain ⟨pb, pn, pc, cb, cn, cc, g1, g2, g3, g4, g5, g6, g7, g8, g9, g10, g11⟩ := f1 j x hx
      obtain ⟨qb, qn, qc, db, dn, dc, k1, k2, k3, k4, k5, k6, k7, k8, k9, k10, k11⟩ := f2 j y hy
      haveI := g5
      haveI := g8
      haveI := k5
      haveI := k8
      have hk1 : ((j : Nat) : Int).toNat * 4 < v1.length := by simp; omega
      have hk2 : ((j : Nat) : Int).toNat * 4 < v2.length := by simp; omega
      have hx0 : v1[((j : Nat) : Int).toNat * 4]? = some (.slice pb pn pc) := by simpa using g1
      have hx1 : v1[((j : Nat) : Int).toNat * 4 + 1]? = some (i64 x.lo) := by simpa using g2
      have hx2 : v1[((j : Nat) : Int).toNat * 4 + 2]? = some (i64 x.st) := by simpa using g3
      have hx3 : v1[((j : Nat) : Int).toNat * 4 + 3]? = some (.slice cb cn cc) := by simpa using g4
      have hy0 : v2[((j : Nat) : Int).toNat * 4]? = some (.slice qb qn qc) := by simpa using k1
      have hy1 : v2[((j : Nat) : Int).toNat * 4 + 1]? = some (i64 y.lo) := by simpa using k2
      have hy2 : v2[((j : Nat) : Int).toNat * 4 + 2]? = some (i64 y.st) := by simpa using k3
      have hy3 : v2[((j : Nat) : Int).toNat * 4 + 3]? = some (.slice db dn dc) := by simpa using k4
      have hr := same2_calls J pb cb qb db pn pc cn cc qn qc dn dc x y g6 g9 k6 k9 g7 g11 k7 k11
      by_cases hxy : x = y
      · subst hxy
        rw [(eqM_iff x x).2 rfl] at hr
        repeat' (first
          | refine swp_seq ?_
          | (refine gk 0 rfl ?_; first | refine sl_op rfl rfl rfl (by first | exact opv_move rfl rfl | exact opv_assign rfl rfl | exact opv_not_t rfl rfl ) ?_ )
          | (refine gk 1 rfl ?_; first | refine sl_op rfl rfl rfl (by first | exact opv_add64 rfl rfl rfl (by omega) (by omega) ) ?_ )
          | (refine gk 2 rfl ?_; first | refine sl_yes rfl rfl rfl (by first | exact opv_lss rfl rfl rfl ) (by first | omega ) ?_ )
          | (refine gk 3 rfl ?_; first | refine sl_op rfl rfl rfl (by first | exact opv_loadA rfl (by exact rfl) rfl (by exact rfl) (by exact rfl) | exact opv_indexAddrI rfl rfl rfl (by omega) (by omega) (by first | omega ) | exact opv_load4 rfl (by exact rfl) (by infer_instance) (by assumption) (by assumption) (by assumption) (by assumption) ) ?_ )
          | (refine gk 4 rfl ?_; first | refine sl_op rfl rfl rfl (opv_call rfl rfl rfl rfl rfl (hr)) ?_)
          | (refine gk 5 rfl ?_; first | refine sl_alloc rfl rfl rfl rfl (by exact rfl) (fun β => ?_) | refine sl_store rfl rfl rfl rfl rfl rfl (by exact rfl) rfl (by exact rfl) ?_)
          | refine sl_region rfl ?_
          | refine sl_nil ?_
          | refine thn_k ?_
          | refine swp_true rfl ?_
          | refine swp_false rfl ?_
          | refine swp_block ?_
          | refine swp_skip ?_
          )
        exact ⟨rfl, j + 1, next_ok (by repeat first | exact Sub.nil _ | refine Sub.cons rfl ?_), ⟨by omega, take_eq hj2 hx hy⟩, by omega⟩
      · rw [bool_no (eqM_iff x y) hxy] at hr
        repeat' (first
          | refine swp_seq ?_
          | (refine gk 0 rfl ?_; first | refine sl_op rfl rfl rfl (by first | exact opv_move rfl rfl | exact opv_assign rfl rfl | exact opv_not_f rfl rfl ) ?_ )
          | (refine gk 2 rfl ?_; first | refine sl_yes rfl rfl rfl (by first | exact opv_lss rfl rfl rfl ) (by first | omega ) ?_ )
          | (refine gk 3 rfl ?_; first | refine sl_op rfl rfl rfl (by first | exact opv_loadA rfl (by exact rfl) rfl (by exact rfl) (by exact rfl) | exact opv_indexAddrI rfl rfl rfl (by omega) (by omega) (by first | omega ) | exact opv_load4 rfl (by exact rfl) (by infer_instance) (by assumption) (by assumption) (by assumption) (by assumption) ) ?_ )
          | (refine gk 4 rfl ?_; first | refine sl_op rfl rfl rfl (opv_call rfl rfl rfl rfl rfl (hr)) ?_)
          | (refine gk 5 rfl ?_; first | refine sl_alloc rfl rfl rfl rfl (by exact rfl) (fun β => ?_) | refine sl_store rfl rfl rfl rfl rfl rfl (by exact rfl) rfl (by exact rfl) ?_)
          | refine sl_region rfl ?_
          | refine sl_nil ?_
          | refine thn_k ?_
          | refine swp_true rfl ?_
          | refine swp_block ?_
          | refine swp_ret ?_
          | refine swp_skip ?_
          | refine thn_ret ?_
          | refine inb_ret ?_
          )
        refine end_pure (resOk_one (resV_tmp rfl)) ?_
        rw [bool_no (listEq_iff eqM_iff) (ne_at hx hy hxy)]
    · rw [List.take_of_length_le (by omega), List.take_of_length_le (by omega)] at hj2
      repeat' (first
        | refine swp_seq ?_
        | (refine gk 0 rfl ?_; first | refine sl_op rfl rfl rfl (by first | exact opv_assign rfl rfl ) ?_ )
        | (refine gk 2 rfl ?_; first | refine sl_no rfl rfl rfl (by first | exact opv_lss rfl rfl rfl ) (by first | omega ) ?_ )
        | refine sl_region rfl ?_
        | refine sl_nil ?_
        | refine thn_k ?_
        | refine swp_false rfl ?_
        | refine swp_ret ?_
        | refine swp_exit ?_
        )
      refine end_pure (resOk_one (resV_tmp rfl)) ?_
      rw [(listEq_iff eqM_iff).2 hj2]
  · repeat' (first
      | refine swp_seq ?_
      | (refine gk 0 rfl ?_; first | refine sl_op rfl rfl rfl (by first | exact opv_move rfl rfl | exact opv_assign rfl rfl ) ?_ )
      | (refine gk 2 rfl ?_; first | refine sl_yes rfl rfl rfl (by first | exact opv_neq rfl rfl rfl) (by first | omega ) ?_ )
      | (refine gk 4 rfl ?_; first | refine sl_op rfl rfl rfl (by first | exact opv_len rfl rfl rfl rfl rfl ) ?_)
      | refine sl_region rfl ?_
      | refine sl_nil ?_
      | refine thn_k ?_
      | refine swp_true rfl ?_
      | refine swp_ret ?_
      | refine thn_ret ?_
      )
    refine end_pure (resOk_one (resV_tmp rfl)) ?_
    rw [bool_no (listEq_iff eqM_iff) fun e => hn (by rw [← h1, ← h2, e])]
theorem Same_calls (J : Heap) (x y : Im) (v w : Value) (hx : ImIn J x v) (hy : ImIn J y w) : PFn Tryd.prog 13 [v, w] [J] (.bool (eqIm x y)) := by
  obtain ⟨clb, cln, clc, mb, mn, mc, rfl, hc, hm, -, -⟩ := hx
  obtain ⟨dlb, dln, dlc, nb, nn, nc, rfl, hd, hn, -, -⟩ := hy
  have h1 := equalC_calls J clb dlb cln dln clc dlc x.cls y.cls hc hd
  have h2 := equalM_calls J mb nb mn nn mc nc x.ms y.ms hm hn
  refine pure_of_body Tryd.func13 rfl (Nat.le_of_ble_eq_true rfl) fun F => ?_
  unfold eqIm
  by_cases e1 : x.cls = y.cls
  · rw [decide_eq_true e1] at h1 ⊢
    repeat' (first
      | refine swp_seq ?_
      | (refine gk 0 rfl ?_; first | refine sl_op rfl rfl rfl (by first | exact opv_move rfl rfl | exact opv_assign rfl rfl | exact opv_pick_t rfl rfl rfl ) ?_ )
      | (refine gk 3 rfl ?_; first | refine sl_op rfl rfl rfl (by first | exact opv_load rfl (by exact rfl) rfl (by exact rfl) | exact opv_fieldAddr rfl rfl ) ?_ )
      | (refine gk 4 rfl ?_; first | refine sl_op rfl rfl rfl (opv_call rfl rfl rfl rfl rfl (h1)) ?_ | refine sl_op rfl rfl rfl (opv_call rfl rfl rfl rfl rfl (h2)) ?_)
      | (refine gk 5 rfl ?_; first | refine sl_box rfl rfl rfl rfl rfl rfl (fun β => ?_) )
      | refine sl_region rfl ?_
      | refine sl_nil ?_
      | refine thn_k ?_
      | refine swp_ret ?_
      )
    refine end_pure (resOk_one (resV_tmp rfl)) ?_
    rfl
  · rw [decide_eq_false e1] at h1 ⊢
    repeat' (first
      | refine swp_seq ?_
      | (refine gk 0 rfl ?_; first | refine sl_op rfl rfl rfl (by first | exact opv_move rfl rfl | exact opv_assign rfl rfl | exact opv_pick_f rfl rfl rfl ) ?_ )
      | (refine gk 3 rfl ?_; first | refine sl_op rfl rfl rfl (by first | exact opv_load rfl (by exact rfl) rfl (by exact rfl) | exact opv_fieldAddr rfl rfl ) ?_ | refine sl_pass rfl rfl rfl rfl ?_)
      | (refine gk 4 rfl ?_; first | refine sl_pass rfl rfl rfl rfl ?_ | refine sl_op rfl rfl rfl (opv_call rfl rfl rfl rfl rfl (h1)) ?_)
      | (refine gk 5 rfl ?_; first | refine sl_box rfl rfl rfl rfl rfl rfl (fun β => ?_) )
      | refine sl_region rfl ?_
      | refine sl_nil ?_
      | refine thn_k ?_
      | refine swp_ret ?_
      )
    refine end_pure (resOk_one (resV_tmp rfl)) ?_
    rfl
end Go.Proofs.YtjdjkcebflablaaDoor
