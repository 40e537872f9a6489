/- What may be taken out of lists; kinds that fit. -/
import Derived.Test.YtnfepffmlhmmhaaWB3
import Derived.Test.YtnfepffmlhmmhaaSlG8
namespace Go.Proofs.Ytnfepffmlhmmhaa
open Go.SL
set_option maxRecDepth 100000
set_option maxHeartbeats 16000000
attribute [local irreducible] SL.T PFn OpV SOL SWP HOp ChU
-- USE_L4
-- USE_IE
structure Ins where
  op : Int
  a : Int
  b : Int
def flatI : List Ins → List Value
  | [] => []
  | x :: l => i64 x.op :: i64 x.a :: i64 x.b :: flatI l
theorem flatI_length : ∀ (l : List Ins), (flatI l).length = l.length * 3
  | [] => rfl
  | x :: l => by simp [flatI, flatI_length l]; omega
theorem flatI_at : ∀ {l : List Ins} {j : Nat} {x : Ins}, l[j]? = some x → (flatI l)[j * 3]? = some (i64 x.op) ∧ (flatI l)[j * 3 + 1]? = some (i64 x.a) ∧ (flatI l)[j * 3 + 2]? = some (i64 x.b)
  | y :: l, 0, x, h => by
    simp at h; subst h
    exact ⟨rfl, rfl, rfl⟩
  | y :: l, j + 1, x, h => by
    have ih := flatI_at (l := l) (j := j) (x := x) (by simpa using h)
    have e : (j + 1) * 3 = j * 3 + 1 + 1 + 1 := by omega
    refine ⟨?_, ?_, ?_⟩
    · rw [e]; exact ih.1
    · rw [e]; exact ih.2.1
    · rw [e]; exact ih.2.2
theorem am40_yes (own : List Heap) (b : Option Addr) (n c : Nat) (xs : List Int) (i v : Int) [SlIn own b (xs.map i64)] (h1 : xs.length = n) (hsm : n ≤ 4000000) (h : 0 ≤ i ∧ i < n) (hv : xs[i.toNat]? = some v) :
    PFn Try.prog 40 [.slice b n c, i64 i] own (.tuple #[i64 v, .bool true]) := by
  obtain ⟨h2, h3⟩ := h
  have hc : (xs.map i64)[i.toNat * 1]? = some (i64 v) := by simp [hv]
  refine pure_of_body Try.func40 rfl (Nat.le_of_ble_eq_true rfl) fun F => ?_
  repeat' (first
    | refine swp_seq ?_
    | (refine gk 0 rfl ?_; first | refine sl_op rfl rfl rfl (by first | exact opv_move rfl rfl | exact opv_assign rfl rfl | exact opv_pick_f rfl rfl rfl ) ?_ )
    | (refine gk 2 rfl ?_; first | refine sl_no rfl rfl rfl (by first | exact opv_lss rfl rfl rfl | exact opv_geq rfl rfl rfl ) (by first | omega ) ?_ )
    | (refine gk 3 rfl ?_; first | refine sl_op rfl rfl rfl (by first | exact opv_indexAddrI rfl rfl rfl (by omega) (by omega) (by first | (simp only [List.length_map]; omega) ) | exact opv_loadEx rfl (by exact rfl) (by infer_instance) (by first | assumption ) ) ?_ )
    | (refine gk 4 rfl ?_; first | refine sl_op rfl rfl rfl (by first | exact opv_len rfl rfl rfl rfl rfl ) ?_)
    | refine sl_region rfl ?_
    | refine sl_nil ?_
    | refine thn_k ?_
    | refine swp_false rfl ?_
    | refine swp_ret ?_
    | refine swp_skip ?_
    )
  refine end_pure (resOk_two (resV_tmp rfl) (resV_tmp rfl)) ?_
  rfl
theorem am40_no (own : List Heap) (b : Option Addr) (n c : Nat) (i : Int) (hsm : n ≤ 4000000) (h : ¬ (0 ≤ i ∧ i < n)) :
    PFn Try.prog 40 [.slice b n c, i64 i] own (.tuple #[i64 0, .bool false]) := by
  refine pure_of_body Try.func40 rfl (Nat.le_of_ble_eq_true rfl) fun F => ?_
  repeat' (first
    | refine swp_seq ?_
    | (refine gk 0 rfl ?_; first | refine sl_op rfl rfl rfl (by first | exact opv_move rfl rfl | exact opv_assign rfl rfl | exact opv_pick_t rfl rfl rfl | exact opv_pick_f rfl rfl rfl ) ?_ | refine sl_pass rfl rfl rfl rfl ?_)
    | (refine gk 2 rfl ?_; first | refine sl_pass rfl rfl rfl rfl ?_ | refine sl_yes rfl rfl rfl (by first | exact opv_lss rfl rfl rfl | exact opv_geq rfl rfl rfl ) (by first | omega ) ?_ | refine sl_if rfl rfl rfl (by first | exact opv_lss rfl rfl rfl ) (fun h => ?_) (fun h => ?_) )
    | (refine gk 4 rfl ?_; first | refine sl_pass rfl rfl rfl rfl ?_ | refine sl_op rfl rfl rfl (by first | exact opv_len rfl rfl rfl rfl rfl ) ?_)
    | refine sl_region rfl ?_
    | refine sl_nil ?_
    | refine thn_k ?_
    | refine swp_true rfl ?_
    | refine swp_ret ?_
    | refine thn_ret ?_
    )
  all_goals first | (exfalso; omega) | exact end_pure (resOk_two (resV_tmp rfl) (resV_tmp rfl)) rfl
theorem am39_yes (own : List Heap) (b : Option Addr) (n c : Nat) (xs : List Value) (i : Int) (v : Value) [SlIn own b xs] (h1 : xs.length = n) (hsm : n ≤ 4000000) (h : 0 ≤ i ∧ i < n) (hv : xs[i.toNat]? = some v) (ho : v.oneCell' = true) :
    PFn Try.prog 39 [.slice b n c, i64 i] own (.tuple #[.agg ⟨[v]⟩, .bool true]) := by
  obtain ⟨h2, h3⟩ := h
  have hc : xs[i.toNat * 1]? = some v := by simp [hv]
  have hl : i.toNat * 1 < xs.length := by omega
  have ho2 : [v].all (·.oneCell') = true := by simp [ho]
  have hcj : ∀ j w, [v][j]? = some w → xs[i.toNat * 1 + j]? = some w := fun j w hj => by
    match j, hj with
    | 0, hj => simp at hj; subst hj; exact hc
  refine pure_of_body Try.func39 rfl (Nat.le_of_ble_eq_true rfl) fun F => ?_
  repeat' (first
    | refine sl_op rfl rfl rfl (opv_loadEA (vs := [v]) rfl (by exact rfl) (Nat.succ_pos 0) rfl hcj) ?_
    | refine sl_store rfl rfl rfl rfl rfl rfl (by exact rfl) ho2 (by exact rfl) ?_
    | refine swp_seq ?_
    | (refine gk 0 rfl ?_; first | refine sl_op rfl rfl rfl (by first | exact opv_move rfl rfl | exact opv_assign rfl rfl | exact opv_pick_f rfl rfl rfl ) ?_ )
    | (refine gk 2 rfl ?_; first | refine sl_no rfl rfl rfl (by first | exact opv_lss rfl rfl rfl | exact opv_geq rfl rfl rfl ) (by first | omega ) ?_ )
    | (refine gk 3 rfl ?_; first | refine sl_op rfl rfl rfl (by first | exact opv_indexAddrI rfl rfl rfl (by omega) (by omega) (by first | omega ) ) ?_ )
    | (refine gk 4 rfl ?_; first | refine sl_op rfl rfl rfl (by first | exact opv_len rfl rfl rfl rfl rfl ) ?_)
    | (refine gk 5 rfl ?_; first | refine sl_alloc rfl rfl rfl rfl (by exact rfl) (fun β => ?_) )
    | refine sl_region rfl ?_
    | refine sl_nil ?_
    | refine thn_k ?_
    | refine swp_false rfl ?_
    | refine swp_ret ?_
    | refine swp_skip ?_
    )
  exact end_pure (resOk_two (resV_cellA rfl rfl rfl rfl) (resV_tmp rfl)) rfl
theorem am39_no (own : List Heap) (b : Option Addr) (n c : Nat) (i : Int) (hsm : n ≤ 4000000) (h : ¬ (0 ≤ i ∧ i < n)) :
    PFn Try.prog 39 [.slice b n c, i64 i] own (.tuple #[.agg ⟨[.slice none 0 0]⟩, .bool false]) := by
  refine pure_of_body Try.func39 rfl (Nat.le_of_ble_eq_true rfl) fun F => ?_
  repeat' (first
    | refine swp_seq ?_
    | (refine gk 0 rfl ?_; first | refine sl_op rfl rfl rfl (by first | exact opv_move rfl rfl | exact opv_assign rfl rfl | exact opv_pick_t rfl rfl rfl | exact opv_pick_f rfl rfl rfl ) ?_ | refine sl_pass rfl rfl rfl rfl ?_)
    | (refine gk 2 rfl ?_; first | refine sl_pass rfl rfl rfl rfl ?_ | refine sl_yes rfl rfl rfl (by first | exact opv_lss rfl rfl rfl | exact opv_geq rfl rfl rfl ) (by first | omega ) ?_ | refine sl_if rfl rfl rfl (by first | exact opv_lss rfl rfl rfl ) (fun h => ?_) (fun h => ?_) )
    | (refine gk 3 rfl ?_; first | refine sl_op rfl rfl rfl (by first | exact opv_loadA rfl (by exact rfl) rfl (by exact rfl) (by exact rfl) ) ?_ )
    | (refine gk 4 rfl ?_; first | refine sl_pass rfl rfl rfl rfl ?_ | refine sl_op rfl rfl rfl (by first | exact opv_len rfl rfl rfl rfl rfl ) ?_)
    | (refine gk 5 rfl ?_; first | refine sl_alloc rfl rfl rfl rfl (by exact rfl) (fun β => ?_) | refine sl_store rfl rfl rfl rfl rfl rfl (by exact rfl) rfl (by exact rfl) ?_)
    | refine sl_region rfl ?_
    | refine sl_nil ?_
    | refine thn_k ?_
    | refine swp_true rfl ?_
    | refine swp_ret ?_
    | refine thn_ret ?_
    )
  all_goals first | (exfalso; omega) | exact end_pure (resOk_two (resV_cellA rfl rfl rfl rfl) (resV_tmp rfl)) rfl
theorem am18_yes (own : List Heap) (b : Option Addr) (n c : Nat) (xs : List Ins) (i : Int) (x : Ins) [SlIn own b (flatI xs)] (h1 : xs.length = n) (hsm : n ≤ 4000000) (h : 0 ≤ i ∧ i < n) (hv : xs[i.toNat]? = some x) :
    PFn Try.prog 18 [.slice b n c, i64 i] own (.tuple #[.agg ⟨[i64 x.op, i64 x.a, i64 x.b]⟩, .bool true]) := by
  obtain ⟨h2, h3⟩ := h
  obtain ⟨hc1, hc2, hc3⟩ := flatI_at hv
  have hl : i.toNat * 3 < (flatI xs).length := by rw [flatI_length]; omega
  refine pure_of_body Try.func18 rfl (Nat.le_of_ble_eq_true rfl) fun F => ?_
  repeat' (first
    | refine swp_seq ?_
    | (refine gk 0 rfl ?_; first | refine sl_op rfl rfl rfl (by first | exact opv_move rfl rfl | exact opv_assign rfl rfl | exact opv_pick_f rfl rfl rfl ) ?_ )
    | (refine gk 2 rfl ?_; first | refine sl_no rfl rfl rfl (by first | exact opv_lss rfl rfl rfl | exact opv_geq rfl rfl rfl ) (by first | omega ) ?_ )
    | (refine gk 3 rfl ?_; first | refine sl_op rfl rfl rfl (by first | exact opv_indexAddrI rfl rfl rfl (by omega) (by omega) (by first | omega ) | exact opv_load3 rfl (by exact rfl) (by infer_instance) (by assumption) (by assumption) (by assumption) ) ?_ )
    | (refine gk 4 rfl ?_; first | refine sl_op rfl rfl rfl (by first | exact opv_len rfl rfl rfl rfl rfl ) ?_)
    | (refine gk 5 rfl ?_; first | refine sl_alloc rfl rfl rfl rfl (by exact rfl) (fun β => ?_) | refine sl_store rfl rfl rfl rfl rfl rfl (by exact rfl) rfl (by exact rfl) ?_)
    | refine sl_region rfl ?_
    | refine sl_nil ?_
    | refine thn_k ?_
    | refine swp_false rfl ?_
    | refine swp_ret ?_
    | refine swp_skip ?_
    )
  exact end_pure (resOk_two (resV_cellA rfl rfl rfl rfl) (resV_tmp rfl)) rfl
theorem am18_no (own : List Heap) (b : Option Addr) (n c : Nat) (i : Int) (hsm : n ≤ 4000000) (h : ¬ (0 ≤ i ∧ i < n)) :
    PFn Try.prog 18 [.slice b n c, i64 i] own (.tuple #[.agg ⟨[i64 0, i64 0, i64 0]⟩, .bool false]) := by
  refine pure_of_body Try.func18 rfl (Nat.le_of_ble_eq_true rfl) fun F => ?_
  repeat' (first
    | refine swp_seq ?_
    | (refine gk 0 rfl ?_; first | refine sl_op rfl rfl rfl (by first | exact opv_move rfl rfl | exact opv_assign rfl rfl | exact opv_pick_t rfl rfl rfl | exact opv_pick_f rfl rfl rfl ) ?_ | refine sl_pass rfl rfl rfl rfl ?_)
    | (refine gk 2 rfl ?_; first | refine sl_pass rfl rfl rfl rfl ?_ | refine sl_yes rfl rfl rfl (by first | exact opv_lss rfl rfl rfl | exact opv_geq rfl rfl rfl ) (by first | omega ) ?_ | refine sl_if rfl rfl rfl (by first | exact opv_lss rfl rfl rfl ) (fun h => ?_) (fun h => ?_) )
    | (refine gk 3 rfl ?_; first | refine sl_op rfl rfl rfl (by first | exact opv_loadA rfl (by exact rfl) rfl (by exact rfl) (by exact rfl) ) ?_ )
    | (refine gk 4 rfl ?_; first | refine sl_pass rfl rfl rfl rfl ?_ | refine sl_op rfl rfl rfl (by first | exact opv_len rfl rfl rfl rfl rfl ) ?_)
    | (refine gk 5 rfl ?_; first | refine sl_alloc rfl rfl rfl rfl (by exact rfl) (fun β => ?_) | refine sl_store rfl rfl rfl rfl rfl rfl (by exact rfl) rfl (by exact rfl) ?_)
    | refine sl_region rfl ?_
    | refine sl_nil ?_
    | refine thn_k ?_
    | refine swp_true rfl ?_
    | refine swp_ret ?_
    | refine thn_ret ?_
    )
  all_goals first | (exfalso; omega) | exact end_pure (resOk_two (resV_cellA rfl rfl rfl rfl) (resV_tmp rfl)) rfl
theorem am17_yes (own : List Heap) (b : Option Addr) (n c : Nat) (xs : List Value) (i : Int) (v0 v1 v2 v3 : Value) [SlIn own b xs] (h1 : xs.length = n * 4) (hsm : n ≤ 4000000) (h : 0 ≤ i ∧ i < n)
    (hv : xs[i.toNat * 4]? = some v0 ∧ xs[i.toNat * 4 + 1]? = some v1 ∧ xs[i.toNat * 4 + 2]? = some v2 ∧ xs[i.toNat * 4 + 3]? = some v3) (ho : [v0, v1, v2, v3].all (·.oneCell') = true) :
    PFn Try.prog 17 [.slice b n c, i64 i] own (.tuple #[.agg ⟨[v0, v1, v2, v3]⟩, .bool true]) := by
  obtain ⟨h2, h3⟩ := h
  obtain ⟨hc1, hc2, hc3, hc4⟩ := hv
  have hl : i.toNat * 4 < xs.length := by omega
  refine pure_of_body Try.func17 rfl (Nat.le_of_ble_eq_true rfl) fun F => ?_
  repeat' (first
    | refine sl_store rfl rfl rfl rfl rfl rfl (by exact rfl) ho (by exact rfl) ?_
    | refine swp_seq ?_
    | (refine gk 0 rfl ?_; first | refine sl_op rfl rfl rfl (by first | exact opv_move rfl rfl | exact opv_assign rfl rfl | exact opv_pick_f rfl rfl rfl ) ?_ )
    | (refine gk 2 rfl ?_; first | refine sl_no rfl rfl rfl (by first | exact opv_lss rfl rfl rfl | exact opv_geq rfl rfl rfl ) (by first | omega ) ?_ )
    | (refine gk 3 rfl ?_; first | refine sl_op rfl rfl rfl (by first | exact opv_indexAddrI rfl rfl rfl (by omega) (by omega) (by first | omega ) | exact opv_load4 rfl (by exact rfl) (by infer_instance) (by assumption) (by assumption) (by assumption) (by assumption)) ?_ )
    | (refine gk 4 rfl ?_; first | refine sl_op rfl rfl rfl (by first | exact opv_len rfl rfl rfl rfl rfl ) ?_)
    | (refine gk 5 rfl ?_; first | refine sl_alloc rfl rfl rfl rfl (by exact rfl) (fun β => ?_) )
    | refine sl_region rfl ?_
    | refine sl_nil ?_
    | refine thn_k ?_
    | refine swp_false rfl ?_
    | refine swp_ret ?_
    | refine swp_skip ?_
    )
  exact end_pure (resOk_two (resV_cellA rfl rfl rfl rfl) (resV_tmp rfl)) rfl
theorem am17_no (own : List Heap) (b : Option Addr) (n c : Nat) (i : Int) (hsm : n ≤ 4000000) (h : ¬ (0 ≤ i ∧ i < n)) :
    PFn Try.prog 17 [.slice b n c, i64 i] own (.tuple #[.agg ⟨[.slice none 0 0, i64 0, i64 0, .slice none 0 0]⟩, .bool false]) := by
  refine pure_of_body Try.func17 rfl (Nat.le_of_ble_eq_true rfl) fun F => ?_
  repeat' (first
    | refine swp_seq ?_
    | (refine gk 0 rfl ?_; first | refine sl_op rfl rfl rfl (by first | exact opv_move rfl rfl | exact opv_assign rfl rfl | exact opv_pick_t rfl rfl rfl | exact opv_pick_f rfl rfl rfl ) ?_ | refine sl_pass rfl rfl rfl rfl ?_)
    | (refine gk 2 rfl ?_; first | refine sl_pass rfl rfl rfl rfl ?_ | refine sl_yes rfl rfl rfl (by first | exact opv_lss rfl rfl rfl | exact opv_geq rfl rfl rfl ) (by first | omega ) ?_ | refine sl_if rfl rfl rfl (by first | exact opv_lss rfl rfl rfl ) (fun h => ?_) (fun h => ?_) )
    | (refine gk 3 rfl ?_; first | refine sl_op rfl rfl rfl (by first | exact opv_loadA rfl (by exact rfl) rfl (by exact rfl) (by exact rfl) ) ?_ )
    | (refine gk 4 rfl ?_; first | refine sl_pass rfl rfl rfl rfl ?_ | refine sl_op rfl rfl rfl (by first | exact opv_len rfl rfl rfl rfl rfl ) ?_)
    | (refine gk 5 rfl ?_; first | refine sl_alloc rfl rfl rfl rfl (by exact rfl) (fun β => ?_) | refine sl_store rfl rfl rfl rfl rfl rfl (by exact rfl) rfl (by exact rfl) ?_)
    | refine sl_region rfl ?_
    | refine sl_nil ?_
    | refine thn_k ?_
    | refine swp_true rfl ?_
    | refine swp_ret ?_
    | refine thn_ret ?_
    )
  all_goals first | (exfalso; omega) | exact end_pure (resOk_two (resV_cellA rfl rfl rfl rfl) (resV_tmp rfl)) rfl
theorem list_calls (own : List Heap) (v : Value) : PFn Try.prog 24 [v] own v := by
  refine pure_of_body Try.func24 rfl (Nat.le_of_ble_eq_true rfl) fun F => ?_
  repeat' (first
    | refine swp_seq ?_
    | (refine gk 0 rfl ?_; first | refine sl_op rfl rfl rfl (by first | exact opv_move rfl rfl | exact opv_assign rfl rfl ) ?_ )
    | refine sl_region rfl ?_
    | refine sl_nil ?_
    | refine thn_k ?_
    | refine swp_ret ?_
    )
  refine end_pure (resOk_one (resV_tmp rfl)) ?_
  rfl
def fitsP (a b : Int) : Prop := a = b ∨ b = -2 ∨ b = -3 ∧ 0 < a
instance (a b : Int) : Decidable (fitsP a b) := by unfold fitsP; infer_instance
theorem fits_calls (own : List Heap) (a b : Int) : PFn Try.prog 21 [i64 a, i64 b] own (.bool (decide (fitsP a b))) := by
  refine pure_of_body Try.func21 rfl (Nat.le_of_ble_eq_true rfl) fun F => ?_
  repeat' (first
    | refine swp_seq ?_
    | (refine gk 0 rfl ?_; first | refine sl_op rfl rfl rfl (by first | exact opv_move rfl rfl | exact opv_assign rfl rfl | exact opv_pick_t rfl rfl rfl | exact opv_pick_f rfl rfl rfl ) ?_ | refine sl_pass rfl rfl rfl rfl ?_)
    | (refine gk 2 rfl ?_; first | refine sl_pass rfl rfl rfl rfl ?_ | refine sl_if rfl rfl rfl (by first | exact opv_gtr rfl rfl rfl | exact opv_eql rfl rfl rfl ) (fun h => ?_) (fun h => ?_) )
    | refine sl_region rfl ?_
    | refine sl_nil ?_
    | refine thn_k ?_
    | refine swp_ret ?_
    )
  all_goals
    refine end_pure (resOk_one (resV_tmp rfl)) ?_
    refine congrArg Value.bool ?_
    symm
    first | exact decide_eq_true (by unfold fitsP; omega) | exact decide_eq_false (by unfold fitsP; omega)
end Go.Proofs.Ytnfepffmlhmmhaa
