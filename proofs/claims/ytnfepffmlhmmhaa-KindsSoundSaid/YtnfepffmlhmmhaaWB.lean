/- Numbers in lists, and slices of numbers. -/
import Derived.Test.YtnfepffmlhmmhaaSlG8
import Derived.Test.YtnfepffmlhmmhaaWTy
namespace Go.Proofs.Ytnfepffmlhmmhaa
open Go.SL
set_option maxRecDepth 100000
set_option maxHeartbeats 16000000
attribute [local irreducible] T PFn OpV SOL SWP HOp ChU
abbrev i64 (a : Int) : Value := .int .i64 a
theorem i64s_one (l : List Int) : (l.map i64).all (·.oneCell') = true := by
  rw [List.all_map, List.all_eq_true]; intro x _; rfl
def few (zs : List Int) : List Int := (zs.take 12).map (max (-1))
structure SF where
  j : Nat
  h : Heap
  b : Option Addr
  c : Nat
theorem few_calls (S : Heap) (base : Option Addr) (len cap : Nat) (zs : List Int) [Sl S base (zs.map i64)] (hlen : zs.length = len) (hsm : len ≤ 9223372036854775807) :
    T Try.prog 7 [.slice base len cap] [S] fun e own' => ∃ h b n c, e = .returned (.slice b n c) ∧ own' = [S, h] ∧ n = (few zs).length ∧ OS h b n c 27 1 ((few zs).map i64) := by
  refine t_of_body Try.func7 rfl (Nat.le_of_ble_eq_true rfl) fun F => ?_
  refine swp_emp ?_
  repeat' (first
    | refine swp_seq ?_
    | (refine gk 0 rfl ?_; first | refine sl_op rfl rfl rfl (by first | exact opv_assign rfl rfl ) ?_ )
    | refine sl_region rfl ?_
    | refine sl_nil ?_
    | refine thn_k ?_
    | refine swp_block ?_
    )
  refine swp_loopS (fun s : SF => [(0, .slice base len cap), (3, .slice s.b s.j s.c), (4, i64 (s.j : Int))])
    (fun s => [s.h, S])
    (fun s => s.j ≤ len ∧ s.j ≤ 12 ∧ OS s.h s.b s.j s.c 27 1 (((zs.take s.j).map (max (-1))).map i64))
    (fun s => 12 - s.j) ⟨0, emp, none, 0⟩ (by repeat first | exact Sub.nil _ | refine Sub.cons rfl ?_) ⟨Nat.zero_le _, Nat.zero_le _, OS.nil⟩ ?_
  rintro ⟨j, H, b, c⟩ ⟨hj1, hj2, os⟩
  dsimp only at hj1 hj2 os ⊢
  by_cases hj : j < len ∧ j < 12
  · obtain ⟨hj3, hj4⟩ := hj
    obtain ⟨z, hz⟩ : ∃ z, zs[j]? = some z := ⟨_, List.getElem?_eq_getElem (by omega)⟩
    have hcell : (zs.map i64)[((j : Nat) : Int).toNat * 1]? = some (i64 z) := by simp [hz]
    repeat' (first
      | refine swp_seq ?_
      | (refine gk 0 rfl ?_; first | refine sl_op rfl rfl rfl (by first | exact opv_move rfl rfl | exact opv_assign rfl rfl | exact opv_pick_t rfl rfl rfl ) ?_ )
      | (refine gk 1 rfl ?_; first | refine sl_op rfl rfl rfl (by first | exact opv_add64 rfl rfl rfl (by omega) (by omega) ) ?_ )
      | (refine gk 2 rfl ?_; first | refine sl_yes rfl rfl rfl (by first | exact opv_lss rfl rfl rfl ) (by first | omega ) ?_ )
      | (refine gk 3 rfl ?_; first | refine sl_op rfl rfl rfl (by first | exact opv_indexAddrI rfl rfl rfl (by omega) (by omega) (by first | (simp only [List.length_map]; omega) ) | exact opv_loadEx rfl (by exact rfl) (by infer_instance) (by first | assumption ) ) ?_ )
      | (refine gk 4 rfl ?_; first | refine sl_op rfl rfl rfl (by first | exact opv_len rfl rfl rfl rfl rfl | exact opv_max rfl rfl rfl rfl rfl) ?_ | refine sl_appendG rfl rfl rfl rfl rfl rfl rfl rfl rfl (by assumption) (by first | rfl ) (by decide) (by first | rfl ) (by omega) (by omega) (fun h' b' c' os' hb' => ?_))
      | (refine gk 5 rfl ?_; first | refine sl_buildSlice rfl rfl rfl rfl rfl (by exact rfl) (by exact rfl) (by exact rfl) (by exact rfl) rfl (fun b => ?_) )
      | refine sl_region rfl ?_
      | refine sl_nil ?_
      | refine thn_k ?_
      | refine swp_true rfl ?_
      | refine swp_block ?_
      | refine swp_skip ?_
      )
    refine ⟨rfl, ⟨j + 1, h', b', c'⟩, next_ok (by repeat first | exact Sub.nil _ | refine Sub.cons rfl ?_), ?_, ?_⟩
    all_goals dsimp only
    · refine ⟨by omega, by omega, ?_⟩
      rw [List.take_add_one, hz]
      simpa using os'
    · omega
  · have hn : j = (few zs).length := by simp [few, hlen]; omega
    have hf : (zs.take j).map (max (-1)) = few zs := by
      unfold few
      by_cases h12 : j = 12
      · rw [h12]
      · rw [List.take_of_length_le (by omega), List.take_of_length_le (by omega)]
    rw [hf] at os
    repeat' (first
      | refine swp_seq ?_
      | (refine gk 0 rfl ?_; first | refine sl_op rfl rfl rfl (by first | exact opv_move rfl rfl | exact opv_assign rfl rfl | exact opv_pick_t rfl rfl rfl | exact opv_pick_f rfl rfl rfl ) ?_ | refine sl_pass rfl rfl rfl rfl ?_)
      | (refine gk 2 rfl ?_; first | refine sl_pass rfl rfl rfl rfl ?_ | refine sl_no rfl rfl rfl (by first | exact opv_lss rfl rfl rfl ) (by first | omega ) ?_ | refine sl_if rfl rfl rfl (by first | exact opv_lss rfl rfl rfl ) (fun h => ?_) (fun h => ?_) )
      | (refine gk 4 rfl ?_; first | refine sl_op rfl rfl rfl (by first | exact opv_len rfl rfl rfl rfl rfl ) ?_)
      | refine sl_region rfl ?_
      | refine sl_nil ?_
      | refine thn_k ?_
      | refine swp_false rfl ?_
      | refine swp_ret ?_
      | refine swp_exit ?_
      )
    all_goals first | (exfalso; omega) | exact end_retW [S, H] (resOk_one (resV_tmp rfl)) (fun F w s => s.perm ((List.Perm.swap _ _ _).cons F)) ⟨H, b, j, c, rfl, rfl, hn, os⟩
/-- Equal. -/
theorem Equal_calls (own : List Heap) (b1 b2 : Option Addr) (n1 n2 c1 c2 : Nat) (xs ys : List Int) [SlIn own b1 (xs.map i64)] [SlIn own b2 (ys.map i64)] (h1 : xs.length = n1) (h2 : ys.length = n2) (hsm : n1 ≤ 9223372036854775807) :
    PFn Try.prog 15 [.slice b1 n1 c1, .slice b2 n2 c2] own (.bool (decide (xs = ys))) := by
  refine pure_of_body Try.func15 rfl (Nat.le_of_ble_eq_true rfl) fun F => ?_
  by_cases hn : n1 = n2
  · subst hn
    repeat' (first
      | refine swp_seq ?_
      | (refine gk 0 rfl ?_; first | refine sl_op rfl rfl rfl (by first | exact opv_move rfl rfl | exact opv_assign rfl rfl ) ?_ )
      | (refine gk 2 rfl ?_; first | refine sl_no rfl rfl rfl (by first | exact opv_neq rfl rfl rfl) (by first | omega ) ?_ )
      | (refine gk 4 rfl ?_; first | refine sl_op rfl rfl rfl (by first | exact opv_len rfl rfl rfl rfl rfl ) ?_)
      | refine sl_region rfl ?_
      | refine sl_nil ?_
      | refine thn_k ?_
      | refine swp_false rfl ?_
      | refine swp_block ?_
      | refine swp_skip ?_
      )
    refine swp_loopS (fun j : Nat => [(0, .slice b1 n1 c1), (1, .slice b2 n1 c2), (12, i64 (n1 : Int)), (13, i64 (j : Int))])
      (fun _ => own) (fun j => j ≤ n1 ∧ xs.take j = ys.take j) (fun j => n1 - j) 0 (by repeat first | exact Sub.nil _ | refine Sub.cons rfl ?_) ⟨Nat.zero_le _, rfl⟩ ?_
    rintro j ⟨hj1, hj2⟩
    by_cases hj : j < n1
    · obtain ⟨x, hx⟩ : ∃ z, xs[j]? = some z := ⟨_, List.getElem?_eq_getElem (by omega)⟩
      obtain ⟨y, hy⟩ : ∃ z, ys[j]? = some z := ⟨_, List.getElem?_eq_getElem (by omega)⟩
      have hcx : (xs.map i64)[((j : Nat) : Int).toNat * 1]? = some (i64 x) := by simp [hx]
      have hcy : (ys.map i64)[((j : Nat) : Int).toNat * 1]? = some (i64 y) := by simp [hy]
      by_cases hxy : x = y
      · subst hxy
        repeat' (first
          | refine swp_seq ?_
          | (refine gk 0 rfl ?_; first | refine sl_op rfl rfl rfl (by first | exact opv_move rfl rfl | exact opv_assign rfl rfl ) ?_ )
          | (refine gk 1 rfl ?_; first | refine sl_op rfl rfl rfl (by first | exact opv_add64 rfl rfl rfl (by omega) (by omega) ) ?_ )
          | (refine gk 2 rfl ?_; first | refine sl_yes rfl rfl rfl (by first | exact opv_lss rfl rfl rfl | exact opv_neq rfl rfl rfl) (by first | omega ) ?_ | refine sl_no rfl rfl rfl (by first | exact opv_neq rfl rfl rfl) (by first | omega ) ?_ )
          | (refine gk 3 rfl ?_; first | refine sl_op rfl rfl rfl (by first | exact opv_indexAddrI rfl rfl rfl (by omega) (by omega) (by first | (simp only [List.length_map]; omega) ) | exact opv_loadEx rfl (by exact rfl) (by infer_instance) (by first | assumption ) ) ?_ )
          | refine sl_region rfl ?_
          | refine sl_draw (by kernel_rfl) (by kernel_rfl) rfl ?_
          | refine sl_nil ?_
          | refine thn_k ?_
          | refine swp_true rfl ?_
          | refine swp_false rfl ?_
          | refine swp_block ?_
          | refine swp_skip ?_
          )
        refine ⟨rfl, j + 1, next_ok (by repeat first | exact Sub.nil _ | refine Sub.cons rfl ?_), ⟨by omega, ?_⟩, by omega⟩
        rw [List.take_add_one, List.take_add_one, hx, hy, hj2]
      · repeat' (first
          | refine swp_seq ?_
          | (refine gk 0 rfl ?_; first | refine sl_op rfl rfl rfl (by first | exact opv_move rfl rfl | exact opv_assign rfl rfl ) ?_ )
          | (refine gk 2 rfl ?_; first | refine sl_yes rfl rfl rfl (by first | exact opv_lss rfl rfl rfl | exact opv_neq rfl rfl rfl) (by first | omega ) ?_ )
          | (refine gk 3 rfl ?_; first | refine sl_op rfl rfl rfl (by first | exact opv_indexAddrI rfl rfl rfl (by omega) (by omega) (by first | (simp only [List.length_map]; omega) ) | exact opv_loadEx rfl (by exact rfl) (by infer_instance) (by first | assumption ) ) ?_ )
          | refine sl_region rfl ?_
          | refine sl_draw (by kernel_rfl) (by kernel_rfl) rfl ?_
          | refine sl_nil ?_
          | refine thn_k ?_
          | refine swp_true rfl ?_
          | refine swp_block ?_
          | refine swp_ret ?_
          | refine swp_skip ?_
          | refine thn_ret ?_
          | refine inb_ret ?_
          )
        refine end_pure (resOk_one (resV_tmp rfl)) ?_
        refine congrArg Value.bool (decide_eq_false fun e => hxy ?_).symm
        rw [e, hy] at hx; cases hx; rfl
    · repeat' (first
        | refine swp_seq ?_
        | (refine gk 0 rfl ?_; first | refine sl_op rfl rfl rfl (by first | exact opv_assign rfl rfl ) ?_ )
        | (refine gk 2 rfl ?_; first | refine sl_no rfl rfl rfl (by first | exact opv_lss rfl rfl rfl ) (by first | omega ) ?_ )
        | refine sl_region rfl ?_
        | refine sl_nil ?_
        | refine thn_k ?_
        | refine swp_false rfl ?_
        | refine swp_ret ?_
        | refine swp_exit ?_
        )
      refine end_pure (resOk_one (resV_tmp rfl)) ?_
      rw [List.take_of_length_le (by omega), List.take_of_length_le (by omega)] at hj2
      rw [decide_eq_true hj2]
  · repeat' (first
      | refine swp_seq ?_
      | (refine gk 0 rfl ?_; first | refine sl_op rfl rfl rfl (by first | exact opv_move rfl rfl | exact opv_assign rfl rfl ) ?_ )
      | (refine gk 2 rfl ?_; first | refine sl_yes rfl rfl rfl (by first | exact opv_neq rfl rfl rfl) (by first | omega ) ?_ )
      | (refine gk 4 rfl ?_; first | refine sl_op rfl rfl rfl (by first | exact opv_len rfl rfl rfl rfl rfl ) ?_)
      | refine sl_region rfl ?_
      | refine sl_nil ?_
      | refine thn_k ?_
      | refine swp_true rfl ?_
      | refine swp_ret ?_
      | refine thn_ret ?_
      )
    refine end_pure (resOk_one (resV_tmp rfl)) ?_
    refine congrArg Value.bool (decide_eq_false fun e => hn ?_).symm
    rw [← h1, ← h2, e]
theorem Index_calls (own : List Heap) (b : Option Addr) (n c : Nat) (xs : List Int) (v : Int) [SlIn own b (xs.map i64)] (h1 : xs.length = n) (hsm : n ≤ 9223372036854775807) :
    PFn Try.prog 37 [.slice b n c, i64 v] own (i64 (if v ∈ xs then (xs.idxOf v : Int) else -1)) := by
  refine pure_of_body Try.func37 rfl (Nat.le_of_ble_eq_true rfl) fun F => ?_
  repeat' (first
    | refine swp_seq ?_
    | (refine gk 0 rfl ?_; first | refine sl_op rfl rfl rfl (by first | exact opv_move rfl rfl | exact opv_assign rfl rfl ) ?_ )
    | (refine gk 4 rfl ?_; first | refine sl_op rfl rfl rfl (by first | exact opv_len rfl rfl rfl rfl rfl ) ?_)
    | refine sl_region rfl ?_
    | refine sl_nil ?_
    | refine thn_k ?_
    | refine swp_block ?_
    )
  refine swp_loopS (fun j : Nat => [(0, .slice b n c), (1, i64 v), (7, i64 (n : Int)), (8, i64 (j : Int))])
    (fun _ => own) (fun j => j ≤ n ∧ v ∉ xs.take j) (fun j => n - j) 0 (by repeat first | exact Sub.nil _ | refine Sub.cons rfl ?_) ⟨Nat.zero_le _, by simp⟩ ?_
  rintro j ⟨hj1, hj2⟩
  by_cases hj : j < n
  · obtain ⟨x, hx⟩ : ∃ z, xs[j]? = some z := ⟨_, List.getElem?_eq_getElem (by omega)⟩
    have hcx : (xs.map i64)[((j : Nat) : Int).toNat * 1]? = some (i64 x) := by simp [hx]
    by_cases hxy : v = x
    · subst hxy
      repeat' (first
        | refine swp_seq ?_
        | (refine gk 0 rfl ?_; first | refine sl_op rfl rfl rfl (by first | exact opv_move rfl rfl | exact opv_assign rfl rfl ) ?_ )
        | (refine gk 2 rfl ?_; first | refine sl_yes rfl rfl rfl (by first | exact opv_lss rfl rfl rfl | exact opv_eql rfl rfl rfl ) (by first | omega ) ?_ )
        | (refine gk 3 rfl ?_; first | refine sl_op rfl rfl rfl (by first | exact opv_indexAddrI rfl rfl rfl (by omega) (by omega) (by first | (simp only [List.length_map]; omega) ) | exact opv_loadEx rfl (by exact rfl) (by infer_instance) (by first | assumption ) ) ?_ )
        | refine sl_region rfl ?_
        | refine sl_nil ?_
        | refine thn_k ?_
        | refine swp_true rfl ?_
        | refine swp_block ?_
        | refine swp_ret ?_
        | refine swp_skip ?_
        | refine thn_ret ?_
        | refine inb_ret ?_
        )
      refine end_pure (resOk_one (resV_tmp rfl)) ?_
      have hi : xs.idxOf v = j := by
        obtain ⟨hl, he⟩ := List.getElem?_eq_some_iff.1 hx
        rw [← List.take_append_drop j xs, List.idxOf_append, if_neg hj2, List.length_take, List.drop_eq_getElem_cons hl, he, List.idxOf_cons_self]
        omega
      rw [if_pos (List.mem_of_getElem? hx), hi]
    · repeat' (first
        | refine swp_seq ?_
        | (refine gk 0 rfl ?_; first | refine sl_op rfl rfl rfl (by first | exact opv_move rfl rfl | exact opv_assign rfl rfl ) ?_ )
        | (refine gk 1 rfl ?_; first | refine sl_op rfl rfl rfl (by first | exact opv_add64 rfl rfl rfl (by omega) (by omega) ) ?_ )
        | (refine gk 2 rfl ?_; first | refine sl_yes rfl rfl rfl (by first | exact opv_lss rfl rfl rfl | exact opv_eql rfl rfl rfl ) (by first | omega ) ?_ | refine sl_no rfl rfl rfl (by first | exact opv_eql rfl rfl rfl ) (by first | omega ) ?_ )
        | (refine gk 3 rfl ?_; first | refine sl_op rfl rfl rfl (by first | exact opv_indexAddrI rfl rfl rfl (by omega) (by omega) (by first | (simp only [List.length_map]; omega) ) | exact opv_loadEx rfl (by exact rfl) (by infer_instance) (by first | assumption ) ) ?_ )
        | refine sl_region rfl ?_
        | refine sl_nil ?_
        | refine thn_k ?_
        | refine swp_true rfl ?_
        | refine swp_false rfl ?_
        | refine swp_block ?_
        | refine swp_skip ?_
        )
      refine ⟨rfl, j + 1, next_ok (by repeat first | exact Sub.nil _ | refine Sub.cons rfl ?_), ⟨by omega, ?_⟩, by omega⟩
      rw [List.take_add_one, hx]
      simp [hj2, hxy]
  · repeat' (first
      | refine swp_seq ?_
      | (refine gk 0 rfl ?_; first | refine sl_op rfl rfl rfl (by first | exact opv_assign rfl rfl ) ?_ )
      | (refine gk 2 rfl ?_; first | refine sl_no rfl rfl rfl (by first | exact opv_lss rfl rfl rfl ) (by first | omega ) ?_ )
      | refine sl_region rfl ?_
      | refine sl_nil ?_
      | refine thn_k ?_
      | refine swp_false rfl ?_
      | refine swp_ret ?_
      | refine swp_exit ?_
      )
    refine end_pure (resOk_one (resV_tmp rfl)) ?_
    rw [List.take_of_length_le (by omega)] at hj2
    rw [if_neg hj2]
theorem Contains_calls (own : List Heap) (b : Option Addr) (n c : Nat) (xs : List Int) (v : Int) [SlIn own b (xs.map i64)] (h1 : xs.length = n) (hsm : n ≤ 9223372036854775807) :
    PFn Try.prog 22 [.slice b n c, i64 v] own (.bool (decide (v ∈ xs))) := by
  refine pure_of_body Try.func22 rfl (Nat.le_of_ble_eq_true rfl) fun F => ?_
  by_cases hv : v ∈ xs
  · have hc := Index_calls own b n c xs v h1 hsm
    rw [if_pos hv] at hc
    repeat' (first
      | refine swp_seq ?_
      | (refine gk 0 rfl ?_; first | refine sl_op rfl rfl rfl (by first | exact opv_move rfl rfl | exact opv_assign rfl rfl ) ?_ )
      | (refine gk 2 rfl ?_; first | refine sl_yes rfl rfl rfl (by first | exact opv_geq rfl rfl rfl ) (by first | omega ) ?_ )
      | (refine gk 4 rfl ?_; first | refine sl_op rfl rfl rfl (opv_call rfl rfl rfl rfl rfl (hc)) ?_)
      | refine sl_region rfl ?_
      | refine sl_nil ?_
      | refine thn_k ?_
      | refine swp_ret ?_
      )
    refine end_pure (resOk_one (resV_tmp rfl)) ?_
    rw [decide_eq_true hv]
  · have hc := Index_calls own b n c xs v h1 hsm
    rw [if_neg hv] at hc
    repeat' (first
      | refine swp_seq ?_
      | (refine gk 0 rfl ?_; first | refine sl_op rfl rfl rfl (by first | exact opv_move rfl rfl | exact opv_assign rfl rfl ) ?_ )
      | (refine gk 2 rfl ?_; first | refine sl_no rfl rfl rfl (by first | exact opv_geq rfl rfl rfl ) (by first | omega ) ?_ )
      | (refine gk 4 rfl ?_; first | refine sl_op rfl rfl rfl (opv_call rfl rfl rfl rfl rfl (hc)) ?_)
      | refine sl_region rfl ?_
      | refine sl_nil ?_
      | refine thn_k ?_
      | refine swp_ret ?_
      )
    refine end_pure (resOk_one (resV_tmp rfl)) ?_
    rw [decide_eq_false hv]
end Go.Proofs.Ytnfepffmlhmmhaa
