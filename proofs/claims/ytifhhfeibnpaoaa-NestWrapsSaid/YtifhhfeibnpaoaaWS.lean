/- Numbers in order, each once: sorted, and compacted. -/
import Derived.Test.YtifhhfeibnpaoaaWB
import Derived.Test.YtifhhfeibnpaoaaWSh
import Derived.Test.YtifhhfeibnpaoaaSlG8
namespace Go.Proofs.Ytifhhfeibnpaoaa
open Go.SL
set_option maxRecDepth 100000
set_option maxHeartbeats 16000000
theorem OS_take {h : Heap} {b : Option Addr} {n c : Nat} {T : TypeId} {A B : List Value} (os : OS h b n c T 1 (A ++ B)) : OS h b A.length c T 1 A := by
  have hl := os.hlen
  rw [List.length_append] at hl
  refine ⟨by omega, by have := os.hle; omega, ?_⟩
  rcases os.shape with ⟨h1, h2, h3, h4⟩ | ⟨bb, off, arr, h1, h2, h3, h4⟩
  · exact .inl ⟨h1, by omega, h3, h4⟩
  · exact .inr ⟨bb, off, arr, h1, h2, h3, fun k v hk => h4 k v (by rw [List.getElem?_append_left (List.getElem?_eq_some_iff.1 hk).1]; exact hk)⟩
theorem Sort_calls (h : Heap) (b : Option Addr) (n c : Nat) (xs : List Int) (os : OS h b n c 3 1 (xs.map i64)) (hsm : n ≤ 4000000) :
    SL.T Try.prog 46 [.slice b n c] [h] fun e o => ∃ h', e = .returned (.tuple #[]) ∧ o = [h'] ∧ OS h' b n c 3 1 ((xs.mergeSort fun x y => decide (x ≤ y)).map i64) := by
  intro w X s
  have s : Sat (h :: X) w := s
  have hl := os.len
  rcases Nat.eq_zero_or_pos n with h0 | hp
  · subst h0
    obtain rfl : xs = [] := List.length_eq_zero_iff.1 hl
    refine (Try.slices_Sort_int_none b c w).mono ?_
    rintro e w' ⟨h1, h2⟩
    subst h2
    exact ⟨[h], s, h, h1, rfl, by simpa using os⟩
  · obtain ⟨bb, off, rfl, hb, hH, hw⟩ := os.row hp s
    have := Try.slices_Sort_int bb off c xs w hH hb (by omega)
    rw [hl] at this
    refine this.mono ?_
    rintro e w' ⟨h1, q, gs, rfl⟩
    obtain ⟨h', os', s'⟩ := hw _ q gs (List.length_mergeSort xs)
    exact ⟨[h'], s', h', h1, rfl, os'⟩
theorem compact_length_le (zs : List Int) : (Lib.compact zs).length ≤ zs.length := by
  unfold Lib.compact Lib.compactUpTo
  rw [List.length_map]
  exact Nat.le_trans (List.length_filter_le _ _) (by simp)
theorem Compact_calls (h : Heap) (b : Option Addr) (n c : Nat) (xs : List Int) (os : OS h b n c 3 1 (xs.map i64)) (hsm : n ≤ 4000000) :
    SL.T Try.prog 47 [.slice b n c] [h] fun e o => ∃ h', e = .returned (.slice b (Lib.compact xs).length c) ∧ o = [h'] ∧ OS h' b (Lib.compact xs).length c 3 1 ((Lib.compact xs).map i64) := by
  intro w X s
  have s : Sat (h :: X) w := s
  have hl := os.len
  rcases Nat.eq_zero_or_pos n with h0 | hp
  · subst h0
    obtain rfl : xs = [] := List.length_eq_zero_iff.1 hl
    refine (Try.slices_Compact_int_empty b c w).mono ?_
    rintro e w' ⟨h1, h2⟩
    subst h2
    exact ⟨[h], s, h, h1, rfl, os⟩
  · obtain ⟨bb, off, rfl, hb, hH, hw⟩ := os.row hp s
    have := Try.slices_Compact_int bb off c xs w hH (by omega) (by have := os.hle; omega)
    rw [hl] at this
    refine this.mono ?_
    rintro e w' ⟨h1, q, rfl⟩
    have hle := compact_length_le xs
    obtain ⟨h', os', s'⟩ := hw (Lib.compact xs ++ List.replicate (n - (Lib.compact xs).length) 0) q #[] (by simp; omega)
    rw [Sort.grow_empty] at s'
    rw [List.map_append] at os'
    have := OS_take os'
    rw [List.length_map] at this
    exact ⟨[h'], s', h', h1, rfl, this⟩
/-- Some, in order, each once. -/
def rise (xs : List Int) : List Int := Lib.compact (xs.mergeSort fun x y => decide (x ≤ y))
attribute [local irreducible] SL.T PFn OpV SOL SWP HOp ChU
theorem rising_calls (h : Heap) (b : Option Addr) (n c : Nat) (xs : List Int) (os : OS h b n c 3 1 (xs.map i64)) (hsm : n ≤ 4000000) :
    SL.T Try.prog 35 [.slice b n c] [h] fun e o => ∃ h', e = .returned (.slice b (rise xs).length c) ∧ o = [h'] ∧ OS h' b (rise xs).length c 3 1 ((rise xs).map i64) := by
  refine t_of_body Try.func35 rfl (Nat.le_of_ble_eq_true rfl) fun F => ?_
  repeat' (first
    | refine swp_seq ?_
    | (refine gk 0 rfl ?_; first | refine sl_op rfl rfl rfl (by first | exact opv_move rfl rfl | exact opv_assign rfl rfl | exact opv_pick_t rfl rfl rfl | exact opv_pick_f rfl rfl rfl | exact opv_not_t rfl rfl | exact opv_not_f rfl rfl | exact opv_not rfl rfl | exact opv_extract rfl rfl rfl | exact opv_makeFunc rfl rfl rfl) ?_ | refine sl_bool rfl rfl rfl (by first | exact opv_move rfl rfl | exact opv_assign rfl rfl | exact opv_pick_t rfl rfl rfl | exact opv_pick_f rfl rfl rfl | exact opv_not_t rfl rfl | exact opv_not_f rfl rfl | exact opv_not rfl rfl | exact opv_extract rfl rfl rfl | exact opv_makeFunc rfl rfl rfl) (fun h => ?_) (fun h => ?_) | refine sl_pass rfl rfl rfl rfl ?_)
    | (refine gk 1 rfl ?_; first | refine sl_op rfl rfl rfl (by first | exact opv_add64 rfl rfl rfl (by omega) (by omega) | exact opv_sub64 rfl rfl rfl (by omega) (by omega) | exact opv_add rfl rfl rfl | exact opv_sub rfl rfl rfl | exact opv_mul rfl rfl rfl | exact opv_rem rfl rfl rfl (by omega) | exact opv_quo rfl rfl rfl (by omega) | exact opv_shl rfl rfl rfl (by omega) | exact opv_shr rfl rfl rfl (by omega) | exact opv_bits rfl rfl rfl (by decide)) ?_ | refine sl_pass rfl rfl rfl rfl ?_)
    | (refine gk 2 rfl ?_; first | refine sl_pass rfl rfl rfl rfl ?_ | refine sl_yes rfl rfl rfl (by first | exact opv_lss rfl rfl rfl | exact opv_leq rfl rfl rfl | exact opv_gtr rfl rfl rfl | exact opv_geq rfl rfl rfl | exact opv_eql rfl rfl rfl | exact opv_neq rfl rfl rfl) (by first | omega | decide +kernel) ?_ | refine sl_no rfl rfl rfl (by first | exact opv_lss rfl rfl rfl | exact opv_leq rfl rfl rfl | exact opv_gtr rfl rfl rfl | exact opv_geq rfl rfl rfl | exact opv_eql rfl rfl rfl | exact opv_neq rfl rfl rfl) (by first | omega | decide +kernel) ?_ | refine sl_if rfl rfl rfl (by first | exact opv_lss rfl rfl rfl | exact opv_leq rfl rfl rfl | exact opv_gtr rfl rfl rfl | exact opv_geq rfl rfl rfl | exact opv_eql rfl rfl rfl | exact opv_neq rfl rfl rfl) (fun h => ?_) (fun h => ?_) | refine sl_op rfl rfl rfl (opv_isNil rfl rfl) ?_ | refine sl_tt rfl rfl rfl (by first | exact opv_eqlB Try.underlying4 rfl rfl rfl | exact opv_neqB Try.underlying4 rfl rfl rfl | exact opv_eqlS rfl rfl rfl rfl | exact opv_neqS rfl rfl rfl rfl) (by first | rfl | assumption) ?_ | refine sl_ff rfl rfl rfl (by first | exact opv_eqlB Try.underlying4 rfl rfl rfl | exact opv_neqB Try.underlying4 rfl rfl rfl | exact opv_eqlS rfl rfl rfl rfl | exact opv_neqS rfl rfl rfl rfl) (by first | rfl | assumption) ?_ | refine sl_bool rfl rfl rfl (by first | exact opv_eqlB Try.underlying4 rfl rfl rfl | exact opv_neqB Try.underlying4 rfl rfl rfl | exact opv_eqlS rfl rfl rfl rfl | exact opv_neqS rfl rfl rfl rfl) (fun h => ?_) (fun h => ?_))
    | (refine gk 3 rfl ?_; first | refine sl_op rfl rfl rfl (by first | exact opv_load rfl (by exact rfl) rfl (by exact rfl) | exact opv_fieldAddr rfl rfl | exact opv_loadA rfl (by exact rfl) rfl (by exact rfl) (by exact rfl) | exact opv_indexAddrI rfl rfl rfl (by omega) (by omega) (by first | omega | (simp only [List.length_map]; omega) | (simp only [List.length_cons, List.length_nil]; omega)) | exact opv_index rfl rfl rfl (by omega) (by omega) (by first | assumption | exact rfl) | exact opv_indexA rfl rfl rfl (by omega) (by omega) (by first | assumption | exact rfl) | exact opv_indexAddrR rfl rfl rfl (by omega) (by omega) | exact opv_fieldAddrE rfl rfl (by first | assumption | omega) | exact opv_loadELx rfl (by exact rfl) (by infer_instance) rfl rfl rfl | exact opv_loadEx rfl (by exact rfl) (by infer_instance) (by first | assumption | exact rfl) | exact opv_load2 rfl (by exact rfl) (by infer_instance) (by assumption) (by assumption) | exact opv_load3 rfl (by exact rfl) (by infer_instance) (by assumption) (by assumption) (by assumption)) ?_ | refine sl_pass rfl rfl rfl rfl ?_)
    | (refine gk 4 rfl ?_; first | refine sl_pass rfl rfl rfl rfl ?_ | refine sl_op rfl rfl rfl (by first | exact opv_len rfl rfl rfl rfl rfl | exact opv_min rfl rfl rfl rfl rfl | exact opv_max rfl rfl rfl rfl rfl) ?_ | (refine sl_callT rfl rfl rfl rfl rfl rfl rfl rfl (Sort_calls h b n c xs os hsm) ?_; rintro _ _ ⟨hS, rfl, rfl, osS⟩; refine ⟨_, _, rfl, rfl, ?_⟩) | (refine sl_callT rfl rfl rfl rfl rfl rfl rfl rfl (Compact_calls hS b n c _ osS hsm) ?_; rintro _ _ ⟨hC, rfl, rfl, osC⟩; refine ⟨_, _, rfl, rfl, ?_⟩))
    | (refine gk 5 rfl ?_; first | refine sl_op rfl rfl rfl (by first | exact opv_build rfl rfl (by exact rfl) | exact opv_slice3 rfl rfl rfl rfl (by omega) (by omega) (by omega) | exact opv_sliceLo rfl rfl rfl (by omega) (by omega) | exact opv_convert rfl rfl | exact opv_sliceHi rfl rfl rfl (by omega) (by omega) | exact opv_arrayAt rfl rfl rfl rfl) ?_ | refine sl_pass rfl rfl rfl rfl ?_ | refine sl_buildSlice rfl rfl rfl rfl rfl (by exact rfl) (by exact rfl) (by exact rfl) (by exact rfl) rfl (fun b => ?_) | refine sl_box rfl rfl rfl rfl rfl rfl (fun β => ?_) | refine sl_alloc rfl rfl rfl rfl (by exact rfl) (fun β => ?_) | refine sl_store rfl rfl rfl rfl rfl rfl (by exact rfl) rfl (by exact rfl) ?_)
    | refine sl_region rfl ?_
    | refine sl_draw (by kernel_rfl) (by kernel_rfl) rfl ?_
    | refine chu_nil ?_
    | refine chu_q rfl ?_
    | refine chu_f rfl ?_
    | refine chu_r rfl ?_
    | refine chu_new rfl rfl (by first | exact new_alloc rfl (by exact rfl) | exact new_box rfl rfl rfl | exact new_buildSlice rfl rfl (by exact rfl) (by exact rfl) (by exact rfl) (by exact rfl) (by exact rfl)) ?_
    | refine chu_rv rfl rfl rfl (fun β => ?_)
    | refine chu_pass rfl rfl rfl rfl ?_
    | refine chu_store rfl rfl rfl rfl rfl rfl (by exact rfl) rfl (by exact rfl) (by exact rfl) ?_
    | (refine chu_T rfl rfl rfl rfl rfl rfl rfl rfl (Sort_calls h b n c xs os hsm) (by rintro _ _ ⟨hS, rfl, rfl, osS⟩; exact ⟨_, rfl⟩) ?_; rintro _ _ ⟨hS, rfl, rfl, osS⟩; refine ⟨_, _, rfl, rfl, ?_⟩)
    | (refine chu_T rfl rfl rfl rfl rfl rfl rfl rfl (Compact_calls hS b n c _ osS hsm) (by rintro _ _ ⟨hC, rfl, rfl, osC⟩; exact ⟨_, rfl⟩) ?_; rintro _ _ ⟨hC, rfl, rfl, osC⟩; refine ⟨_, _, rfl, rfl, ?_⟩)
    | refine sl_nil ?_
    | refine thn_k ?_
    | refine swp_true rfl ?_
    | refine swp_false rfl ?_
    | refine swp_block ?_
    | refine swp_ret ?_
    | refine swp_exit ?_
    | refine swp_skip ?_
    | refine thn_ret ?_
    | refine inb_ret ?_
    | refine inb_k ?_
    | refine thn_exit ?_
    | refine inb_exit ?_
    | refine inb_out rfl ?_)
  exact end_retL [hC] (resOk_one (resV_tmp rfl)) ⟨hC, rfl, rfl, osC⟩
theorem le_of_sorted {zs : List Int} (hs : zs.Pairwise (· ≤ ·)) {i j : Nat} (hij : i ≤ j) (hj : j < zs.length) : zs[i]'(by omega) ≤ zs[j] := by
  rcases Nat.eq_or_lt_of_le hij with rfl | h
  · exact Int.le_refl _
  · exact List.pairwise_iff_getElem.1 hs i j (by omega) hj h
theorem sorted_merge (xs : List Int) : (xs.mergeSort fun x y => decide (x ≤ y)).Pairwise (· ≤ ·) := by
  have := List.pairwise_mergeSort (le := fun x y : Int => decide (x ≤ y)) (fun a b c h1 h2 => by simp at *; omega) (fun a b => by simp; omega) xs
  exact this.imp fun h => by simpa using h
theorem compact_sorted {zs : List Int} (hs : zs.Pairwise (· ≤ ·)) : (Lib.compact zs).Pairwise (· < ·) := by
  unfold Lib.compact Lib.compactUpTo
  rw [List.pairwise_map]
  have hr : ((List.range zs.length).filter (Lib.keeps zs.toArray)).Pairwise (· < ·) := (List.pairwise_lt_range).filter _
  refine hr.imp_of_mem ?_
  intro i j hi hj hij
  rw [List.mem_filter, List.mem_range] at hi hj
  obtain ⟨hj1, hj2⟩ := hj
  have hk : zs.toArray[j]! ≠ zs.toArray[j - 1]! := fun e => by
    rw [Lib.keeps_neg (by omega) e] at hj2; cases hj2
  have a1 := le_of_sorted hs (show j - 1 ≤ j by omega) hj1
  have a2 := le_of_sorted hs (show i ≤ j - 1 by omega) (by omega)
  have e1 : zs.toArray[j]! = zs[j] := by simp [hj1]
  have e2 : zs.toArray[j - 1]! = zs[j - 1]'(by omega) := by simp [show j - 1 < zs.length by omega]
  have e3 : zs.toArray[i]! = zs[i]'(by omega) := by simp [show i < zs.length by omega]
  rw [e1, e2] at hk
  rw [e1, e3]
  omega
theorem mem_compact {zs : List Int} {x : Int} : x ∈ Lib.compact zs ↔ x ∈ zs := by
  unfold Lib.compact Lib.compactUpTo
  rw [List.mem_map]
  constructor
  · rintro ⟨j, hj, rfl⟩
    rw [List.mem_filter, List.mem_range] at hj
    have : zs.toArray[j]! = zs[j]'hj.1 := by simp [hj.1]
    rw [this]; exact List.getElem_mem _
  · intro hx
    obtain ⟨j, hj, rfl⟩ := List.mem_iff_getElem.1 hx
    -- the first of the run
    have key : ∀ j (hj : j < zs.length), ∃ i, i < zs.length ∧ Lib.keeps zs.toArray i = true ∧ zs.toArray[i]! = zs[j] := by
      intro j
      induction j with
      | zero => intro hj; exact ⟨0, hj, Lib.keeps_lt_one _ 0 (by omega), by simp [hj]⟩
      | succ j ih =>
        intro hj
        by_cases e : zs.toArray[j + 1]! = zs.toArray[j + 1 - 1]!
        · obtain ⟨i, h1, h2, h3⟩ := ih (by omega)
          refine ⟨i, h1, h2, ?_⟩
          rw [h3]
          have a : zs.toArray[j + 1]! = zs[j + 1] := by simp [hj]
          have b : zs.toArray[j + 1 - 1]! = zs[j]'(by omega) := by simp [show j < zs.length by omega]
          rw [a, b] at e; exact e.symm
        · exact ⟨j + 1, hj, Lib.keeps_pos e, by simp [hj]⟩
    obtain ⟨i, h1, h2, h3⟩ := key j hj
    exact ⟨i, by rw [List.mem_filter, List.mem_range]; exact ⟨h1, h2⟩, h3⟩
theorem rise_sorted (xs : List Int) : (rise xs).Pairwise (· < ·) := compact_sorted (sorted_merge xs)
theorem mem_rise {xs : List Int} {x : Int} : x ∈ rise xs ↔ x ∈ xs := by
  unfold rise; rw [mem_compact]; exact List.mem_mergeSort
theorem sorted_unique : ∀ {a b : List Int}, a.Pairwise (· < ·) → b.Pairwise (· < ·) → (∀ x, x ∈ a ↔ x ∈ b) → a = b
  | [], [], _, _, _ => rfl
  | [], y :: b, _, _, h => absurd ((h y).2 (List.mem_cons_self ..)) (by simp)
  | x :: a, [], _, _, h => absurd ((h x).1 (List.mem_cons_self ..)) (by simp)
  | x :: a, y :: b, ha, hb, h => by
    obtain ⟨a1, a2⟩ := List.pairwise_cons.1 ha
    obtain ⟨b1, b2⟩ := List.pairwise_cons.1 hb
    have hx : x = y := by
      rcases List.mem_cons.1 ((h x).1 (List.mem_cons_self ..)) with e | e
      · exact e
      · rcases List.mem_cons.1 ((h y).2 (List.mem_cons_self ..)) with e2 | e2
        · exact e2.symm
        · have := a1 y e2; have := b1 x e; omega
    subst hx
    refine congrArg _ (sorted_unique a2 b2 fun z => ?_)
    have := h z
    simp only [List.mem_cons] at this
    constructor
    · intro hz
      rcases this.1 (.inr hz) with e | e
      · subst e; have := a1 z hz; omega
      · exact e
    · intro hz
      rcases this.2 (.inr hz) with e | e
      · subst e; have := b1 z hz; omega
      · exact e
theorem rise_eq {xs ys : List Int} (hs : ys.Pairwise (· < ·)) (h : ∀ x, x ∈ xs ↔ x ∈ ys) : rise xs = ys :=
  sorted_unique (rise_sorted xs) hs fun x => by rw [mem_rise]; exact h x
end Go.Proofs.Ytifhhfeibnpaoaa
