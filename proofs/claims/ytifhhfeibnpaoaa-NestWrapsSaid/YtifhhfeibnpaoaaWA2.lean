/- The library's BinarySearch and Equal at rows that are read. -/
import Derived.Test.YtifhhfeibnpaoaaWA1
namespace Go.Proofs.Ytifhhfeibnpaoaa
open Go.SL
set_option maxRecDepth 100000
set_option maxHeartbeats 16000000
theorem SlIn.rowc {own : List Heap} {b : Option Addr} {n : Nat} {xs : List Int} [s : SlIn own b (xs.map i64)] (h1 : xs.length = n) (hp : 0 < n) :
    ∃ bb off, b = some ⟨bb, off, none⟩ ∧ ∀ X w, Sat (own ++ X) w → ∀ j, j < xs.length → w.cell? ⟨bb, off + j, none⟩ = some (.int .i64 (xs.getD j 0)) := by
  have hz : (xs.map i64)[0]? = some (i64 (xs.getD 0 0)) := by
    rw [List.getElem?_map, List.getD_eq_getElem?_getD, List.getElem?_eq_getElem (by omega)]; rfl
  obtain ⟨h, hm, e⟩ := s.mem
  obtain ⟨⟨bb, off, sp⟩, arr, T, fz, h1, h2, h3, h4⟩ := e.cell 0 _ hz
  subst h1
  obtain rfl : sp = none := h2
  refine ⟨bb, off, rfl, fun X w st j hj => ?_⟩
  have hzj : (xs.map i64)[j]? = some (i64 (xs.getD j 0)) := by
    rw [List.getElem?_map, List.getD_eq_getElem?_getD, List.getElem?_eq_getElem hj]; rfl
  obtain ⟨a, ha, hb, hc⟩ := s.cell st hzj
  cases ha
  exact hc
theorem Search_calls (own : List Heap) (b : Option Addr) (n c : Nat) (xs : List Int) (v : Int) [SlIn own b (xs.map i64)] (h1 : xs.length = n) (hsm : n ≤ 4000000) (hs : xs.Pairwise (· ≤ ·)) :
    PFn Try.prog 28 [.slice b n c, i64 v] own (.tuple #[i64 (xs.countP (· < v) : Nat), .bool (decide (v ∈ xs))]) := by
  intro w X s
  rcases Nat.eq_zero_or_pos n with h0 | hp
  · subst h0
    obtain rfl : xs = [] := List.length_eq_zero_iff.1 h1
    refine (Try.slices_BinarySearch_int_empty b c v w).mono ?_
    rintro e w' ⟨h1, h2⟩
    subst h2
    exact ⟨own, s, h1, rfl⟩
  · obtain ⟨bb, off, rfl, hc⟩ := SlIn.rowc (own := own) (b := b) h1 hp
    have ht : xs.take n = xs := List.take_of_length_le (by omega)
    have := Try.slices_BinarySearch_int bb off n c xs v w (by omega) (by omega) (hc X w s) (by rw [ht]; exact hs)
    rw [ht] at this
    refine this.mono ?_
    rintro e w' ⟨h1, q, rfl⟩
    refine ⟨own, s.heap rfl rfl rfl, ?_, rfl⟩
    rw [h1, List.contains_eq_mem]
theorem Equal_calls (own : List Heap) (b1 b2 : Option Addr) (n m c d : Nat) (xs ys : List Int) [SlIn own b1 (xs.map i64)] [SlIn own b2 (ys.map i64)] (h1 : xs.length = n) (h2 : ys.length = m) (hs1 : n ≤ 4000000) (hs2 : m ≤ 4000000) :
    PFn Try.prog 48 [.slice b1 n c, .slice b2 m d] own (.bool (decide (xs = ys))) := by
  intro w X s
  by_cases hnm : n = m
  · rcases Nat.eq_zero_or_pos n with h0 | hp
    · subst h0
      subst hnm
      obtain rfl : xs = [] := List.length_eq_zero_iff.1 h1
      obtain rfl : ys = [] := List.length_eq_zero_iff.1 h2
      refine (Try.slices_Equal_int_empty b1 b2 c 0 d w (by omega)).mono ?_
      rintro e w' ⟨h1, h2⟩
      subst h2
      exact ⟨own, s, h1, rfl⟩
    · obtain ⟨bb, off, rfl, hc⟩ := SlIn.rowc (own := own) (b := b1) h1 hp
      obtain ⟨bb2, off2, rfl, hc2⟩ := SlIn.rowc (own := own) (b := b2) h2 (by omega)
      have := Try.slices_Equal_int bb off n c bb2 off2 m d xs ys w (by omega) (by omega) (by omega) (by omega) (hc X w s) (hc2 X w s)
      rw [List.take_of_length_le (show xs.length ≤ n by omega), List.take_of_length_le (show ys.length ≤ m by omega)] at this
      refine this.mono ?_
      rintro e w' ⟨h1, q, rfl⟩
      refine ⟨own, s.heap rfl rfl rfl, ?_, rfl⟩
      rw [h1]
      by_cases e : xs = ys <;> simp [e]
  · refine (Try.slices_Equal_int_lens b1 b2 n c m d w hnm).mono ?_
    rintro e w' ⟨h3, h4⟩
    subst h4
    refine ⟨own, s, ?_, rfl⟩
    rw [h3, decide_eq_false]
    rintro rfl
    exact hnm (h1.symm.trans h2)
end Go.Proofs.Ytifhhfeibnpaoaa
