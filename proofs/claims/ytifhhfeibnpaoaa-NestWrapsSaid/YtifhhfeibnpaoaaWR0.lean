/- What laws get: drafts and codes, opened. -/
import Derived.Test.YtifhhfeibnpaoaaWD4
import Derived.Test.YtifhhfeibnpaoaaSlG3
namespace Go.Proofs.Ytifhhfeibnpaoaa
open Go Go.SL
open Go.ChangeShapes Go.WideShapes Go.ChangeAt Go.RowKit
theorem flat_of : ∀ (n : Nat) {zs : List Int}, zs.length = n * 3 → ∃ ls : List Ins, ls.length = n ∧ flatI ls = zs.map i64
  | 0, zs, h => ⟨[], rfl, by obtain rfl : zs = [] := List.length_eq_zero_iff.1 (by omega); rfl⟩
  | n + 1, zs, h => by
    match zs, h with
    | a :: b :: c :: r, h =>
      obtain ⟨ls, h1, h2⟩ := flat_of n (zs := r) (by simp at h; omega)
      exact ⟨(a, b, c) :: ls, by simp [h1], by simp [flatI, h2]⟩
    | [], h => simp at h
    | [_], h => simp at h; omega
    | [_, _], h => simp at h; omega
/-- A draft, opened. -/
theorem draft_open {H : Type} {enc : TypeId × Value → H} {w : World} {sp : Nat → Bool} {held : Bool} {fuel : Nat} {cs : List Value} {x : DataW H × List MemPlace}
    (h : DataW.trod enc Try.prog w 0 sp held fuel 25 cs = some x) :
    ∃ (bb : Option Addr) (bl bc : Nat) (B : List Int) (odd : Bool) (a8 x0 x1 v0 : Int), cs = [.slice bb bl bc, .bool odd, u8 a8, u8 x0, u8 x1, i64 v0] ∧ B.length = bl ∧ Sl (wh w) bb (B.map u8) ∧ bl ≤ maxLen ∧ bl ≤ bc ∧
      (∀ x ∈ B, 0 ≤ x ∧ x ≤ 255) ∧ (0 ≤ a8 ∧ a8 ≤ 255) ∧ (0 ≤ x0 ∧ x0 ≤ 255) ∧ (0 ≤ x1 ∧ x1 ≤ 255) := by
  have k22 : Try.prog.cellsOf 22 = 1 := by kernel_rfl
  have k4 : Try.prog.cellsOf 4 = 1 := by kernel_rfl
  have k5 : Try.prog.cellsOf 5 = 1 := by kernel_rfl
  have k23 : Try.prog.cellsOf 23 = 2 := by kernel_rfl
  have k3 : Try.prog.cellsOf 3 = 1 := by kernel_rfl
  obtain ⟨hl, n, hf⟩ := struct_open (m := 6) Try.underlying25 (by kernel_rfl) h
  obtain ⟨a, b, c, d, e, f, rfl⟩ := list_six hl
  obtain ⟨y0, h0⟩ := hf _ (List.mem_of_getElem? (i := 0) rfl)
  obtain ⟨y1, h1⟩ := hf _ (List.mem_of_getElem? (i := 1) rfl)
  obtain ⟨y2, h2⟩ := hf _ (List.mem_of_getElem? (i := 2) rfl)
  obtain ⟨y3, h3⟩ := hf _ (List.mem_of_getElem? (i := 3) rfl)
  obtain ⟨y4, h4⟩ := hf _ (List.mem_of_getElem? (i := 4) rfl)
  simp only [k22] at h0
  simp only [k4] at h1
  simp only [k5] at h2
  simp only [k23] at h3
  simp only [k3] at h4
  replace h0 : DataW.trod enc Try.prog w 0 sp held n 22 [a] = some y0 := h0
  replace h1 : DataW.trod enc Try.prog w 0 sp held n 4 [b] = some y1 := h1
  replace h2 : DataW.trod enc Try.prog w 0 sp held n 5 [c] = some y2 := h2
  replace h3 : DataW.trod enc Try.prog w 0 sp held n 23 [d, e] = some y3 := h3
  replace h4 : DataW.trod enc Try.prog w 0 sp held n 3 [f] = some y4 := h4
  obtain ⟨odd, e1, -⟩ := DataW.trod_bool Try.underlying4 h1
  obtain ⟨a8, e2, -, w2⟩ := DataW.trod_int Try.underlying5 h2
  obtain ⟨v0, e4, -, w4⟩ := DataW.trod_int Try.underlying3 h4
  obtain ⟨zs, l3, e3, w3⟩ := arr_open_ints Try.underlying23 Try.underlying5 k5 k23 h3
  obtain ⟨x0, x1, rfl⟩ := list_two l3
  simp only [List.cons.injEq, and_true] at e1 e2 e4
  simp only [List.map_cons, List.map_nil, List.cons.injEq, and_true] at e3
  obtain ⟨rfl, rfl⟩ := e3
  subst e1 e2 e4
  have byte : ∀ z : Int, (Lit.int .u8 z).wf = true → 0 ≤ z ∧ z ≤ 255 := fun z hz => by
    obtain ⟨n, rfl, hn⟩ := wf_u8 hz; omega
  have hsl : ∃ (bb : Option Addr) (bl bc : Nat), a = .slice bb bl bc := by
    rcases DataW.trod_slice Try.underlying22 h0 with ⟨e0, -⟩ | ⟨ad, len, cap, _, _, _, _, e0, -⟩
    · simp only [List.cons.injEq, and_true] at e0; exact ⟨_, _, _, e0⟩
    · simp only [List.cons.injEq, and_true] at e0; exact ⟨_, _, _, e0⟩
  obtain ⟨bb, bl, bc, rfl⟩ := hsl
  obtain ⟨B, g1, g2, g3, g4, g5⟩ := sl_open_ints Try.underlying22 Try.underlying5 k5 h0
  exact ⟨bb, bl, bc, B, odd, a8, x0, x1, v0, rfl, g1, g2, g3, g4, fun x hx => byte x (g5 x hx), byte _ w2, byte _ (w3 _ (by simp)), byte _ (w3 _ (by simp))⟩
end Go.Proofs.Ytifhhfeibnpaoaa
