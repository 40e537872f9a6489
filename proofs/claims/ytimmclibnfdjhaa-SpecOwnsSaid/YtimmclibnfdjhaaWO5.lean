/- What laws get: what is drawn, opened. -/
import Derived.Test.YtimmclibnfdjhaaWB20
import Derived.Test.YtimmclibnfdjhaaSlG3
import Derived.Test.YtimmclibnfdjhaaWO4
set_option linter.unusedVariables false
set_option linter.unusedSimpArgs false
set_option linter.unusedSectionVars false
section
namespace Go.Proofs.Ytimmclibnfdjhaa
open Go Go.SL
open Go.ChangeShapes Go.WideShapes Go.ChangeAt Go.RowKit
/-- What is drawn, opened. -/
theorem drawn_open {H : Type} {enc : TypeId × Value → H} {w : World} {sp : Nat → Bool} {held : Bool} {fuel : Nat} {cs : List Value} {x : DataW H × List MemPlace}
    (h : DataW.trod enc Try.prog w 0 sp held fuel 24 cs = some x) :
    ∃ (a b : Nat) (bb : Option Addr) (bl bc : Nat) (B : List Nat), cs = [.int .u8 (a : Int), .int .u8 (b : Int), .slice bb bl bc] ∧ B.length = bl ∧ Sl (wh w) bb (B.map fun z : Nat => Value.int .u8 (z : Int)) ∧ bl ≤ maxLen ∧ bl ≤ bc ∧
      (∀ x ∈ B, x < 256) ∧ a < 256 ∧ b < 256 := by
  have k22 : Try.prog.cellsOf 22 = 1 := by kernel_rfl
  have k5 : Try.prog.cellsOf 5 = 1 := by kernel_rfl
  obtain ⟨hl, n, hf⟩ := struct_open (m := 3) Try.underlying24 (by kernel_rfl) h
  obtain ⟨a, b, c, rfl⟩ := list_three hl
  obtain ⟨y0, h0⟩ := hf _ (List.mem_of_getElem? (i := 0) rfl)
  obtain ⟨y1, h1⟩ := hf _ (List.mem_of_getElem? (i := 1) rfl)
  obtain ⟨y2, h2⟩ := hf _ (List.mem_of_getElem? (i := 2) rfl)
  simp only [k5] at h0
  simp only [k5] at h1
  simp only [k22] at h2
  replace h0 : DataW.trod enc Try.prog w 0 sp held n 5 [a] = some y0 := h0
  replace h1 : DataW.trod enc Try.prog w 0 sp held n 5 [b] = some y1 := h1
  replace h2 : DataW.trod enc Try.prog w 0 sp held n 22 [c] = some y2 := h2
  obtain ⟨a0, e0, -, w0⟩ := DataW.trod_int Try.underlying5 h0
  obtain ⟨b0, e1, -, w1⟩ := DataW.trod_int Try.underlying5 h1
  simp only [List.cons.injEq, and_true] at e0 e1
  subst e0 e1
  obtain ⟨a, rfl, ha⟩ := wf_u8 w0
  obtain ⟨b, rfl, hb⟩ := wf_u8 w1
  have hsl : ∃ (bb : Option Addr) (bl bc : Nat), c = .slice bb bl bc := by
    rcases DataW.trod_slice Try.underlying22 h2 with ⟨e0, -⟩ | ⟨ad, len, cap, _, _, _, _, e0, -⟩
    · simp only [List.cons.injEq, and_true] at e0; exact ⟨_, _, _, e0⟩
    · simp only [List.cons.injEq, and_true] at e0; exact ⟨_, _, _, e0⟩
  obtain ⟨bb, bl, bc, rfl⟩ := hsl
  obtain ⟨B, g1, g2, g3, g4, g5⟩ := sl_open_ints Try.underlying22 Try.underlying5 k5 h2
  have hB : B.map (Value.int .u8) = (B.map Int.toNat).map fun z : Nat => Value.int .u8 (z : Int) := by
    rw [List.map_map]
    refine List.map_congr_left fun z hz => ?_
    obtain ⟨m, rfl, -⟩ := wf_u8 (g5 z hz)
    rfl
  refine ⟨a, b, bb, bl, bc, B.map Int.toNat, rfl, by simp [g1], by rw [← hB]; exact g2, g3, g4, fun x hx => ?_, ha, hb⟩
  obtain ⟨z, hz, rfl⟩ := List.mem_map.1 hx
  obtain ⟨m, rfl, hm⟩ := wf_u8 (g5 z hz)
  simpa using hm
end Go.Proofs.Ytimmclibnfdjhaa
end
section
/- SpecOwns, over the whole of memory. -/
namespace Go.Proofs.Ytimmclibnfdjhaa
open Go Go.SL
theorem owns_row {w : World} {bb : Option Addr} {bl bc a b : Nat} {B : List Nat} (hl : B.length = bl) (sl : Sl (wh w) bb (B.map fun z : Nat => Value.int .u8 (z : Int))) (hm : bl ≤ maxLen) (hc : bl ≤ bc) (hB : ∀ x ∈ B, x < 256) (ha : a < 256) (hb : b < 256) :
    PFn Try.prog 3 [.agg ⟨[.int .u8 (a : Int), .int .u8 (b : Int), .slice bb bl bc]⟩] [wh w] (.bool true) :=
  owns_calls (slB := sl) a b ha hb hB hl hc (Nat.le_trans hm (by decide))
end Go.Proofs.Ytimmclibnfdjhaa
end
