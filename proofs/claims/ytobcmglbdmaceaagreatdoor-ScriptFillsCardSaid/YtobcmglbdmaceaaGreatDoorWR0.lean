/- What the laws get, opened; the laid variables. -/
import Derived.Test.YtobcmglbdmaceaaGreatDoorWC3
import Derived.Test.YtobcmglbdmaceaaGreatDoorSlG3
import Derived.Test.YtobcmglbdmaceaaGreatDoorRows
import Derived.ChangeSame
import Derived.ChangeVars
import Derived.JoinedOf
import Derived.RowKit
import Derived.RowKitTokens
import Derived.LaidLaws
import Derived.LaidHandle
import Derived.Stop.Joined
import Derived.Lay
import Derived.Lib.LaidU8
set_option linter.unusedVariables false
set_option linter.unusedSimpArgs false
set_option linter.unusedSectionVars false
namespace Go.Proofs.YtobcmglbdmaceaaGreatDoor
open Go Go.SL
set_option maxRecDepth 1000000
open Go.ChangeShapes Go.WideShapes Go.ChangeAt Go.RowKit
theorem flat_of : ∀ (n : Nat) {zs : List Int}, zs.length = n * 2 → ∃ ls : List Pk, ls.length = n ∧ flatP ls = zs.map i64
  | 0, zs, h => ⟨[], rfl, by obtain rfl : zs = [] := List.length_eq_zero_iff.1 (by omega); rfl⟩
  | n + 1, zs, h => by
    match zs, h with
    | a :: b :: r, h =>
      obtain ⟨ls, h1, h2⟩ := flat_of n (zs := r) (by simp at h; omega)
      exact ⟨⟨a, b⟩ :: ls, by simp [h1], by simp [flatP, h2]⟩
    | [], h => simp at h
    | [_], h => simp at h; omega
theorem list_four {α : Type} {l : List α} (h : l.length = 4) : ∃ a b c d, l = [a, b, c, d] := by
  match l, h with
  | [a, b, c, d], _ => exact ⟨a, b, c, d, rfl⟩
theorem u8_range {k : Int} (h : (Lit.int .u8 k).wf = true) : 0 ≤ k ∧ k ≤ 255 := by
  obtain ⟨n, rfl, g⟩ := wf_u8 h
  omega
theorem k42 : Tryz.prog.cellsOf 42 = 2 := by kernel_rfl
theorem picks_open {H : Type} {enc : TypeId × Value → H} {w : World} {sp : Nat → Bool} {held : Bool} {fuel : Nat} {b : Option Addr} {n c : Nat} {x : DataW H × List MemPlace}
    (h : DataW.trod enc Tryz.prog w 0 sp held fuel 22 [.slice b n c] = some x) : ∃ l : List Pk, Sl (wh w) b (flatP l) ∧ l.length = n ∧ n ≤ c ∧ n ≤ 9223372036854775807 := by
  obtain ⟨zs, r1, r2, r3, r4, r5⟩ := sl_open_structs Tryz.underlying22 Tryz.underlying42 (by kernel_rfl) k42 (Nat.succ_pos 1) h
  obtain ⟨l, h1, h2⟩ := flat_of n r1
  refine ⟨l, ?_, h1, r4, by unfold maxLen at r3; omega⟩
  rw [h2]; exact r2
/-! The laid variables. -/
theorem et_ : Tryz.prog.globalNamed "errors.errorType" = some 0 := by kernel_rfl
theorem pt_ : Tryz.prog.globalNamed "internal/strconv.uint64pow10" = some 1 := by kernel_rfl
theorem rt_ : (Tryz.prog.cutTypes.find? (·.1 == "internal/reflectlite.rtype")).map (·.2) = some 110 := by kernel_rfl
theorem sizeT : Tryz.prog.types.size = 194 := by kernel_rfl
theorem oneRow : ((List.range 194).filter fun t => Tryz.prog.rowNamed t [101, 114, 114, 111, 114]) = [26] := by kernel_rfl
abbrev laidL : List (String × DataW Unit) := [("math/bits.deBruijn32tab", Rows.laid_math_bits_deBruijn32tab), ("math/bits.deBruijn64tab", Rows.laid_math_bits_deBruijn64tab), ("internal/strconv.uint64pow10", Rows.laid_internal_strconv_uint64pow10), ("unicode/utf8.acceptRanges", Rows.laid_unicode_utf8_acceptRanges), ("errors.errorType", Rows.laid_errors_errorType), ("strconv.ErrRange", Rows.laid_strconv_ErrRange), ("strconv.ErrSyntax", Rows.laid_strconv_ErrSyntax), ("unicode/utf8.first", Rows.laid_unicode_utf8_first)]
abbrev laidN : List (String × DataW Unit) := [("math/bits.deBruijn32tab", Rows.laid_math_bits_deBruijn32tab), ("math/bits.deBruijn64tab", Rows.laid_math_bits_deBruijn64tab), ("internal/strconv.uint64pow10", Rows.laid_internal_strconv_uint64pow10), ("unicode/utf8.acceptRanges", Rows.laid_unicode_utf8_acceptRanges), ("strconv.ErrRange", Rows.laid_strconv_ErrRange), ("strconv.ErrSyntax", Rows.laid_strconv_ErrSyntax), ("unicode/utf8.first", Rows.laid_unicode_utf8_first)]
theorem laidN_eq : (laidL.filter fun x => x.2.handleName?.isNone) = laidN := by kernel_rfl
theorem laidH_eq : (laidL.filter fun x => x.2.handleName?.isSome) = [("errors.errorType", Rows.laid_errors_errorType)] := by kernel_rfl
theorem laid_parts {W : World} (h : laidMetH Tryz.prog laidL W) : laidMet Tryz.prog laidN W ∧ handlesMet Tryz.prog [("errors.errorType", Rows.laid_errors_errorType)] W := by
  unfold laidMetH at h
  rw [laidH_eq, laidN_eq] at h
  exact h
theorem handle_of_laid {W : World} (h : laidMetH Tryz.prog laidL W) : W.cell? ⟨0, 0, none⟩ = some (.iface 110 (.agg #[.pointer (some ⟨9, 26, none⟩)])) := by
  obtain ⟨name, u, ty, e1, e2, e3, e4, e5⟩ := (laid_parts h).2 _ (List.mem_singleton.2 rfl)
  have en : name = [101, 114, 114, 111, 114] := (Option.some.inj e1).symm
  subst en
  obtain rfl := Option.some.inj (rt_.symm.trans e2)
  have hm : ty ∈ (List.range 194).filter fun t => Tryz.prog.rowNamed t [101, 114, 114, 111, 114] := List.mem_filter.2 ⟨List.mem_range.2 (by rw [← sizeT]; exact e3), e4⟩
  rw [oneRow] at hm
  obtain rfl := List.mem_singleton.1 hm
  have hh : typeHandle Tryz.prog 26 = .pointer (some ⟨9, 26, none⟩) := by kernel_rfl
  rw [hh] at e5
  simpa using World.var?_cell et_ e5 0
theorem ges_of {W : World} (h : laidMetH Tryz.prog laidL W) : Ges (wh W) := by
  have hc := handle_of_laid h
  refine ⟨fun k v hk => ?_⟩
  have hk0 : k = 0 := by
    have := (List.getElem?_eq_some_iff.1 hk).1
    simp at this; exact this
  subst hk0
  simp only [List.getElem?_cons_zero, Option.some.injEq] at hk
  subst hk
  simp only [World.cell?] at hc
  split at hc
  · rename_i c T fz he
    exact ⟨⟨0, 0, none⟩, c, T, fz, rfl, rfl, wh_b.2 he, by simpa using hc⟩
  · cases hc
theorem pow_tab {W : World} (h : laidMetH Tryz.prog laidL W) : Lib.TabIs Tryz.prog W "internal/strconv.uint64pow10" .u64 Lib.pow10Tab := by
  have h1 : Lib.VarReads Tryz.prog W "internal/strconv.uint64pow10" (Lib.tabData .u64 Lib.pow10Tab) := Lib.laidMet.reads (laid_parts h).1 (by
    have e : (Lib.tabData .u64 Lib.pow10Tab : DataW Unit) = Rows.laid_internal_strconv_uint64pow10 := rfl
    rw [e]; simp [laidN])
  obtain ⟨g, t, cs, fuel, p, hg, hty, hvar, hd⟩ := h1
  obtain rfl := Option.some.inj (pt_.symm.trans hg)
  obtain rfl := Option.some.inj ((show (Tryz.prog.globals[1]?).map (·.type) = some 142 by kernel_rfl).symm.trans hty)
  have hcs := Lib.cells_of_tab (n := 20) (e := 124) Tryz.underlying142 Tryz.underlying124 (by kernel_rfl) (by kernel_rfl) hd
  unfold Lib.TabIs
  rw [hvar, ← hcs]
theorem var_same {W w : World} (h : hle (wh W) (wh w)) {name : String} {cs : Array Value} (e : W.var? Tryz.prog name = some cs) : w.var? Tryz.prog name = some cs := by
  unfold World.var? at e ⊢
  cases hg : Tryz.prog.globalNamed name with
  | none => rw [hg] at e; cases e
  | some g =>
    rw [hg] at e
    simp only [Option.bind_some] at e ⊢
    cases ho : W.heap[g]? with
    | none => rw [ho] at e; cases e
    | some o =>
      have := wh_b.1 (h (.b g) _ (wh_b.2 ho))
      rw [ho] at e
      rw [this]; exact e
theorem pow_of {W : World} (h : laidMetH Tryz.prog laidL W) : Pow (wh W) := ⟨fun w hw => var_same hw (pow_tab h)⟩
/-! A world in which they lie so. -/
noncomputable def startW (os : Os) : World :=
  let w0 := World.holding Tryz.prog os ⟨#[], #[], []⟩
  { w0 with heap := w0.heap.modify 0 fun
      | .cells _ t frozen => .cells #[.iface 110 (.agg #[.pointer (some ⟨9, 26, none⟩)])] t frozen
      | o => o }
noncomputable def laidWorld (os : Os) : World := (startW os).layVars Tryz.prog laidN
theorem laidWorld_os (os : Os) : (laidWorld os).os = os := World.layVars_os _ _ _
abbrev great : List String := laidN.map (·.1)
theorem great_yes : (laidN.filter fun x => great.contains x.1) = laidN := by kernel_rfl
theorem great_no : (laidN.filter fun x => !great.contains x.1) = [] := by kernel_rfl
theorem laidN_met (os : Os) (args : Array Value) : laidMet Tryz.prog laidN ((laidWorld os).forCall (fun _ _ => 0) ⟨#[], args, []⟩).memory :=
  laidMet_layVars (w0 := startW os) great [] (by rw [great_yes]; kernel_rfl) (by rw [great_yes]; kernel_rfl) (by rw [great_yes]; kernel_rfl) (by rw [great_no]; exact LaidIn.none)
theorem laidWorld_met (os : Os) (args : Array Value) : laidMetH Tryz.prog laidL ((laidWorld os).forCall (fun _ _ => 0) ⟨#[], args, []⟩).memory :=
  laidMetH_of_parts (by rw [laidN_eq]; exact laidN_met os args) (by kernel_rfl)
theorem laidWorld_shaped (os : Os) : (laidWorld os).Shaped Tryz.prog := World.shaped_of_ZipB (by kernel_rfl) (by kernel_rfl)
end Go.Proofs.YtobcmglbdmaceaaGreatDoor
