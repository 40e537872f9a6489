/- The statement WordHash holds: for all headers and makings its function hands back true, and its arguments read as before. -/
import Derived.Test.YtblobkigbdcjeaaSlU
import Derived.Test.YtblobkigbdcjeaaWW10
import Derived.Test.YtblobkigbdcjeaaRows
namespace Go.Proofs.Ytblobkigbdcjeaa.wordHash
open Go.ChangeShapes Go.WideShapes Go.ChangeAt Go.RowKit Go.SL
set_option linter.unusedVariables false

theorem own : ownKnob Try.prog.godebug = none := by kernel_rfl

/-! The row. -/
set_option maxRecDepth 100000 in
theorem lifted (os : Os) (started : os.Started) (H : Type) (enc : TypeId × Value → H) :
    ReturnsInHanded {} Try.checked os 6 .any (Rows.wordHashSpec.pre6 enc Try.prog Try.f6 Rows.wordHashRow.domain false) (Rows.wordHashSpec.post enc Try.prog Try.f6 false true false false) := by
  refine returnsInHanded_of_change (C := Try.checked) own started (by kernel_rfl) Try.func6
    (ChangeSpec.witness6 (enc := enc) (C := Try.checked) false ⟨#[], #[.agg #[.int .i64 0, .int .i64 0, .int .i64 0, .int .i64 0, .int .i64 0, .int .i64 0], .slice none 0 0], []⟩ 8 (by kernel_rfl) (by kernel_rfl) (by kernel_rfl) (by kernel_rfl)) ?_
  intro W base args ds gs before hval0 hW hcnd _
  have hval : ∀ (j : Nat) t v, Try.f6.params[j]? = some t → args[j]? = some v → Value.okWide Try.prog W .any base t v := hval0
  have hW' := hW
  obtain ⟨p, q, hA0, hV, hb, hfz, hnd⟩ := hW
  have hA : DataW.TrodAll enc Try.prog W 0 (fun _ => true) true Try.f6.params.toList args.toList ds p := hA0
  obtain ⟨hg, hq⟩ := trodVars_none hV
  rw [Try.params6] at hval
  have hA1 := hA
  rw [Try.params6] at hA1
  obtain ⟨v0, v1, d0, d1, p0, p1, ha, hd, -, h0, h1⟩ := trodAll_two hA1
  subst ha
  obtain ⟨cs0, rfl⟩ := okWide_aggS Try.underlying23 rfl (hval 0 23 v0 rfl rfl)
  obtain ⟨fuel0, hf0⟩ := h0
  obtain ⟨zs0, hl0, hcs0, wf0⟩ := struct_open_ints (k := .i64) (m := 6) Try.underlying23 (by kernel_rfl) (by kernel_rfl) hf0
  obtain ⟨a0, b0, c0, d0, e0, f0, rfl⟩ := list_six hl0
  have hcs0 : cs0 = [.int .i64 a0, .int .i64 b0, .int .i64 c0, .int .i64 d0, .int .i64 e0, .int .i64 f0] := hcs0
  subst hcs0
  obtain ⟨base1, len1, cap1, rfl⟩ := okWide_slice Try.underlying42 (hval 1 42 v1 rfl rfl)
  obtain ⟨fuel1, hf1⟩ := h1
  obtain ⟨zs1, ln1, sl1, mx1, lc1, wf1⟩ := sl_open_arrs Try.underlying42 Try.underlying45 Try.underlying44 (by kernel_rfl) (by kernel_rfl) (by decide) hf1
  refine (PFn.rowS W (WordHash_calls a0 b0 c0 d0 e0 f0 (wh W) base1 len1 cap1 zs1 ln1 mx1 (fun z hz => wf_u16 (wf1 z hz)) sl1)).mono fun e W' ⟨he, hle⟩ => ?_
  subst he
  exact ⟨_, rfl, law_end hW' hA (by rw [hb, hq, List.append_nil]) hg rfl (by subst hd; rfl) (by kernel_rfl) (by kernel_rfl) Try.underlying4 hle⟩

theorem over : Rows.wordHashRow.holds Try.pinned (OpenSpec.ofChange Rows.wordHashSpec) :=
  OpenClaim.holds_of_wide 6 Try.f6 rfl rfl rfl rfl rfl rfl rfl ⟨rfl, rfl, rfl, rfl, rfl⟩ rfl rfl rfl rfl rfl (by kernel_rfl) Try.func6 (by kernel_rfl)
    (of_decide_eq_true (by kernel_rfl)) (by unfold Func.isWrapper; first | (rw [if_pos (by decide +kernel)]; kernel_rfl) | (rw [if_neg (by decide +kernel)]; exact ⟨rfl, rfl⟩))
    (fun os started H enc _ => lifted os started H enc)

/-- The statement. -/
theorem proved : Rows.WordHashSaid :=
  over
#print axioms proved
end Go.Proofs.Ytblobkigbdcjeaa.wordHash
