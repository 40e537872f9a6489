/- The statement FieldLays holds: for all widths its function hands back true, and its argument reads as before. -/
import Derived.Test.YthhlgaaamfeohaaSlP
import Derived.Test.YthhlgaaamfeohaaWT7
import Derived.Test.YthhlgaaamfeohaaRows
namespace Go.Proofs.Ythhlgaaamfeohaa.fieldLays
open Go.ChangeShapes Go.WideShapes Go.ChangeAt Go.RowKit Go.SL
set_option linter.unusedVariables false

theorem own : ownKnob Try.prog.godebug = none := by kernel_rfl

/-! The row. -/
set_option maxRecDepth 100000 in
theorem lifted (os : Os) (started : os.Started) (H : Type) (enc : TypeId × Value → H) :
    ReturnsInHanded {} Try.checked os 6 .any (Rows.fieldLaysSpec.pre6 enc Try.prog Try.f6 Rows.fieldLaysRow.domain false) (Rows.fieldLaysSpec.post enc Try.prog Try.f6 false true false false) := by
  refine returnsInHanded_of_change (C := Try.checked) own started (by kernel_rfl) Try.func6
    (ChangeSpec.witness6 (enc := enc) (C := Try.checked) false ⟨#[], #[.slice none 0 0], []⟩ 8 (by kernel_rfl) (by kernel_rfl) (by kernel_rfl) (by kernel_rfl)) ?_
  intro W base args ds gs before hval0 hW hcnd _
  have hval : ∀ (j : Nat) t v, Try.f6.params[j]? = some t → args[j]? = some v → Value.okWide Try.prog W .any base t v := hval0
  have hW' := hW
  obtain ⟨p, q, hA0, hV, hb, hfz, hnd⟩ := hW
  have hA : DataW.TrodAll enc Try.prog W 0 (fun _ => true) true Try.f6.params.toList args.toList ds p := hA0
  obtain ⟨hg, hq⟩ := trodVars_none hV
  rw [Try.params6] at hval
  have hA1 := hA
  rw [Try.params6] at hA1
  obtain ⟨v0, d0, ha, hd, h0⟩ := trodAll_one hA1
  subst ha
  obtain ⟨base0, len0, cap0, rfl⟩ := okWide_slice Try.underlying26 (hval 0 26 v0 rfl rfl)
  obtain ⟨fuel0, hf0⟩ := h0
  obtain ⟨zs0, ln0, sl0, mx0, lc0, wf0⟩ := sl_open_ints Try.underlying26 Try.underlying3 (by kernel_rfl) hf0
  refine (PFn.rowS W (FieldLays_calls (wh W) base0 len0 cap0 zs0 ln0 lc0 (by unfold maxLen at mx0; omega))).mono fun e W' ⟨he, hle⟩ => ?_
  subst he
  exact ⟨_, rfl, law_end hW' hA (by rw [hb, hq, List.append_nil]) hg rfl (by subst hd; rfl) (by kernel_rfl) (by kernel_rfl) Try.underlying4 hle⟩

theorem over : Rows.fieldLaysRow.holds Try.pinned (OpenSpec.ofChange Rows.fieldLaysSpec) :=
  OpenClaim.holds_of_wide 6 Try.f6 rfl rfl rfl rfl rfl rfl rfl ⟨rfl, rfl, rfl, rfl, rfl⟩ rfl rfl rfl rfl rfl (by kernel_rfl) Try.func6 (by kernel_rfl)
    (of_decide_eq_true (by kernel_rfl)) (by unfold Func.isWrapper; first | (rw [if_pos (by decide +kernel)]; kernel_rfl) | (rw [if_neg (by decide +kernel)]; exact ⟨rfl, rfl⟩))
    (fun os started H enc _ => lifted os started H enc)

/-- The statement. -/
theorem proved : Rows.FieldLaysSaid :=
  over
#print axioms proved
end Go.Proofs.Ythhlgaaamfeohaa.fieldLays
