/- The statement SpecOwns holds. -/
import Derived.Test.YtimmclibnfdjhaaSlG3
import Derived.Test.YtimmclibnfdjhaaWO5
import Derived.Test.YtimmclibnfdjhaaRows
set_option linter.unusedVariables false
set_option linter.unusedSimpArgs false
set_option linter.unusedSectionVars false
namespace Go.Proofs.Ytimmclibnfdjhaa.specOwns
open Go.ChangeShapes Go.WideShapes Go.ChangeAt Go.RowKit Go.SL
set_option linter.unusedVariables false

theorem own : ownKnob Try.prog.godebug = none := by kernel_rfl

/-! The row. -/
set_option maxRecDepth 100000 in
theorem lifted (os : Os) (started : os.Started) (H : Type) (enc : TypeId × Value → H) :
    ReturnsInHanded {} Try.checked os 3 .any (Rows.specOwnsSpec.pre6 enc Try.prog Try.f3 Rows.specOwnsRow.domain false) (Rows.specOwnsSpec.post enc Try.prog Try.f3 false true false false) := by
  refine returnsInHanded_of_change (C := Try.checked) own started (by kernel_rfl) Try.func3
    (ChangeSpec.witness6 (enc := enc) (C := Try.checked) false ⟨#[], #[.agg #[.int .u8 0, .int .u8 0, .slice none 0 0]], []⟩ 8 (by kernel_rfl) (by kernel_rfl) (by kernel_rfl) (by kernel_rfl)) ?_
  intro W base args ds gs before hval0 hW hcnd _
  have hval : ∀ (j : Nat) t v, Try.f3.params[j]? = some t → args[j]? = some v → Value.okWide Try.prog W .any base t v := hval0
  have hW' := hW
  obtain ⟨p, q, hA0, hV, hb, hfz, hnd⟩ := hW
  have hA : DataW.TrodAll enc Try.prog W 0 (fun _ => true) true Try.f3.params.toList args.toList ds p := hA0
  obtain ⟨hg, hq⟩ := trodVars_none hV
  rw [Try.params3] at hval
  have hA1 := hA
  rw [Try.params3] at hA1
  obtain ⟨v0, d0, ha, hd, h0⟩ := trodAll_one hA1
  subst ha
  obtain ⟨cs0, rfl⟩ := okWide_aggS Try.underlying24 rfl (hval 0 24 v0 rfl rfl)
  obtain ⟨fuel0, hf0⟩ := h0
  obtain ⟨da, db, bb, bl, bc, B, ecs0, hBl, slB, hmx, hbc, hB, hda, hdb⟩ := drawn_open hf0
  have ecs0 : cs0 = _ := ecs0
  subst ecs0
  refine (PFn.rowS W (owns_row hBl slB hmx hbc hB hda hdb)).mono fun e W' ⟨he, hle⟩ => ?_
  subst he
  exact ⟨_, rfl, law_end hW' hA (by rw [hb, hq, List.append_nil]) hg rfl (by subst hd; rfl) (by kernel_rfl) (by kernel_rfl) Try.underlying4 hle⟩

theorem over : Rows.specOwnsRow.holds Try.pinned (OpenSpec.ofChange Rows.specOwnsSpec) :=
  OpenClaim.holds_of_wide 3 Try.f3 rfl rfl rfl rfl rfl rfl rfl ⟨rfl, rfl, rfl, rfl, rfl⟩ rfl rfl rfl rfl rfl (by kernel_rfl) Try.func3 (by kernel_rfl)
    (of_decide_eq_true (by kernel_rfl)) (by unfold Func.isWrapper; first | (rw [if_pos (by decide +kernel)]; kernel_rfl) | (rw [if_neg (by decide +kernel)]; exact ⟨rfl, rfl⟩))
    (fun os started H enc _ => lifted os started H enc)

/-- The statement. -/
theorem proved : Rows.SpecOwnsSaid :=
  over
#print axioms proved
end Go.Proofs.Ytimmclibnfdjhaa.specOwns
