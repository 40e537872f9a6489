/- The statement NestWraps holds. -/
import Derived.Test.YtifhhfeibnpaoaaSlG3
import Derived.Test.YtifhhfeibnpaoaaWL3r
import Derived.Test.YtifhhfeibnpaoaaRows
namespace Go.Proofs.Ytifhhfeibnpaoaa.nestWraps
open Go.ChangeShapes Go.WideShapes Go.ChangeAt Go.RowKit Go.SL
set_option linter.unusedVariables false

theorem own : ownKnob Try.prog.godebug = none := by kernel_rfl

/-! The row. -/
set_option maxRecDepth 100000 in
theorem lifted (os : Os) (started : os.Started) (H : Type) (enc : TypeId × Value → H) :
    ReturnsInHanded {} Try.checked os 5 .any (Rows.nestWrapsSpec.pre6 enc Try.prog Try.f5 Rows.nestWrapsRow.domain false) (Rows.nestWrapsSpec.post enc Try.prog Try.f5 false true false false) := by
  refine returnsInHanded_of_change (C := Try.checked) own started (by kernel_rfl) Try.func5
    (ChangeSpec.witness6 (enc := enc) (C := Try.checked) false ⟨#[], #[.agg #[.slice none 0 0, .bool false, .int .u8 0, .int .u8 0, .int .u8 0, .int .i64 0]], []⟩ 8 (by kernel_rfl) (by kernel_rfl) (by kernel_rfl) (by kernel_rfl)) ?_
  intro W base args ds gs before hval0 hW hcnd _
  have hval : ∀ (j : Nat) t v, Try.f5.params[j]? = some t → args[j]? = some v → Value.okWide Try.prog W .any base t v := hval0
  have hW' := hW
  obtain ⟨p, q, hA0, hV, hb, hfz, hnd⟩ := hW
  have hA : DataW.TrodAll enc Try.prog W 0 (fun _ => true) true Try.f5.params.toList args.toList ds p := hA0
  obtain ⟨hg, hq⟩ := trodVars_none hV
  rw [Try.params5] at hval
  have hA1 := hA
  rw [Try.params5] at hA1
  obtain ⟨v0, d0, ha, hd, h0⟩ := trodAll_one hA1
  subst ha
  obtain ⟨cs0, rfl⟩ := okWide_aggS Try.underlying25 rfl (hval 0 25 v0 rfl rfl)
  obtain ⟨fuel0, hf0⟩ := h0
  obtain ⟨bb0, bl0, bc0, B0, odd0, at0, x0, y0, z0, ecs0, ln0, sl0, mx0, lc0, wf0, wa0, wx0, wy0⟩ := draft_open hf0
  have ecs0 : cs0 = _ := ecs0
  subst ecs0
  refine (PFn.rowS W (NestWraps_flat (wh W) bb0 bl0 bc0 B0 odd0 at0 x0 y0 z0 sl0 wf0 ln0 lc0 (by unfold maxLen at mx0; omega) wa0 wx0 wy0)).mono fun e W' ⟨he, hle⟩ => ?_
  subst he
  exact ⟨_, rfl, law_end hW' hA (by rw [hb, hq, List.append_nil]) hg rfl (by subst hd; rfl) (by kernel_rfl) (by kernel_rfl) Try.underlying4 hle⟩

theorem over : Rows.nestWrapsRow.holds Try.pinned (OpenSpec.ofChange Rows.nestWrapsSpec) :=
  OpenClaim.holds_of_wide 5 Try.f5 rfl rfl rfl rfl rfl rfl rfl ⟨rfl, rfl, rfl, rfl, rfl⟩ rfl rfl rfl rfl rfl (by kernel_rfl) Try.func5 (by kernel_rfl)
    (of_decide_eq_true (by kernel_rfl)) (by unfold Func.isWrapper; first | (rw [if_pos (by decide +kernel)]; kernel_rfl) | (rw [if_neg (by decide +kernel)]; exact ⟨rfl, rfl⟩))
    (fun os started H enc _ => lifted os started H enc)

/-- The statement. -/
theorem proved : Rows.NestWrapsSaid :=
  over
#print axioms proved
end Go.Proofs.Ytifhhfeibnpaoaa.nestWraps
