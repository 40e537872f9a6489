/- The statement NestHolds holds. -/
import Derived.Test.YtifhhfeibnpaoaaSlG3
import Derived.Test.YtifhhfeibnpaoaaWL2r
import Derived.Test.YtifhhfeibnpaoaaRows
namespace Go.Proofs.Ytifhhfeibnpaoaa.nestHolds
open Go.ChangeShapes Go.WideShapes Go.ChangeAt Go.RowKit Go.SL
set_option linter.unusedVariables false

theorem own : ownKnob Try.prog.godebug = none := by kernel_rfl

/-! The row. -/
set_option maxRecDepth 100000 in
theorem lifted (os : Os) (started : os.Started) (H : Type) (enc : TypeId × Value → H) :
    ReturnsInHanded {} Try.checked os 4 .any (Rows.nestHoldsSpec.pre6 enc Try.prog Try.f4 Rows.nestHoldsRow.domain false) (Rows.nestHoldsSpec.post enc Try.prog Try.f4 false true false false) := by
  refine returnsInHanded_of_change (C := Try.checked) own started (by kernel_rfl) Try.func4
    (ChangeSpec.witness6 (enc := enc) (C := Try.checked) false ⟨#[], #[.agg #[.slice none 0 0, .bool false, .int .u8 0, .int .u8 0, .int .u8 0, .int .i64 0], .slice none 0 0], []⟩ 8 (by kernel_rfl) (by kernel_rfl) (by kernel_rfl) (by kernel_rfl)) ?_
  intro W base args ds gs before hval0 hW hcnd _
  have hval : ∀ (j : Nat) t v, Try.f4.params[j]? = some t → args[j]? = some v → Value.okWide Try.prog W .any base t v := hval0
  have hW' := hW
  obtain ⟨p, q, hA0, hV, hb, hfz, hnd⟩ := hW
  have hA : DataW.TrodAll enc Try.prog W 0 (fun _ => true) true Try.f4.params.toList args.toList ds p := hA0
  obtain ⟨hg, hq⟩ := trodVars_none hV
  rw [Try.params4] at hval
  have hA1 := hA
  rw [Try.params4] at hA1
  obtain ⟨v0, v1, d0, d1, p0, p1, ha, hd, -, h0, h1⟩ := trodAll_two hA1
  subst ha
  obtain ⟨cs0, rfl⟩ := okWide_aggS Try.underlying25 rfl (hval 0 25 v0 rfl rfl)
  obtain ⟨fuel0, hf0⟩ := h0
  obtain ⟨bb0, bl0, bc0, B0, odd0, at0, x0, y0, z0, ecs0, ln0, sl0, mx0, lc0, wf0, wa0, wx0, wy0⟩ := draft_open hf0
  have ecs0 : cs0 = _ := ecs0
  subst ecs0
  obtain ⟨base1, len1, cap1, rfl⟩ := okWide_slice Try.underlying22 (hval 1 22 v1 rfl rfl)
  obtain ⟨fuel1, hf1⟩ := h1
  obtain ⟨zs1, ln1, sl1, mx1, lc1, wf1⟩ := sl_open_ints Try.underlying22 Try.underlying5 (by kernel_rfl) hf1
  refine (PFn.rowS W (NestHolds_flat (wh W) bb0 bl0 bc0 B0 odd0 at0 x0 y0 z0 base1 len1 cap1 zs1 sl0 sl1 wf0 ln0 lc0 (by unfold maxLen at mx0; omega) wa0 wx0 wy0 wf1 ln1 (by unfold maxLen at mx1; omega))).mono fun e W' ⟨he, hle⟩ => ?_
  subst he
  exact ⟨_, rfl, law_end hW' hA (by rw [hb, hq, List.append_nil]) hg rfl (by subst hd; rfl) (by kernel_rfl) (by kernel_rfl) Try.underlying4 hle⟩

theorem over : Rows.nestHoldsRow.holds Try.pinned (OpenSpec.ofChange Rows.nestHoldsSpec) :=
  OpenClaim.holds_of_wide 4 Try.f4 rfl rfl rfl rfl rfl rfl rfl ⟨rfl, rfl, rfl, rfl, rfl⟩ rfl rfl rfl rfl rfl (by kernel_rfl) Try.func4 (by kernel_rfl)
    (of_decide_eq_true (by kernel_rfl)) (by unfold Func.isWrapper; first | (rw [if_pos (by decide +kernel)]; kernel_rfl) | (rw [if_neg (by decide +kernel)]; exact ⟨rfl, rfl⟩))
    (fun os started H enc _ => lifted os started H enc)

/-- The statement. -/
theorem proved : Rows.NestHoldsSaid :=
  over
#print axioms proved
end Go.Proofs.Ytifhhfeibnpaoaa.nestHolds
