/- The statement FieldTells holds: for all places, widths, words and numbers its function hands back true, and its arguments read as before. -/
import Derived.Test.YthhlgaaamfeohaaSlP
import Derived.Test.YthhlgaaamfeohaaWT6
import Derived.Test.YthhlgaaamfeohaaRows
namespace Go.Proofs.Ythhlgaaamfeohaa.fieldTells
open Go.ChangeShapes Go.WideShapes Go.ChangeAt Go.RowKit Go.SL
set_option linter.unusedVariables false

theorem own : ownKnob Try.prog.godebug = none := by kernel_rfl
theorem walk (w : World) (at_ wide : Int) (w0 w1 : Nat) (h0 : w0 < 2 ^ 64) (h1 : w1 < 2 ^ 64) : Calls Try.prog 5 #[.int .i64 at_, .int .i64 wide, .agg #[.int .u64 w0, .int .u64 w1]] w fun e w' => e = .returned (.bool true) ∧ hle (wh w) (wh w') :=
  (FieldTells_calls at_ wide w0 w1 h0 h1).rowN w

/-! The row. -/
set_option maxRecDepth 100000 in
theorem lifted (os : Os) (started : os.Started) (H : Type) (enc : TypeId × Value → H) :
    ReturnsInHanded {} Try.checked os 5 .any (Rows.fieldTellsSpec.pre6 enc Try.prog Try.f5 Rows.fieldTellsRow.domain false) (Rows.fieldTellsSpec.post enc Try.prog Try.f5 false true false false) := by
  refine returnsInHanded_of_change (C := Try.checked) own started (by kernel_rfl) Try.func5
    (ChangeSpec.witness6 (enc := enc) (C := Try.checked) false ⟨#[], #[.int .i64 0, .int .i64 0, .agg #[.int .u64 0, .int .u64 0]], []⟩ 8 (by kernel_rfl) (by kernel_rfl) (by kernel_rfl) (by kernel_rfl)) ?_
  intro W base args ds gs before hval0 hW hcnd _
  have hval : ∀ (j : Nat) t v, Try.f5.params[j]? = some t → args[j]? = some v → Value.okWide Try.prog W .any base t v := hval0
  have hW' := hW
  obtain ⟨p, q, hA0, hV, hb, hfz, hnd⟩ := hW
  have hA : DataW.TrodAll enc Try.prog W 0 (fun _ => true) true Try.f5.params.toList args.toList ds p := hA0
  obtain ⟨hg, hq⟩ := trodVars_none hV
  rw [Try.params5] at hval
  have hA1 := hA
  rw [Try.params5] at hA1
  obtain ⟨v0, v1, v2, d0, d1, d2, p0, p1, p2, ha, hd, -, h0, h1, h2⟩ := trodAll_three hA1
  subst ha
  obtain ⟨x0, rfl, -, -, -⟩ := open_int Try.underlying3 (hval 0 3 v0 rfl rfl) h0
  obtain ⟨x1, rfl, -, -, -⟩ := open_int Try.underlying3 (hval 1 3 v1 rfl rfl) h1
  obtain ⟨cs, rfl⟩ := okWide_aggS Try.underlying37 rfl (hval 2 37 v2 rfl rfl)
  obtain ⟨fuel, hf⟩ := h2
  obtain ⟨zs, hl, hcs, hwf⟩ := arr_open_ints Try.underlying37 Try.underlying23 (by kernel_rfl) (by kernel_rfl) hf
  obtain ⟨z0, z1, rfl⟩ := list_two hl
  subst hcs
  obtain ⟨n0, rfl, g0⟩ := wf_u64 (hwf z0 (by simp))
  obtain ⟨n1, rfl, g1⟩ := wf_u64 (hwf z1 (by simp))
  refine (walk W x0 x1 n0 n1 g0 g1).mono fun e W' ⟨he, hle⟩ => ?_
  subst he
  exact ⟨_, rfl, law_end hW' hA (by rw [hb, hq, List.append_nil]) hg rfl (by subst hd; rfl) (by kernel_rfl) (by kernel_rfl) Try.underlying4 hle⟩

theorem over : Rows.fieldTellsRow.holds Try.pinned (OpenSpec.ofChange Rows.fieldTellsSpec) :=
  OpenClaim.holds_of_wide 5 Try.f5 rfl rfl rfl rfl rfl rfl rfl ⟨rfl, rfl, rfl, rfl, rfl⟩ rfl rfl rfl rfl rfl (by kernel_rfl) Try.func5 (by kernel_rfl)
    (of_decide_eq_true (by kernel_rfl)) (by unfold Func.isWrapper; first | (rw [if_pos (by decide +kernel)]; kernel_rfl) | (rw [if_neg (by decide +kernel)]; exact ⟨rfl, rfl⟩))
    (fun os started H enc _ => lifted os started H enc)

/-- The statement. -/
theorem proved : Rows.FieldTellsSaid :=
  over
#print axioms proved
end Go.Proofs.Ythhlgaaamfeohaa.fieldTells
