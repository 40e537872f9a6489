/- The statement SpecWakes holds. -/
import Derived.Test.YtimmclibnfdjhaaSlG3
import Derived.Test.YtimmclibnfdjhaaWW5
import Derived.Test.YtimmclibnfdjhaaRows
namespace Go.Proofs.Ytimmclibnfdjhaa.specWakes
open Go.ChangeShapes Go.WideShapes Go.ChangeAt Go.RowKit Go.SL
set_option linter.unusedVariables false

theorem own : ownKnob Try.prog.godebug = none := by kernel_rfl

/-! The row. -/
set_option maxRecDepth 100000 in
theorem lifted (os : Os) (started : os.Started) (H : Type) (enc : TypeId × Value → H) :
    ReturnsInHanded {} Try.checked os 4 .any (Rows.specWakesSpec.pre6 enc Try.prog Try.f4 Rows.specWakesRow.domain false) (Rows.specWakesSpec.post enc Try.prog Try.f4 false true false false) := by
  refine returnsInHanded_of_change (C := Try.checked) own started (by kernel_rfl) Try.func4
    (ChangeSpec.witness6 (enc := enc) (C := Try.checked) false ⟨#[], #[.agg #[.int .u8 0, .int .u8 0, .int .u8 0, .int .u8 0, .int .u8 0, .int .u8 0], .agg #[.int .u8 0, .int .u8 0, .int .u8 0, .int .u8 0, .int .u8 0, .int .u8 0]], []⟩ 8 (by kernel_rfl) (by kernel_rfl) (by kernel_rfl) (by kernel_rfl)) ?_
  intro W base args ds gs before hval0 hW hcnd _
  have hval : ∀ (j : Nat) t v, Try.f4.params[j]? = some t → args[j]? = some v → Value.okWide Try.prog W .any base t v := hval0
  have hW' := hW
  obtain ⟨p, q, hA0, hV, hb, hfz, hnd⟩ := hW
  have hA : DataW.TrodAll enc Try.prog W 0 (fun _ => true) true Try.f4.params.toList args.toList ds p := hA0
  obtain ⟨hg, hq⟩ := trodVars_none hV
  rw [Try.params4] at hval
  have hA1 := hA
  rw [Try.params4] at hA1
  obtain ⟨v0, v1, d0, d1, p0, p1, ha, hd, -, h0, h1⟩ := trodAll_two hA1
  subst ha
  obtain ⟨cs0, rfl⟩ := okWide_aggS Try.underlying43 rfl (hval 0 43 v0 rfl rfl)
  obtain ⟨fuel0, hf0⟩ := h0
  obtain ⟨zs0, hl0, hcs0, wf0⟩ := arr_open_ints Try.underlying43 Try.underlying5 (by kernel_rfl) (by kernel_rfl) hf0
  have hcs0 : cs0 = zs0.map (.int .u8) := hcs0
  obtain ⟨cs1, rfl⟩ := okWide_aggS Try.underlying43 rfl (hval 1 43 v1 rfl rfl)
  obtain ⟨fuel1, hf1⟩ := h1
  obtain ⟨zs1, hl1, hcs1, wf1⟩ := arr_open_ints Try.underlying43 Try.underlying5 (by kernel_rfl) (by kernel_rfl) hf1
  have hcs1 : cs1 = zs1.map (.int .u8) := hcs1
  refine (PFn.rowN W (wakes_row hl0 hcs0 wf0 hl1 hcs1 wf1)).mono fun e W' ⟨he, hle⟩ => ?_
  subst he
  exact ⟨_, rfl, law_end hW' hA (by rw [hb, hq, List.append_nil]) hg rfl (by subst hd; rfl) (by kernel_rfl) (by kernel_rfl) Try.underlying4 hle⟩

theorem over : Rows.specWakesRow.holds Try.pinned (OpenSpec.ofChange Rows.specWakesSpec) :=
  OpenClaim.holds_of_wide 4 Try.f4 rfl rfl rfl rfl rfl rfl rfl ⟨rfl, rfl, rfl, rfl, rfl⟩ rfl rfl rfl rfl rfl (by kernel_rfl) Try.func4 (by kernel_rfl)
    (of_decide_eq_true (by kernel_rfl)) (by unfold Func.isWrapper; first | (rw [if_pos (by decide +kernel)]; kernel_rfl) | (rw [if_neg (by decide +kernel)]; exact ⟨rfl, rfl⟩))
    (fun os started H enc _ => lifted os started H enc)

/-- The statement. -/
theorem proved : Rows.SpecWakesSaid :=
  over
#print axioms proved
end Go.Proofs.Ytimmclibnfdjhaa.specWakes
