/- The statement NestKnown holds: its function hands back true. -/
import Derived.Test.YtifhhfeibnpaoaaSlU
import Derived.Test.YtifhhfeibnpaoaaWRZ
import Derived.Test.YtifhhfeibnpaoaaRows
namespace Go.Proofs.Ytifhhfeibnpaoaa.nestKnown
open Go.ChangeShapes Go.WideShapes Go.ChangeAt Go.RowKit Go.SL
set_option linter.unusedVariables false

theorem own : ownKnob Try.prog.godebug = none := by kernel_rfl

/-! The row. -/
set_option maxRecDepth 100000 in
theorem lifted (os : Os) (started : os.Started) (H : Type) (enc : TypeId × Value → H) :
    ReturnsInHanded {} Try.checked os 6 .any (Rows.nestKnownSpec.pre6 enc Try.prog Try.f6 Rows.nestKnownRow.domain false) (Rows.nestKnownSpec.post enc Try.prog Try.f6 false true false false) := by
  refine returnsInHanded_of_change (C := Try.checked) own started (by kernel_rfl) Try.func6
    (ChangeSpec.witness6 (enc := enc) (C := Try.checked) false ⟨#[], #[], []⟩ 8 (by kernel_rfl) (by kernel_rfl) (by kernel_rfl) (by kernel_rfl)) ?_
  intro W base args ds gs before hval0 hW hcnd _
  have hval : ∀ (j : Nat) t v, Try.f6.params[j]? = some t → args[j]? = some v → Value.okWide Try.prog W .any base t v := hval0
  have hW' := hW
  obtain ⟨p, q, hA0, hV, hb, hfz, hnd⟩ := hW
  have hA : DataW.TrodAll enc Try.prog W 0 (fun _ => true) true Try.f6.params.toList args.toList ds p := hA0
  obtain ⟨hg, hq⟩ := trodVars_none hV
  rw [Try.params6] at hval
  have hA1 := hA
  rw [Try.params6] at hA1
  obtain ⟨ha, hd, -⟩ := trodAll_none hA1
  subst ha

  refine (PFn.rowN W (run6)).mono fun e W' ⟨he, hle⟩ => ?_
  subst he
  exact ⟨_, rfl, law_end hW' hA (by rw [hb, hq, List.append_nil]) hg rfl (by subst hd; rfl) (by kernel_rfl) (by kernel_rfl) Try.underlying4 hle⟩

theorem over : Rows.nestKnownRow.holds Try.pinned (OpenSpec.ofChange Rows.nestKnownSpec) :=
  OpenClaim.holds_of_wide 6 Try.f6 rfl rfl rfl rfl rfl rfl rfl ⟨rfl, rfl, rfl, rfl, rfl⟩ rfl rfl rfl rfl rfl (by kernel_rfl) Try.func6 (by kernel_rfl)
    (of_decide_eq_true (by kernel_rfl)) (by unfold Func.isWrapper; first | (rw [if_pos (by decide +kernel)]; kernel_rfl) | (rw [if_neg (by decide +kernel)]; exact ⟨rfl, rfl⟩))
    (fun os started H enc _ => lifted os started H enc)

/-- The statement. -/
theorem proved : Rows.NestKnownSaid :=
  over
#print axioms proved
end Go.Proofs.Ytifhhfeibnpaoaa.nestKnown
