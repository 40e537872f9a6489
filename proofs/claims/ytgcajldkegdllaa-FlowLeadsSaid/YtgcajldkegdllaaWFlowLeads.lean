/- The statement FlowLeads holds: its function hands back true, whatever it is handed. -/
import Derived.Test.YtgcajldkegdllaaSlG3
import Derived.Test.YtgcajldkegdllaaWL5r
import Derived.Test.YtgcajldkegdllaaRows
namespace Go.Proofs.Ytgcajldkegdllaa.flowLeads
open Go.ChangeShapes Go.WideShapes Go.ChangeAt Go.RowKit Go.SL
set_option linter.unusedVariables false

theorem own : ownKnob Try.prog.godebug = none := by kernel_rfl

/-! The row. -/
set_option maxRecDepth 100000 in
theorem lifted (os : Os) (started : os.Started) (H : Type) (enc : TypeId × Value → H) :
    ReturnsInHanded {} Try.checked os 5 .any (Rows.flowLeadsSpec.pre6 enc Try.prog Try.f5 Rows.flowLeadsRow.domain false) (Rows.flowLeadsSpec.post enc Try.prog Try.f5 false true false false) := by
  refine returnsInHanded_of_change (C := Try.checked) own started (by kernel_rfl) Try.func5
    (ChangeSpec.witness6 (enc := enc) (C := Try.checked) false ⟨#[], #[.slice none 0 0], []⟩ 8 (by kernel_rfl) (by kernel_rfl) (by kernel_rfl) (by kernel_rfl)) ?_
  intro W base args ds gs before hval0 hW hcnd _
  have hval : ∀ (j : Nat) t v, Try.f5.params[j]? = some t → args[j]? = some v → Value.okWide Try.prog W .any base t v := hval0
  have hW' := hW
  obtain ⟨p, q, hA0, hV, hb, hfz, hnd⟩ := hW
  have hA : DataW.TrodAll enc Try.prog W 0 (fun _ => true) true Try.f5.params.toList args.toList ds p := hA0
  obtain ⟨hg, hq⟩ := trodVars_none hV
  rw [Try.params5] at hval
  have hA1 := hA
  rw [Try.params5] at hA1
  obtain ⟨v0, d0, ha, hd, h0⟩ := trodAll_one hA1
  subst ha
  obtain ⟨base0, len0, cap0, rfl⟩ := okWide_slice Try.underlying22 (hval 0 22 v0 rfl rfl)
  obtain ⟨fuel0, hf0⟩ := h0
  obtain ⟨zs0, ln0, sl0, mx0, lc0, wf0⟩ := sl_open_structs (k := .i64) (m := 3) Try.underlying22 Try.underlying40 (by kernel_rfl) (by kernel_rfl) (by decide) hf0
  refine (PFn.rowS W (haveI : Sl (wh W) base0 (zs0.map i64) := sl0; FlowLeads_flat (wh W) base0 len0 cap0 zs0 ln0 (by unfold maxLen at mx0; omega) lc0)).mono fun e W' ⟨he, hle⟩ => ?_
  subst he
  exact ⟨_, rfl, law_end hW' hA (by rw [hb, hq, List.append_nil]) hg rfl (by subst hd; rfl) (by kernel_rfl) (by kernel_rfl) Try.underlying4 hle⟩

theorem over : Rows.flowLeadsRow.holds Try.pinned (OpenSpec.ofChange Rows.flowLeadsSpec) :=
  OpenClaim.holds_of_wide 5 Try.f5 rfl rfl rfl rfl rfl rfl rfl ⟨rfl, rfl, rfl, rfl, rfl⟩ rfl rfl rfl rfl rfl (by kernel_rfl) Try.func5 (by kernel_rfl)
    (of_decide_eq_true (by kernel_rfl)) (by unfold Func.isWrapper; first | (rw [if_pos (by decide +kernel)]; kernel_rfl) | (rw [if_neg (by decide +kernel)]; exact ⟨rfl, rfl⟩))
    (fun os started H enc _ => lifted os started H enc)

/-- The statement. -/
theorem proved : Rows.FlowLeadsSaid :=
  over
#print axioms proved
end Go.Proofs.Ytgcajldkegdllaa.flowLeads
