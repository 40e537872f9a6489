/- The statement WordTells holds: for all headers and words its function hands back true, and its arguments read as before. -/
import Derived.Test.YtblobkigbdcjeaaSlU
import Derived.Test.YtblobkigbdcjeaaWW9
import Derived.Test.YtblobkigbdcjeaaRows
namespace Go.Proofs.Ytblobkigbdcjeaa.wordTells
open Go.ChangeShapes Go.WideShapes Go.ChangeAt Go.RowKit Go.SL
set_option linter.unusedVariables false

theorem own : ownKnob Try.prog.godebug = none := by kernel_rfl

/-! The row. -/
set_option maxRecDepth 100000 in
theorem lifted (os : Os) (started : os.Started) (H : Type) (enc : TypeId × Value → H) :
    ReturnsInHanded {} Try.checked os 5 .any (Rows.wordTellsSpec.pre6 enc Try.prog Try.f5 Rows.wordTellsRow.domain false) (Rows.wordTellsSpec.post enc Try.prog Try.f5 false true false false) := by
  refine returnsInHanded_of_change (C := Try.checked) own started (by kernel_rfl) Try.func5
    (ChangeSpec.witness6 (enc := enc) (C := Try.checked) false ⟨#[], #[.agg #[.int .i64 0, .int .i64 0, .int .i64 0, .int .i64 0, .int .i64 0, .int .i64 0], .int .u64 0, .int .u64 0], []⟩ 8 (by kernel_rfl) (by kernel_rfl) (by kernel_rfl) (by kernel_rfl)) ?_
  intro W base args ds gs before hval0 hW hcnd _
  have hval : ∀ (j : Nat) t v, Try.f5.params[j]? = some t → args[j]? = some v → Value.okWide Try.prog W .any base t v := hval0
  have hW' := hW
  obtain ⟨p, q, hA0, hV, hb, hfz, hnd⟩ := hW
  have hA : DataW.TrodAll enc Try.prog W 0 (fun _ => true) true Try.f5.params.toList args.toList ds p := hA0
  obtain ⟨hg, hq⟩ := trodVars_none hV
  rw [Try.params5] at hval
  have hA1 := hA
  rw [Try.params5] at hA1
  obtain ⟨v0, v1, v2, d0, d1, d2, p0, p1, p2, ha, hd, -, h0, h1, h2⟩ := trodAll_three hA1
  subst ha
  obtain ⟨cs0, rfl⟩ := okWide_aggS Try.underlying23 rfl (hval 0 23 v0 rfl rfl)
  obtain ⟨fuel0, hf0⟩ := h0
  obtain ⟨zs0, hl0, hcs0, wf0⟩ := struct_open_ints (k := .i64) (m := 6) Try.underlying23 (by kernel_rfl) (by kernel_rfl) hf0
  obtain ⟨a0, b0, c0, d0, e0, f0, rfl⟩ := list_six hl0
  have hcs0 : cs0 = [.int .i64 a0, .int .i64 b0, .int .i64 c0, .int .i64 d0, .int .i64 e0, .int .i64 f0] := hcs0
  subst hcs0
  obtain ⟨x1, rfl, -, -, wx1⟩ := open_int Try.underlying24 (hval 1 24 v1 rfl rfl) h1
  obtain ⟨n1, rfl, g1⟩ := wf_u64 wx1
  obtain ⟨x2, rfl, -, -, wx2⟩ := open_int Try.underlying24 (hval 2 24 v2 rfl rfl) h2
  obtain ⟨n2, rfl, g2⟩ := wf_u64 wx2
  refine (PFn.rowN W (WordTells_calls a0 b0 c0 d0 e0 f0 n1 n2 g1)).mono fun e W' ⟨he, hle⟩ => ?_
  subst he
  exact ⟨_, rfl, law_end hW' hA (by rw [hb, hq, List.append_nil]) hg rfl (by subst hd; rfl) (by kernel_rfl) (by kernel_rfl) Try.underlying4 hle⟩

theorem over : Rows.wordTellsRow.holds Try.pinned (OpenSpec.ofChange Rows.wordTellsSpec) :=
  OpenClaim.holds_of_wide 5 Try.f5 rfl rfl rfl rfl rfl rfl rfl ⟨rfl, rfl, rfl, rfl, rfl⟩ rfl rfl rfl rfl rfl (by kernel_rfl) Try.func5 (by kernel_rfl)
    (of_decide_eq_true (by kernel_rfl)) (by unfold Func.isWrapper; first | (rw [if_pos (by decide +kernel)]; kernel_rfl) | (rw [if_neg (by decide +kernel)]; exact ⟨rfl, rfl⟩))
    (fun os started H enc _ => lifted os started H enc)

/-- The statement. -/
theorem proved : Rows.WordTellsSaid :=
  over
#print axioms proved
end Go.Proofs.Ytblobkigbdcjeaa.wordTells
