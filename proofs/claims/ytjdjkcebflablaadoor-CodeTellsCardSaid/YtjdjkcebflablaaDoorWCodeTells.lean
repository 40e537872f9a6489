/- The statement CodeTells holds: for all images, changes and bytes its function hands back true, and its arguments read as before. -/
import Derived.Test.YtjdjkcebflablaaDoorWR0
import Derived.Test.YtjdjkcebflablaaDoorWT2
import Derived.ChangeMaps5
import Derived.SevenTiedAt
import Derived.Test.YtjdjkcebflablaaDoorCards
import Derived.Test.YtjdjkcebflablaaDoorTie
set_option linter.unusedVariables false
set_option linter.unusedSimpArgs false
set_option linter.unusedSectionVars false
namespace Go.Proofs.YtjdjkcebflablaaDoor.codeTells
open Go.ChangeShapes Go.WideShapes Go.ChangeAt Go.RowKit Go.SL
set_option linter.unusedVariables false

theorem own : ownKnob Tryd.prog.godebug = none := by kernel_rfl

/-! The row. -/
set_option maxRecDepth 1000000 in
theorem lifted (os : Os) (started : os.Started) (H : Type) (enc : TypeId × Value → H) :
    ReturnsInHanded {} Tryd.checked os 3 .any (fun w args => (Rows.codeTellsSpec.pre enc Tryd.prog Tryd.f3 [] false w args ∧ laidMetH Tryd.prog laidL w) ∧ sizedMet enc Tryd.prog Tryd.f3 (OpenSpec.ofChange Rows.codeTellsSpec) false w args)
      (Rows.codeTellsSpec.post enc Tryd.prog Tryd.f3 false true false false) := by
  refine returnsInHanded_of_change_and (C := Tryd.checked) (X := fun w _ => laidMetH Tryd.prog laidL w) (fun _ _ _ hh h => h.of_heap hh) own started (by kernel_rfl) Tryd.func3
    (ChangeSpec.witness_at (enc := enc) (C := Tryd.checked) (os := os) (X := fun w _ => laidMetH Tryd.prog laidL w) false (laidWorld os) #[.agg #[.slice Option.none 0 0, .slice Option.none 0 0], .agg #[.int .u16 0, .int .u16 0, .int .u16 0], .string ⟨#[]⟩] 8 rfl (by kernel_rfl) (by kernel_rfl) (by kernel_rfl) (by kernel_rfl) (by kernel_rfl) (laidWorld_met os _)) ?_
  intro W base args ds gs before hval0 hW hcnd _ hL _
  have hval : ∀ (j : Nat) t v, Tryd.f3.params[j]? = some t → args[j]? = some v → Value.okWide Tryd.prog W .any base t v := hval0
  have hW' := hW
  obtain ⟨p, q, hA0, hV, hb, hfz, hnd⟩ := hW
  have hA : DataW.TrodAll enc Tryd.prog W 0 (fun _ => true) true Tryd.f3.params.toList args.toList ds p := hA0
  obtain ⟨hg, hq⟩ := trodVars_none hV
  rw [Tryd.params3] at hval
  have hA1 := hA
  rw [Tryd.params3] at hA1
  obtain ⟨v0, v1, v2, d0, d1, d2, p0, p1, p2, ha, hd, -, h0, h1, h2⟩ := trodAll_three hA1
  subst ha
  obtain ⟨cs0, rfl⟩ := okWide_aggS Tryd.underlying25 rfl (hval 0 25 v0 rfl rfl)
  obtain ⟨fuel0, hf0⟩ := h0
  obtain ⟨x0, hx0, hI0⟩ := img_open hf0
  obtain ⟨cs1, rfl⟩ := okWide_aggS Tryd.underlying27 rfl (hval 1 27 v1 rfl rfl)
  obtain ⟨fuel1, hf1⟩ := h1
  obtain ⟨zs1, hl1, hcs1, wf1⟩ := arr_open_ints (k := .u16) (m := 3) Tryd.underlying27 Tryd.underlying26 (by kernel_rfl) (by kernel_rfl) hf1
  obtain ⟨c0, c1, c2, rfl⟩ := list_three hl1
  have hcs1 : cs1 = [.int .u16 c0, .int .u16 c1, .int .u16 c2] := hcs1
  subst hcs1
  obtain ⟨b2, rfl, -, -, hs2⟩ := Go.ChangeMaps.open_string Tryd.underlying9 (hval 2 9 v2 rfl rfl) h2
  obtain ⟨⟨s2⟩⟩ := b2
  have hs2 : s2.length ≤ 9223372036854775807 := by unfold maxLen at hs2; exact hs2
  haveI := ges_of hL
  refine (PFn.rowS W (CodeTells_calls (wh W) x0 _ s2 c0 c1 c2 hx0 hI0 (wf_u16 (wf1 c0 (by simp))) (wf_u16 (wf1 c1 (by simp))) (wf_u16 (wf1 c2 (by simp))) hs2)).mono fun e W' ⟨he, hle⟩ => ?_
  subst he
  exact ⟨_, rfl, law_end hW' hA (by rw [hb, hq, List.append_nil]) hg rfl (by subst hd; rfl) (by kernel_rfl) (by kernel_rfl) Tryd.underlying4 hle⟩

theorem over : Rows.codeTellsRow.holds Tryd.pinned (OpenSpec.ofChange Rows.codeTellsSpec) :=
  OpenClaim.holds_of_wide 3 Tryd.f3 rfl rfl rfl rfl rfl rfl rfl ⟨rfl, rfl, rfl, rfl, rfl⟩ rfl rfl rfl rfl rfl (by kernel_rfl) Tryd.func3 (by kernel_rfl)
    (of_decide_eq_true (by kernel_rfl)) (by unfold Func.isWrapper; first | (rw [if_pos (by decide +kernel)]; kernel_rfl) | (rw [if_neg (by decide +kernel)]; exact ⟨rfl, rfl⟩))
    (fun os started H enc _ => lifted os started H enc)

set_option maxRecDepth 1000000 in
/-- The statement: the row's, tied to the program's text. -/
theorem proved : Rows.CodeTellsCardSaid :=
  Claim7.holds_tied_plain_at .later [] [.handle] true (true, "1a2257f4bd77b972e5cf2f061eee4d245973cb8b59a54394f6808960cf8a8d62") true
    over (fun _ h => by cases h) (by kernel_rfl) (fun _ h => by cases h) codeTells_row_tie rfl ⟨rfl, rfl⟩ (by kernel_rfl) rfl
    (fun f fn hf hfn => by
      obtain rfl : f = 3 := Option.some.inj ((show Tryd.prog.funcNamed "doorkeeper/doorkeeperlaw26.CodeTells" = some 3 by kernel_rfl).symm.trans hf) |>.symm
      obtain rfl : fn = Tryd.f3 := (Option.some.inj (Tryd.func3.symm.trans hfn)).symm
      exact ⟨by kernel_rfl, fun j t ht => by
        rw [Tryd.params3] at ht
        have h3 : t = 25 ∨ t = 27 ∨ t = 9 := by
          rcases j with _ | _ | _ | j <;> simp at ht
          all_goals simp [ht]
        rcases h3 with rfl | rfl | rfl
        · exact (show Tryd.prog.wantsStandIn 25 = false by kernel_rfl)
        · exact (show Tryd.prog.wantsStandIn 27 = false by kernel_rfl)
        · exact (show Tryd.prog.wantsStandIn 9 = false by kernel_rfl)⟩)
    (by kernel_rfl)
#print axioms proved
end Go.Proofs.YtjdjkcebflablaaDoor.codeTells
