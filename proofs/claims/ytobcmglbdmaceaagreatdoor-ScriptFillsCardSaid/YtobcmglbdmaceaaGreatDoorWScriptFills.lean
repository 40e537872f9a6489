/- The statement ScriptFills holds: for all bytes and numbers its function hands back true, and its arguments read as before. -/
import Derived.Test.YtobcmglbdmaceaaGreatDoorWR0
import Derived.Test.YtobcmglbdmaceaaGreatDoorWC11
import Derived.ChangeMaps5
import Derived.SevenTiedAt
import Derived.Test.YtobcmglbdmaceaaGreatDoorCards
import Derived.Test.YtobcmglbdmaceaaGreatDoorTie
set_option linter.unusedVariables false
set_option linter.unusedSimpArgs false
set_option linter.unusedSectionVars false
namespace Go.Proofs.YtobcmglbdmaceaaGreatDoor.scriptFills
open Go.ChangeShapes Go.WideShapes Go.ChangeAt Go.RowKit Go.SL
set_option linter.unusedVariables false

theorem own : ownKnob Tryz.prog.godebug = none := by kernel_rfl

/-! The row. -/
set_option maxRecDepth 1000000 in
theorem lifted (os : Os) (started : os.Started) (H : Type) (enc : TypeId × Value → H) :
    ReturnsInHanded {} Tryz.checked os 4 .any (fun w args => (Rows.scriptFillsSpec.pre enc Tryz.prog Tryz.f4 [] false w args ∧ laidMetH Tryz.prog laidL w) ∧ sizedMet enc Tryz.prog Tryz.f4 (OpenSpec.ofChange Rows.scriptFillsSpec) false w args)
      (Rows.scriptFillsSpec.post enc Tryz.prog Tryz.f4 false true false false) := by
  refine returnsInHanded_of_change_and (C := Tryz.checked) (X := fun w _ => laidMetH Tryz.prog laidL w) (fun _ _ _ hh h => h.of_heap hh) own started (by kernel_rfl) Tryz.func4
    (ChangeSpec.witness_shaped (enc := enc) (C := Tryz.checked) (os := os) (X := fun w _ => laidMetH Tryz.prog laidL w) false (laidWorld os) #[.string ⟨#[]⟩, .int .u8 0, .int .u8 0] 8 (laidWorld_os os) (World.shaped_of_ZipB (by kernel_rfl) (by kernel_rfl)) (by kernel_rfl) (by kernel_rfl) (by kernel_rfl) (laidWorld_met os _)) ?_
  intro W base args ds gs before hval0 hW hcnd _ hL _
  have hval : ∀ (j : Nat) t v, Tryz.f4.params[j]? = some t → args[j]? = some v → Value.okWide Tryz.prog W .any base t v := hval0
  have hW' := hW
  obtain ⟨p, q, hA0, hV, hb, hfz, hnd⟩ := hW
  have hA : DataW.TrodAll enc Tryz.prog W 0 (fun _ => true) true Tryz.f4.params.toList args.toList ds p := hA0
  obtain ⟨hg, hq⟩ := trodVars_none hV
  rw [Tryz.params4] at hval
  have hA1 := hA
  rw [Tryz.params4] at hA1
  obtain ⟨v0, v1, v2, d0, d1, d2, p0, p1, p2, ha, hd, -, h0, h1, h2⟩ := trodAll_three hA1
  subst ha
  obtain ⟨b0, rfl, -, -, hs0⟩ := Go.ChangeMaps.open_string Tryz.underlying9 (hval 0 9 v0 rfl rfl) h0
  obtain ⟨⟨s0⟩⟩ := b0
  have hs0 : s0.length ≤ 9223372036854775807 := by unfold maxLen at hs0; exact hs0
  obtain ⟨k1, rfl, -, -, wk1⟩ := open_int Tryz.underlying5 (hval 1 5 v1 rfl rfl) h1
  obtain ⟨k2, rfl, -, -, wk2⟩ := open_int Tryz.underlying5 (hval 2 5 v2 rfl rfl) h2
  haveI := ges_of hL
  haveI := pow_of hL
  refine (PFn.rowS W (ScriptFills_calls (wh W) s0 k1 k2 (u8_range wk1) (u8_range wk2) hs0)).mono fun e W' ⟨he, hle⟩ => ?_
  subst he
  exact ⟨_, rfl, law_end hW' hA (by rw [hb, hq, List.append_nil]) hg rfl (by subst hd; rfl) (by kernel_rfl) (by kernel_rfl) Tryz.underlying4 hle⟩

theorem over : Rows.scriptFillsRow.holds Tryz.pinned (OpenSpec.ofChange Rows.scriptFillsSpec) :=
  OpenClaim.holds_of_wide 4 Tryz.f4 rfl rfl rfl rfl rfl rfl rfl ⟨rfl, rfl, rfl, rfl, rfl⟩ rfl rfl rfl rfl rfl (by kernel_rfl) Tryz.func4 (by kernel_rfl)
    (of_decide_eq_true (by kernel_rfl)) (by unfold Func.isWrapper; first | (rw [if_pos (by decide +kernel)]; kernel_rfl) | (rw [if_neg (by decide +kernel)]; exact ⟨rfl, rfl⟩))
    (fun os started H enc _ => lifted os started H enc)

set_option maxRecDepth 1000000 in
/-- The statement: the row's, tied to the program's text. -/
theorem proved : Rows.ScriptFillsCardSaid :=
  Claim7.holds_tied_plain_at .later [] [.data, .data, .data, .data, .handle, .sentinel, .sentinel, .pinned] true (true, "c5dd30db647d2ffc34443284f3675dfb995e97430cdbd219906554ea6bb54bfc") true
    over (fun _ h => by cases h) (by kernel_rfl) (fun _ h => by cases h) scriptFills_row_tie rfl ⟨rfl, rfl⟩ (by kernel_rfl) rfl
    (fun f fn hf hfn => by
      obtain rfl : f = 4 := Option.some.inj ((show Tryz.prog.funcNamed "doorkeeper/doorkeeperlaw07.ScriptFills" = some 4 by kernel_rfl).symm.trans hf) |>.symm
      obtain rfl : fn = Tryz.f4 := (Option.some.inj (Tryz.func4.symm.trans hfn)).symm
      exact ⟨by kernel_rfl, fun j t ht => by
        rw [Tryz.params4] at ht
        have h3 : t = 9 ∨ t = 5 ∨ t = 5 := by
          rcases j with _ | _ | _ | j <;> simp at ht
          all_goals simp [ht]
        rcases h3 with rfl | rfl | rfl
        · exact (show Tryz.prog.wantsStandIn 9 = false by kernel_rfl)
        · exact (show Tryz.prog.wantsStandIn 5 = false by kernel_rfl)
        · exact (show Tryz.prog.wantsStandIn 5 = false by kernel_rfl)⟩)
    (by kernel_rfl)
#print axioms proved
end Go.Proofs.YtobcmglbdmaceaaGreatDoor.scriptFills
