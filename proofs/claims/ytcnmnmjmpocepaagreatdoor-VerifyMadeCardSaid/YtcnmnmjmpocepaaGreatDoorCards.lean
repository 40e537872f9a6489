/-
  DERIVED. GIVEN WITH THE SEED: THE CARDS: each row of YtcnmnmjmpocepaaGreatDoorRows.lean that lists a variable, with what it lists TIED to the program's text (the seventh form; the later family's looks); each row that meets fmt, with fmt's text TOLD by the authors' own Lean function (tested against real Go, not proved from fmt's source: count such statements apart). THE CARD IS WHAT COUNTS. Prove the row's statement (the work); the ties are given (YtcnmnmjmpocepaaGreatDoorTie.lean); close each card by the builder's one call (the guide's Derived/Test/ToyasCard.lean, 'card_holds'). Laid BY PROGRAM, IN A SANDBOX (cutbox-door.mjs). By AI agents, Wed Nov 11 2026. No macro, syntax, notation, axiom, sorry.
-/
import Derived.Test.YtcnmnmjmpocepaaGreatDoorRows
import GoSem.ClaimSeven
namespace Go.Proofs.YtcnmnmjmpocepaaGreatDoor
namespace Rows

/-- THE TIED CARD OF 'doorkeeperlaw30.VerifyTells'. -/
def verifyTellsCard : Claim7 := { stood := { row := verifyTellsRow, standIns := [], harness := (true, "760102a18bca63e77c9bb6d6a15533d9c54960990c7a917ee437026724e7d99a"), looks := true }, kinds := [], alts := [], laidByText := true, laidKinds := [.handle], laidTests := true, laidLooks := .later }
def VerifyTellsCardSaid : Prop := Claim7.holds Tryz.pinned (.plain (OpenSpec.ofChange verifyTellsSpec)) verifyTellsCard

/-- THE TIED CARD OF 'doorkeeperlaw30.VerifyFrames'. -/
def verifyFramesCard : Claim7 := { stood := { row := verifyFramesRow, standIns := [], harness := (true, "760102a18bca63e77c9bb6d6a15533d9c54960990c7a917ee437026724e7d99a"), looks := true }, kinds := [], alts := [], laidByText := true, laidKinds := [.handle], laidTests := true, laidLooks := .later }
def VerifyFramesCardSaid : Prop := Claim7.holds Tryz.pinned (.plain (OpenSpec.ofChange verifyFramesSpec)) verifyFramesCard

/-- THE TIED CARD OF 'doorkeeperlaw30.VerifySound'. -/
def verifySoundCard : Claim7 := { stood := { row := verifySoundRow, standIns := [], harness := (true, "760102a18bca63e77c9bb6d6a15533d9c54960990c7a917ee437026724e7d99a"), looks := true }, kinds := [], alts := [], laidByText := true, laidKinds := [.handle], laidTests := true, laidLooks := .later }
def VerifySoundCardSaid : Prop := Claim7.holds Tryz.pinned (.plain (OpenSpec.ofChange verifySoundSpec)) verifySoundCard

/-- THE TIED CARD OF 'doorkeeperlaw30.VerifyMade'. -/
def verifyMadeCard : Claim7 := { stood := { row := verifyMadeRow, standIns := [], harness := (true, "760102a18bca63e77c9bb6d6a15533d9c54960990c7a917ee437026724e7d99a"), looks := true }, kinds := [], alts := [], laidByText := true, laidKinds := [.handle], laidTests := true, laidLooks := .later }
def VerifyMadeCardSaid : Prop := Claim7.holds Tryz.pinned (.plain (OpenSpec.ofChange verifyMadeSpec)) verifyMadeCard

/-- THE TIED CARD OF 'doorkeeperlaw30.VerifyKnown'. -/
def verifyKnownCard : Claim7 := { stood := { row := verifyKnownRow, standIns := [], harness := (true, "760102a18bca63e77c9bb6d6a15533d9c54960990c7a917ee437026724e7d99a"), looks := true }, kinds := [], alts := [], laidByText := true, laidKinds := [.handle], laidTests := true, laidLooks := .later }
def VerifyKnownCardSaid : Prop := Claim7.holds Tryz.pinned (.plain (OpenSpec.ofChange verifyKnownSpec)) verifyKnownCard

/-- THE SECOND FORM's CARD OF 'doorkeeperlaw30.VerifyTells'. -/
def verifyTellsUptoCard : Claim7 := { stood := { row := verifyTellsUptoRow, standIns := [], harness := (true, "760102a18bca63e77c9bb6d6a15533d9c54960990c7a917ee437026724e7d99a"), looks := true }, kinds := [], alts := [], laidByText := true, laidKinds := [.handle], laidTests := true, laidLooks := .later }
def VerifyTellsUptoCardSaid : Prop := Claim7.holds Tryz.pinned (.plain (OpenSpec.upto verifyTellsSpec)) verifyTellsUptoCard

/-- THE SECOND FORM's CARD OF 'doorkeeperlaw30.VerifyFrames'. -/
def verifyFramesUptoCard : Claim7 := { stood := { row := verifyFramesUptoRow, standIns := [], harness := (true, "760102a18bca63e77c9bb6d6a15533d9c54960990c7a917ee437026724e7d99a"), looks := true }, kinds := [], alts := [], laidByText := true, laidKinds := [.handle], laidTests := true, laidLooks := .later }
def VerifyFramesUptoCardSaid : Prop := Claim7.holds Tryz.pinned (.plain (OpenSpec.upto verifyFramesSpec)) verifyFramesUptoCard

/-- THE SECOND FORM's CARD OF 'doorkeeperlaw30.VerifySound'. -/
def verifySoundUptoCard : Claim7 := { stood := { row := verifySoundUptoRow, standIns := [], harness := (true, "760102a18bca63e77c9bb6d6a15533d9c54960990c7a917ee437026724e7d99a"), looks := true }, kinds := [], alts := [], laidByText := true, laidKinds := [.handle], laidTests := true, laidLooks := .later }
def VerifySoundUptoCardSaid : Prop := Claim7.holds Tryz.pinned (.plain (OpenSpec.upto verifySoundSpec)) verifySoundUptoCard

/-- THE SECOND FORM's CARD OF 'doorkeeperlaw30.VerifyMade'. -/
def verifyMadeUptoCard : Claim7 := { stood := { row := verifyMadeUptoRow, standIns := [], harness := (true, "760102a18bca63e77c9bb6d6a15533d9c54960990c7a917ee437026724e7d99a"), looks := true }, kinds := [], alts := [], laidByText := true, laidKinds := [.handle], laidTests := true, laidLooks := .later }
def VerifyMadeUptoCardSaid : Prop := Claim7.holds Tryz.pinned (.plain (OpenSpec.upto verifyMadeSpec)) verifyMadeUptoCard

/-- THE SECOND FORM's CARD OF 'doorkeeperlaw30.VerifyKnown'. -/
def verifyKnownUptoCard : Claim7 := { stood := { row := verifyKnownUptoRow, standIns := [], harness := (true, "760102a18bca63e77c9bb6d6a15533d9c54960990c7a917ee437026724e7d99a"), looks := true }, kinds := [], alts := [], laidByText := true, laidKinds := [.handle], laidTests := true, laidLooks := .later }
def VerifyKnownUptoCardSaid : Prop := Claim7.holds Tryz.pinned (.plain (OpenSpec.upto verifyKnownSpec)) verifyKnownUptoCard
end Rows
end Go.Proofs.YtcnmnmjmpocepaaGreatDoor
