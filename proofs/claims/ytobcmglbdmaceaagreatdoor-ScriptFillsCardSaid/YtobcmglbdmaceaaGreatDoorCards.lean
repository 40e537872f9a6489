/-
  DERIVED. GIVEN WITH THE SEED: THE CARDS: each row of YtobcmglbdmaceaaGreatDoorRows.lean that lists a variable, with what it lists TIED to the program's text (the seventh form; the later family's looks); each row that meets fmt, with fmt's text TOLD by the authors' own Lean function (tested against real Go, not proved from fmt's source: count such statements apart). THE CARD IS WHAT COUNTS. Prove the row's statement (the work); the ties are given (YtobcmglbdmaceaaGreatDoorTie.lean); close each card by the builder's one call (the guide's Derived/Test/ToyasCard.lean, 'card_holds'). Laid BY PROGRAM, IN A SANDBOX (cutbox-door.mjs). By AI agents, Wed Nov 11 2026. No macro, syntax, notation, axiom, sorry.
-/
import Derived.Test.YtobcmglbdmaceaaGreatDoorRows
import GoSem.ClaimSeven
namespace Go.Proofs.YtobcmglbdmaceaaGreatDoor
namespace Rows

/-- THE TIED CARD OF 'doorkeeperlaw07.ScriptWrites'. -/
def scriptWritesCard : Claim7 := { stood := { row := scriptWritesRow, standIns := [], harness := (true, "c5dd30db647d2ffc34443284f3675dfb995e97430cdbd219906554ea6bb54bfc"), looks := true }, kinds := [], alts := [], laidByText := true, laidKinds := [.data, .data, .data, .data, .handle, .sentinel, .sentinel, .pinned], laidTests := true, laidLooks := .later }
def ScriptWritesCardSaid : Prop := Claim7.holds Tryz.pinned (.plain (OpenSpec.ofChange scriptWritesSpec)) scriptWritesCard

/-- THE TIED CARD OF 'doorkeeperlaw07.ScriptFills'. -/
def scriptFillsCard : Claim7 := { stood := { row := scriptFillsRow, standIns := [], harness := (true, "c5dd30db647d2ffc34443284f3675dfb995e97430cdbd219906554ea6bb54bfc"), looks := true }, kinds := [], alts := [], laidByText := true, laidKinds := [.data, .data, .data, .data, .handle, .sentinel, .sentinel, .pinned], laidTests := true, laidLooks := .later }
def ScriptFillsCardSaid : Prop := Claim7.holds Tryz.pinned (.plain (OpenSpec.ofChange scriptFillsSpec)) scriptFillsCard

/-- THE TIED CARD OF 'doorkeeperlaw07.ScriptFair'. -/
def scriptFairCard : Claim7 := { stood := { row := scriptFairRow, standIns := [], harness := (true, "c5dd30db647d2ffc34443284f3675dfb995e97430cdbd219906554ea6bb54bfc"), looks := true }, kinds := [], alts := [], laidByText := true, laidKinds := [.data, .data, .data, .data, .handle, .sentinel, .sentinel, .pinned], laidTests := true, laidLooks := .later }
def ScriptFairCardSaid : Prop := Claim7.holds Tryz.pinned (.plain (OpenSpec.ofChange scriptFairSpec)) scriptFairCard

/-- THE TIED CARD OF 'doorkeeperlaw07.ScriptBack'. -/
def scriptBackCard : Claim7 := { stood := { row := scriptBackRow, standIns := [], harness := (true, "c5dd30db647d2ffc34443284f3675dfb995e97430cdbd219906554ea6bb54bfc"), looks := true }, kinds := [], alts := [], laidByText := true, laidKinds := [.data, .data, .data, .data, .handle, .sentinel, .sentinel, .pinned], laidTests := true, laidLooks := .later }
def ScriptBackCardSaid : Prop := Claim7.holds Tryz.pinned (.plain (OpenSpec.ofChange scriptBackSpec)) scriptBackCard

/-- THE TIED CARD OF 'doorkeeperlaw07.ScriptKnown'. -/
def scriptKnownCard : Claim7 := { stood := { row := scriptKnownRow, standIns := [], harness := (true, "c5dd30db647d2ffc34443284f3675dfb995e97430cdbd219906554ea6bb54bfc"), looks := true }, kinds := [], alts := [], laidByText := true, laidKinds := [.data, .data, .data, .data, .handle, .sentinel, .sentinel, .pinned], laidTests := true, laidLooks := .later }
def ScriptKnownCardSaid : Prop := Claim7.holds Tryz.pinned (.plain (OpenSpec.ofChange scriptKnownSpec)) scriptKnownCard

/-- THE SECOND FORM's CARD OF 'doorkeeperlaw07.ScriptWrites'. -/
def scriptWritesUptoCard : Claim7 := { stood := { row := scriptWritesUptoRow, standIns := [], harness := (true, "c5dd30db647d2ffc34443284f3675dfb995e97430cdbd219906554ea6bb54bfc"), looks := true }, kinds := [], alts := [], laidByText := true, laidKinds := [.data, .data, .data, .data, .handle, .sentinel, .sentinel, .pinned], laidTests := true, laidLooks := .later }
def ScriptWritesUptoCardSaid : Prop := Claim7.holds Tryz.pinned (.plain (OpenSpec.upto scriptWritesSpec)) scriptWritesUptoCard

/-- THE SECOND FORM's CARD OF 'doorkeeperlaw07.ScriptFills'. -/
def scriptFillsUptoCard : Claim7 := { stood := { row := scriptFillsUptoRow, standIns := [], harness := (true, "c5dd30db647d2ffc34443284f3675dfb995e97430cdbd219906554ea6bb54bfc"), looks := true }, kinds := [], alts := [], laidByText := true, laidKinds := [.data, .data, .data, .data, .handle, .sentinel, .sentinel, .pinned], laidTests := true, laidLooks := .later }
def ScriptFillsUptoCardSaid : Prop := Claim7.holds Tryz.pinned (.plain (OpenSpec.upto scriptFillsSpec)) scriptFillsUptoCard

/-- THE SECOND FORM's CARD OF 'doorkeeperlaw07.ScriptFair'. -/
def scriptFairUptoCard : Claim7 := { stood := { row := scriptFairUptoRow, standIns := [], harness := (true, "c5dd30db647d2ffc34443284f3675dfb995e97430cdbd219906554ea6bb54bfc"), looks := true }, kinds := [], alts := [], laidByText := true, laidKinds := [.data, .data, .data, .data, .handle, .sentinel, .sentinel, .pinned], laidTests := true, laidLooks := .later }
def ScriptFairUptoCardSaid : Prop := Claim7.holds Tryz.pinned (.plain (OpenSpec.upto scriptFairSpec)) scriptFairUptoCard

/-- THE SECOND FORM's CARD OF 'doorkeeperlaw07.ScriptBack'. -/
def scriptBackUptoCard : Claim7 := { stood := { row := scriptBackUptoRow, standIns := [], harness := (true, "c5dd30db647d2ffc34443284f3675dfb995e97430cdbd219906554ea6bb54bfc"), looks := true }, kinds := [], alts := [], laidByText := true, laidKinds := [.data, .data, .data, .data, .handle, .sentinel, .sentinel, .pinned], laidTests := true, laidLooks := .later }
def ScriptBackUptoCardSaid : Prop := Claim7.holds Tryz.pinned (.plain (OpenSpec.upto scriptBackSpec)) scriptBackUptoCard

/-- THE SECOND FORM's CARD OF 'doorkeeperlaw07.ScriptKnown'. -/
def scriptKnownUptoCard : Claim7 := { stood := { row := scriptKnownUptoRow, standIns := [], harness := (true, "c5dd30db647d2ffc34443284f3675dfb995e97430cdbd219906554ea6bb54bfc"), looks := true }, kinds := [], alts := [], laidByText := true, laidKinds := [.data, .data, .data, .data, .handle, .sentinel, .sentinel, .pinned], laidTests := true, laidLooks := .later }
def ScriptKnownUptoCardSaid : Prop := Claim7.holds Tryz.pinned (.plain (OpenSpec.upto scriptKnownSpec)) scriptKnownUptoCard
end Rows
end Go.Proofs.YtobcmglbdmaceaaGreatDoor
