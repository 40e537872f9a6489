/-
  No cell of these rows narrows 'for every input' (looked for: loops, veiled, ifaces, maps, wideKeys, modest, calm, conditions, laid).
  DERIVED. THE GIVEN ROWS OF THIS SEAT. 5 by the template 'for every input the law returns true; each argument reads behind the call as it read before'; 0 by the template 'total and deterministic' (their statements: YthhlgaaamfeohaaTotals.lean).
  GIVEN WITH THE SEED: the statements are not yours to turn. If you find one false, say at which input.
  Laid BY PROGRAM, IN A SANDBOX (cutbox-rows.mjs): the forced cells as the released guide's own fill.sh prints them over the translation b0c5b213c2f14e16… (all of the seat's roots in one cut). By AI agents, Wed Nov 11 2026. No macro, syntax, notation, axiom, sorry.
-/
import Derived.Test.YthhlgaaamfeohaaChecked
import GoSem.Claim
import GoSem.ClaimJoined
import GoSem.ClaimMapViews
import Derived.JoinedTies
import Derived.KernelRfl
namespace Go.Proofs.Ythhlgaaamfeohaa
/- THE CELL 'sum', in the pinned program and in every row, IS THE sha256 OF THE DUMP (.gsa) THAT YthhlgaaamfeohaaProg.lean LOADS. Nothing in Lean hashes anything: it is a label: what it is worth is what the hold of that sum in a sandbox is worth. -/
noncomputable def Try.pinned : Pinned := { name := "ythhlgaaamfeohaa", sum := "b0c5b213c2f14e16d60b0bb67dddbd3cdab4c3d593bf45967c1967a09e66bb85", checked := Try.checked }
namespace Rows
def none {H : Type} : Left H := { results := [], args := [] }

/-- 'doorkeeperlaw01.FieldKeeps': WHATEVER THE INPUT: true; the input reads as it did. -/
def fieldKeepsSpec : ChangeSpec := { name := "fieldKeeps", fn := fun _ => fun
  | [d1, d2, d3] => { results := [.lit (.bool true)], args := [d1, d2, d3] }
  | _ => none }
def fieldKeepsRow : OpenClaim := { program := "ythhlgaaamfeohaa", sum := "b0c5b213c2f14e16d60b0bb67dddbd3cdab4c3d593bf45967c1967a09e66bb85", func := "doorkeeper/doorkeeperlaw01.FieldKeeps", spec := "fieldKeeps", unfollowed := true, recurses := true, apart := false }
def FieldKeepsSaid : Prop := fieldKeepsRow.holds Try.pinned (OpenSpec.ofChange fieldKeepsSpec)

/-- ITS FALSE NEIGHBOUR: 'it returns false'. Refute it at one input. -/
def fieldKeepsWrong : ChangeSpec := { name := "fieldKeeps", fn := fun _ => fun
  | [d1, d2, d3] => { results := [.lit (.bool false)], args := [d1, d2, d3] }
  | _ => none }
def FieldKeepsWrongFalsely : Prop := fieldKeepsRow.holds Try.pinned (OpenSpec.ofChange fieldKeepsWrong)

/-- 'doorkeeperlaw01.FieldWhole': WHATEVER THE INPUT: true; the input reads as it did. -/
def fieldWholeSpec : ChangeSpec := { name := "fieldWhole", fn := fun _ => fun
  | [d1, d2, d3] => { results := [.lit (.bool true)], args := [d1, d2, d3] }
  | _ => none }
def fieldWholeRow : OpenClaim := { program := "ythhlgaaamfeohaa", sum := "b0c5b213c2f14e16d60b0bb67dddbd3cdab4c3d593bf45967c1967a09e66bb85", func := "doorkeeper/doorkeeperlaw01.FieldWhole", spec := "fieldWhole", unfollowed := true, recurses := true, apart := false }
def FieldWholeSaid : Prop := fieldWholeRow.holds Try.pinned (OpenSpec.ofChange fieldWholeSpec)

/-- ITS FALSE NEIGHBOUR: 'it returns false'. Refute it at one input. -/
def fieldWholeWrong : ChangeSpec := { name := "fieldWhole", fn := fun _ => fun
  | [d1, d2, d3] => { results := [.lit (.bool false)], args := [d1, d2, d3] }
  | _ => none }
def FieldWholeWrongFalsely : Prop := fieldWholeRow.holds Try.pinned (OpenSpec.ofChange fieldWholeWrong)

/-- 'doorkeeperlaw01.FieldTells': WHATEVER THE INPUT: true; the input reads as it did. -/
def fieldTellsSpec : ChangeSpec := { name := "fieldTells", fn := fun _ => fun
  | [d1, d2, d3] => { results := [.lit (.bool true)], args := [d1, d2, d3] }
  | _ => none }
def fieldTellsRow : OpenClaim := { program := "ythhlgaaamfeohaa", sum := "b0c5b213c2f14e16d60b0bb67dddbd3cdab4c3d593bf45967c1967a09e66bb85", func := "doorkeeper/doorkeeperlaw01.FieldTells", spec := "fieldTells", unfollowed := true, recurses := true, apart := false }
def FieldTellsSaid : Prop := fieldTellsRow.holds Try.pinned (OpenSpec.ofChange fieldTellsSpec)

/-- ITS FALSE NEIGHBOUR: 'it returns false'. Refute it at one input. -/
def fieldTellsWrong : ChangeSpec := { name := "fieldTells", fn := fun _ => fun
  | [d1, d2, d3] => { results := [.lit (.bool false)], args := [d1, d2, d3] }
  | _ => none }
def FieldTellsWrongFalsely : Prop := fieldTellsRow.holds Try.pinned (OpenSpec.ofChange fieldTellsWrong)

/-- 'doorkeeperlaw01.FieldLays': WHATEVER THE INPUT: true; the input reads as it did. -/
def fieldLaysSpec : ChangeSpec := { name := "fieldLays", fn := fun _ => fun
  | [d] => { results := [.lit (.bool true)], args := [d] }
  | _ => none }
def fieldLaysRow : OpenClaim := { program := "ythhlgaaamfeohaa", sum := "b0c5b213c2f14e16d60b0bb67dddbd3cdab4c3d593bf45967c1967a09e66bb85", func := "doorkeeper/doorkeeperlaw01.FieldLays", spec := "fieldLays", unfollowed := true, recurses := true, apart := false }
def FieldLaysSaid : Prop := fieldLaysRow.holds Try.pinned (OpenSpec.ofChange fieldLaysSpec)

/-- ITS FALSE NEIGHBOUR: 'it returns false'. Refute it at one input. -/
def fieldLaysWrong : ChangeSpec := { name := "fieldLays", fn := fun _ => fun
  | [d] => { results := [.lit (.bool false)], args := [d] }
  | _ => none }
def FieldLaysWrongFalsely : Prop := fieldLaysRow.holds Try.pinned (OpenSpec.ofChange fieldLaysWrong)

/-- 'doorkeeperlaw01.FieldKnown': WHATEVER THE INPUT: true; the input reads as it did. -/
def fieldKnownSpec : ChangeSpec := { name := "fieldKnown", fn := fun _ => fun
  | [] => { results := [.lit (.bool true)], args := [] }
  | _ => none }
def fieldKnownRow : OpenClaim := { program := "ythhlgaaamfeohaa", sum := "b0c5b213c2f14e16d60b0bb67dddbd3cdab4c3d593bf45967c1967a09e66bb85", func := "doorkeeper/doorkeeperlaw01.FieldKnown", spec := "fieldKnown", unfollowed := true, recurses := true, apart := false }
def FieldKnownSaid : Prop := fieldKnownRow.holds Try.pinned (OpenSpec.ofChange fieldKnownSpec)

/-- ITS FALSE NEIGHBOUR: 'it returns false'. Refute it at one input. -/
def fieldKnownWrong : ChangeSpec := { name := "fieldKnown", fn := fun _ => fun
  | [] => { results := [.lit (.bool false)], args := [] }
  | _ => none }
def FieldKnownWrongFalsely : Prop := fieldKnownRow.holds Try.pinned (OpenSpec.ofChange fieldKnownWrong)

/- THE SECOND FORM. 'bulk': how many values and letters a reading holds, each counted each time it is reached (what is shared counts as often as it is met; a slice's spare places count too). A statement '..UptoSaid' is the law's where the arguments, and the package variables that the reading takes, are together of bulk at most 1048576: NARROWER than '..Said'. Prove '..Said' where nothing that the law and all that it calls make is longer than what came in: it says more and counts as full. Else prove '..UptoSaid'. A law counts once. -/
mutual
def uptoBulk {H : Type} : DataW H → Nat
  | .lit (.string bytes) => bytes.length + 1
  | .lit _ => 1
  | .nil => 1
  | .ptr d => uptoBulk d + 1
  | .slice elems spare => uptoBulkAll elems + uptoBulkAll spare + 1
  | .agg parts => uptoBulkAll parts + 1
  | .iface _ d => uptoBulk d + 1
  | .map entries => uptoBulkEntries entries + 1
  | .held _ => 1
def uptoBulkAll {H : Type} : List (DataW H) → Nat
  | [] => 0
  | d :: r => uptoBulk d + uptoBulkAll r
def uptoBulkEntries {H : Type} : List (Lit × DataW H) → Nat
  | [] => 0
  | x :: r => uptoBulkEntry x + uptoBulkEntries r
def uptoBulkEntry {H : Type} : Lit × DataW H → Nat
  | (.string bytes, d) => bytes.length + uptoBulk d + 1
  | (_, d) => uptoBulk d + 1
 end
def uptoSmall : (H : Type) → List (DataW H) → Bool := fun _ ds => decide (uptoBulkAll ds ≤ 1048576)
def OpenSpec.upto (s : _root_.Go.ChangeSpec) : _root_.Go.OpenSpec := { _root_.Go.OpenSpec.ofChange s with cond := some uptoSmall }

/-- 'doorkeeperlaw01.FieldKeeps', WHERE WHAT IT READS IS OF BULK AT MOST 1048576: true; the input reads as it did. -/
def fieldKeepsUptoRow : OpenClaim := { program := "ythhlgaaamfeohaa", sum := "b0c5b213c2f14e16d60b0bb67dddbd3cdab4c3d593bf45967c1967a09e66bb85", func := "doorkeeper/doorkeeperlaw01.FieldKeeps", spec := "fieldKeeps", unfollowed := true, recurses := true, apart := false, narrowed := true }
def FieldKeepsUptoSaid : Prop := fieldKeepsUptoRow.holds Try.pinned (OpenSpec.upto fieldKeepsSpec)

/-- 'doorkeeperlaw01.FieldWhole', WHERE WHAT IT READS IS OF BULK AT MOST 1048576: true; the input reads as it did. -/
def fieldWholeUptoRow : OpenClaim := { program := "ythhlgaaamfeohaa", sum := "b0c5b213c2f14e16d60b0bb67dddbd3cdab4c3d593bf45967c1967a09e66bb85", func := "doorkeeper/doorkeeperlaw01.FieldWhole", spec := "fieldWhole", unfollowed := true, recurses := true, apart := false, narrowed := true }
def FieldWholeUptoSaid : Prop := fieldWholeUptoRow.holds Try.pinned (OpenSpec.upto fieldWholeSpec)

/-- 'doorkeeperlaw01.FieldTells', WHERE WHAT IT READS IS OF BULK AT MOST 1048576: true; the input reads as it did. -/
def fieldTellsUptoRow : OpenClaim := { program := "ythhlgaaamfeohaa", sum := "b0c5b213c2f14e16d60b0bb67dddbd3cdab4c3d593bf45967c1967a09e66bb85", func := "doorkeeper/doorkeeperlaw01.FieldTells", spec := "fieldTells", unfollowed := true, recurses := true, apart := false, narrowed := true }
def FieldTellsUptoSaid : Prop := fieldTellsUptoRow.holds Try.pinned (OpenSpec.upto fieldTellsSpec)

/-- 'doorkeeperlaw01.FieldLays', WHERE WHAT IT READS IS OF BULK AT MOST 1048576: true; the input reads as it did. -/
def fieldLaysUptoRow : OpenClaim := { program := "ythhlgaaamfeohaa", sum := "b0c5b213c2f14e16d60b0bb67dddbd3cdab4c3d593bf45967c1967a09e66bb85", func := "doorkeeper/doorkeeperlaw01.FieldLays", spec := "fieldLays", unfollowed := true, recurses := true, apart := false, narrowed := true }
def FieldLaysUptoSaid : Prop := fieldLaysUptoRow.holds Try.pinned (OpenSpec.upto fieldLaysSpec)

/-- 'doorkeeperlaw01.FieldKnown', WHERE WHAT IT READS IS OF BULK AT MOST 1048576: true; the input reads as it did. -/
def fieldKnownUptoRow : OpenClaim := { program := "ythhlgaaamfeohaa", sum := "b0c5b213c2f14e16d60b0bb67dddbd3cdab4c3d593bf45967c1967a09e66bb85", func := "doorkeeper/doorkeeperlaw01.FieldKnown", spec := "fieldKnown", unfollowed := true, recurses := true, apart := false, narrowed := true }
def FieldKnownUptoSaid : Prop := fieldKnownUptoRow.holds Try.pinned (OpenSpec.upto fieldKnownSpec)

end Rows
end Go.Proofs.Ythhlgaaamfeohaa
