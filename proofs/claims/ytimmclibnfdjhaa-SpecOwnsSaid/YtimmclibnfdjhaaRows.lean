/-
  No cell of these rows narrows 'for every input' (looked for: loops, veiled, ifaces, maps, wideKeys, modest, calm, conditions, laid).
  DERIVED. THE GIVEN ROWS OF THIS SEAT. 4 by the template 'for every input the law returns true; each argument reads behind the call as it read before'; 0 by the template 'total and deterministic' (their statements: YtimmclibnfdjhaaTotals.lean).
  GIVEN WITH THE SEED: the statements are not yours to turn. If you find one false, say at which input.
  Laid BY PROGRAM, IN A SANDBOX (cutbox-rows.mjs): the forced cells as the released guide's own fill.sh prints them over the translation a77ad7d120907299… (all of the seat's roots in one cut). By AI agents, Wed Nov 11 2026. No macro, syntax, notation, axiom, sorry.
-/
import Derived.Test.YtimmclibnfdjhaaChecked
import GoSem.Claim
import GoSem.ClaimJoined
import GoSem.ClaimMapViews
import Derived.JoinedTies
import Derived.KernelRfl
namespace Go.Proofs.Ytimmclibnfdjhaa
/- THE CELL 'sum', in the pinned program and in every row, IS THE sha256 OF THE DUMP (.gsa) THAT YtimmclibnfdjhaaProg.lean LOADS. Nothing in Lean hashes anything: it is a label: what it is worth is what the hold of that sum in a sandbox is worth. -/
noncomputable def Try.pinned : Pinned := { name := "ytimmclibnfdjhaa", sum := "a77ad7d120907299f634c70c190e8754e557ba62c559a0c98b523fddfed59824", checked := Try.checked }
namespace Rows
def none {H : Type} : Left H := { results := [], args := [] }

/-- 'doorkeeperlaw12.SpecOwns': WHATEVER THE INPUT: true; the input reads as it did. -/
def specOwnsSpec : ChangeSpec := { name := "specOwns", fn := fun _ => fun
  | [d] => { results := [.lit (.bool true)], args := [d] }
  | _ => none }
def specOwnsRow : OpenClaim := { program := "ytimmclibnfdjhaa", sum := "a77ad7d120907299f634c70c190e8754e557ba62c559a0c98b523fddfed59824", func := "doorkeeper/doorkeeperlaw12.SpecOwns", spec := "specOwns", unfollowed := true, recurses := true, apart := false }
def SpecOwnsSaid : Prop := specOwnsRow.holds Try.pinned (OpenSpec.ofChange specOwnsSpec)

/-- ITS FALSE NEIGHBOUR: 'it returns false'. Refute it at one input. -/
def specOwnsWrong : ChangeSpec := { name := "specOwns", fn := fun _ => fun
  | [d] => { results := [.lit (.bool false)], args := [d] }
  | _ => none }
def SpecOwnsWrongFalsely : Prop := specOwnsRow.holds Try.pinned (OpenSpec.ofChange specOwnsWrong)

/-- 'doorkeeperlaw12.SpecWakes': WHATEVER THE INPUT: true; the input reads as it did. -/
def specWakesSpec : ChangeSpec := { name := "specWakes", fn := fun _ => fun
  | [d1, d2] => { results := [.lit (.bool true)], args := [d1, d2] }
  | _ => none }
def specWakesRow : OpenClaim := { program := "ytimmclibnfdjhaa", sum := "a77ad7d120907299f634c70c190e8754e557ba62c559a0c98b523fddfed59824", func := "doorkeeper/doorkeeperlaw12.SpecWakes", spec := "specWakes", unfollowed := true, recurses := true, apart := false }
def SpecWakesSaid : Prop := specWakesRow.holds Try.pinned (OpenSpec.ofChange specWakesSpec)

/-- ITS FALSE NEIGHBOUR: 'it returns false'. Refute it at one input. -/
def specWakesWrong : ChangeSpec := { name := "specWakes", fn := fun _ => fun
  | [d1, d2] => { results := [.lit (.bool false)], args := [d1, d2] }
  | _ => none }
def SpecWakesWrongFalsely : Prop := specWakesRow.holds Try.pinned (OpenSpec.ofChange specWakesWrong)

/-- 'doorkeeperlaw12.SpecCopies': WHATEVER THE INPUT: true; the input reads as it did. -/
def specCopiesSpec : ChangeSpec := { name := "specCopies", fn := fun _ => fun
  | [d1, d2, d3] => { results := [.lit (.bool true)], args := [d1, d2, d3] }
  | _ => none }
def specCopiesRow : OpenClaim := { program := "ytimmclibnfdjhaa", sum := "a77ad7d120907299f634c70c190e8754e557ba62c559a0c98b523fddfed59824", func := "doorkeeper/doorkeeperlaw12.SpecCopies", spec := "specCopies", unfollowed := true, recurses := true, apart := false }
def SpecCopiesSaid : Prop := specCopiesRow.holds Try.pinned (OpenSpec.ofChange specCopiesSpec)

/-- ITS FALSE NEIGHBOUR: 'it returns false'. Refute it at one input. -/
def specCopiesWrong : ChangeSpec := { name := "specCopies", fn := fun _ => fun
  | [d1, d2, d3] => { results := [.lit (.bool false)], args := [d1, d2, d3] }
  | _ => none }
def SpecCopiesWrongFalsely : Prop := specCopiesRow.holds Try.pinned (OpenSpec.ofChange specCopiesWrong)

/-- 'doorkeeperlaw12.SpecKnown': WHATEVER THE INPUT: true; the input reads as it did. -/
def specKnownSpec : ChangeSpec := { name := "specKnown", fn := fun _ => fun
  | [] => { results := [.lit (.bool true)], args := [] }
  | _ => none }
def specKnownRow : OpenClaim := { program := "ytimmclibnfdjhaa", sum := "a77ad7d120907299f634c70c190e8754e557ba62c559a0c98b523fddfed59824", func := "doorkeeper/doorkeeperlaw12.SpecKnown", spec := "specKnown", unfollowed := true, recurses := true, apart := false }
def SpecKnownSaid : Prop := specKnownRow.holds Try.pinned (OpenSpec.ofChange specKnownSpec)

/-- ITS FALSE NEIGHBOUR: 'it returns false'. Refute it at one input. -/
def specKnownWrong : ChangeSpec := { name := "specKnown", fn := fun _ => fun
  | [] => { results := [.lit (.bool false)], args := [] }
  | _ => none }
def SpecKnownWrongFalsely : Prop := specKnownRow.holds Try.pinned (OpenSpec.ofChange specKnownWrong)

/- THE SECOND FORM. 'bulk': how many values and letters a reading holds, each counted each time it is reached (what is shared counts as often as it is met; a slice's spare places count too). A statement '..UptoSaid' is the law's where the arguments, and the package variables that the reading takes, are together of bulk at most 1048576: NARROWER than '..Said'. Prove '..Said' where nothing that the law and all that it calls make is longer than what came in: it says more and counts as full. Else prove '..UptoSaid'. A law counts once. -/
mutual
def uptoBulk {H : Type} : DataW H → Nat
  | .lit (.string bytes) => bytes.length + 1
  | .lit _ => 1
  | .nil => 1
  | .ptr d => uptoBulk d + 1
  | .slice elems spare => uptoBulkAll elems + uptoBulkAll spare + 1
  | .agg parts => uptoBulkAll parts + 1
  | .iface _ d => uptoBulk d + 1
  | .map entries => uptoBulkEntries entries + 1
  | .held _ => 1
def uptoBulkAll {H : Type} : List (DataW H) → Nat
  | [] => 0
  | d :: r => uptoBulk d + uptoBulkAll r
def uptoBulkEntries {H : Type} : List (Lit × DataW H) → Nat
  | [] => 0
  | x :: r => uptoBulkEntry x + uptoBulkEntries r
def uptoBulkEntry {H : Type} : Lit × DataW H → Nat
  | (.string bytes, d) => bytes.length + uptoBulk d + 1
  | (_, d) => uptoBulk d + 1
 end
def uptoSmall : (H : Type) → List (DataW H) → Bool := fun _ ds => decide (uptoBulkAll ds ≤ 1048576)
def OpenSpec.upto (s : _root_.Go.ChangeSpec) : _root_.Go.OpenSpec := { _root_.Go.OpenSpec.ofChange s with cond := some uptoSmall }

/-- 'doorkeeperlaw12.SpecOwns', WHERE WHAT IT READS IS OF BULK AT MOST 1048576: true; the input reads as it did. -/
def specOwnsUptoRow : OpenClaim := { program := "ytimmclibnfdjhaa", sum := "a77ad7d120907299f634c70c190e8754e557ba62c559a0c98b523fddfed59824", func := "doorkeeper/doorkeeperlaw12.SpecOwns", spec := "specOwns", unfollowed := true, recurses := true, apart := false, narrowed := true }
def SpecOwnsUptoSaid : Prop := specOwnsUptoRow.holds Try.pinned (OpenSpec.upto specOwnsSpec)

/-- 'doorkeeperlaw12.SpecWakes', WHERE WHAT IT READS IS OF BULK AT MOST 1048576: true; the input reads as it did. -/
def specWakesUptoRow : OpenClaim := { program := "ytimmclibnfdjhaa", sum := "a77ad7d120907299f634c70c190e8754e557ba62c559a0c98b523fddfed59824", func := "doorkeeper/doorkeeperlaw12.SpecWakes", spec := "specWakes", unfollowed := true, recurses := true, apart := false, narrowed := true }
def SpecWakesUptoSaid : Prop := specWakesUptoRow.holds Try.pinned (OpenSpec.upto specWakesSpec)

/-- 'doorkeeperlaw12.SpecCopies', WHERE WHAT IT READS IS OF BULK AT MOST 1048576: true; the input reads as it did. -/
def specCopiesUptoRow : OpenClaim := { program := "ytimmclibnfdjhaa", sum := "a77ad7d120907299f634c70c190e8754e557ba62c559a0c98b523fddfed59824", func := "doorkeeper/doorkeeperlaw12.SpecCopies", spec := "specCopies", unfollowed := true, recurses := true, apart := false, narrowed := true }
def SpecCopiesUptoSaid : Prop := specCopiesUptoRow.holds Try.pinned (OpenSpec.upto specCopiesSpec)

/-- 'doorkeeperlaw12.SpecKnown', WHERE WHAT IT READS IS OF BULK AT MOST 1048576: true; the input reads as it did. -/
def specKnownUptoRow : OpenClaim := { program := "ytimmclibnfdjhaa", sum := "a77ad7d120907299f634c70c190e8754e557ba62c559a0c98b523fddfed59824", func := "doorkeeper/doorkeeperlaw12.SpecKnown", spec := "specKnown", unfollowed := true, recurses := true, apart := false, narrowed := true }
def SpecKnownUptoSaid : Prop := specKnownUptoRow.holds Try.pinned (OpenSpec.upto specKnownSpec)

end Rows
end Go.Proofs.Ytimmclibnfdjhaa
