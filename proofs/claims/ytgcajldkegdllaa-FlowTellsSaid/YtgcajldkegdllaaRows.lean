/-
  No cell of these rows narrows 'for every input' (looked for: loops, veiled, ifaces, maps, wideKeys, modest, calm, conditions, laid).
  DERIVED. THE GIVEN ROWS OF THIS SEAT. 4 by the template 'for every input the law returns true; each argument reads behind the call as it read before'; 0 by the template 'total and deterministic' (their statements: YtgcajldkegdllaaTotals.lean).
  GIVEN WITH THE SEED: the statements are not yours to turn. If you find one false, say at which input.
  Laid BY PROGRAM, IN A SANDBOX (cutbox-rows.mjs): the forced cells as the released guide's own fill.sh prints them over the translation 103fc5175a97bc44… (all of the seat's roots in one cut). By AI agents, Wed Nov 11 2026. No macro, syntax, notation, axiom, sorry.
-/
import Derived.Test.YtgcajldkegdllaaChecked
import GoSem.Claim
import GoSem.ClaimJoined
import GoSem.ClaimMapViews
import Derived.JoinedTies
import Derived.KernelRfl
namespace Go.Proofs.Ytgcajldkegdllaa
/- THE CELL 'sum', in the pinned program and in every row, IS THE sha256 OF THE DUMP (.gsa) THAT YtgcajldkegdllaaProg.lean LOADS. Nothing in Lean hashes anything: it is a label: what it is worth is what the hold of that sum in a sandbox is worth. -/
noncomputable def Try.pinned : Pinned := { name := "ytgcajldkegdllaa", sum := "103fc5175a97bc44abcdac3338d0e5cad9945803f5058396c63972e54b47ba36", checked := Try.checked }
namespace Rows
def none {H : Type} : Left H := { results := [], args := [] }

/-- 'doorkeeperlaw27.FlowTells': WHATEVER THE INPUT: true; the input reads as it did. -/
def flowTellsSpec : ChangeSpec := { name := "flowTells", fn := fun _ => fun
  | [d1, d2] => { results := [.lit (.bool true)], args := [d1, d2] }
  | _ => none }
def flowTellsRow : OpenClaim := { program := "ytgcajldkegdllaa", sum := "103fc5175a97bc44abcdac3338d0e5cad9945803f5058396c63972e54b47ba36", func := "doorkeeper/doorkeeperlaw27.FlowTells", spec := "flowTells", unfollowed := true, recurses := true, apart := false }
def FlowTellsSaid : Prop := flowTellsRow.holds Try.pinned (OpenSpec.ofChange flowTellsSpec)

/-- ITS FALSE NEIGHBOUR: 'it returns false'. Refute it at one input. -/
def flowTellsWrong : ChangeSpec := { name := "flowTells", fn := fun _ => fun
  | [d1, d2] => { results := [.lit (.bool false)], args := [d1, d2] }
  | _ => none }
def FlowTellsWrongFalsely : Prop := flowTellsRow.holds Try.pinned (OpenSpec.ofChange flowTellsWrong)

/-- 'doorkeeperlaw27.FlowClosed': WHATEVER THE INPUT: true; the input reads as it did. -/
def flowClosedSpec : ChangeSpec := { name := "flowClosed", fn := fun _ => fun
  | [d] => { results := [.lit (.bool true)], args := [d] }
  | _ => none }
def flowClosedRow : OpenClaim := { program := "ytgcajldkegdllaa", sum := "103fc5175a97bc44abcdac3338d0e5cad9945803f5058396c63972e54b47ba36", func := "doorkeeper/doorkeeperlaw27.FlowClosed", spec := "flowClosed", unfollowed := true, recurses := true, apart := false }
def FlowClosedSaid : Prop := flowClosedRow.holds Try.pinned (OpenSpec.ofChange flowClosedSpec)

/-- ITS FALSE NEIGHBOUR: 'it returns false'. Refute it at one input. -/
def flowClosedWrong : ChangeSpec := { name := "flowClosed", fn := fun _ => fun
  | [d] => { results := [.lit (.bool false)], args := [d] }
  | _ => none }
def FlowClosedWrongFalsely : Prop := flowClosedRow.holds Try.pinned (OpenSpec.ofChange flowClosedWrong)

/-- 'doorkeeperlaw27.FlowLeads': WHATEVER THE INPUT: true; the input reads as it did. -/
def flowLeadsSpec : ChangeSpec := { name := "flowLeads", fn := fun _ => fun
  | [d] => { results := [.lit (.bool true)], args := [d] }
  | _ => none }
def flowLeadsRow : OpenClaim := { program := "ytgcajldkegdllaa", sum := "103fc5175a97bc44abcdac3338d0e5cad9945803f5058396c63972e54b47ba36", func := "doorkeeper/doorkeeperlaw27.FlowLeads", spec := "flowLeads", unfollowed := true, recurses := true, apart := false }
def FlowLeadsSaid : Prop := flowLeadsRow.holds Try.pinned (OpenSpec.ofChange flowLeadsSpec)

/-- ITS FALSE NEIGHBOUR: 'it returns false'. Refute it at one input. -/
def flowLeadsWrong : ChangeSpec := { name := "flowLeads", fn := fun _ => fun
  | [d] => { results := [.lit (.bool false)], args := [d] }
  | _ => none }
def FlowLeadsWrongFalsely : Prop := flowLeadsRow.holds Try.pinned (OpenSpec.ofChange flowLeadsWrong)

/-- 'doorkeeperlaw27.FlowKnown': WHATEVER THE INPUT: true; the input reads as it did. -/
def flowKnownSpec : ChangeSpec := { name := "flowKnown", fn := fun _ => fun
  | [] => { results := [.lit (.bool true)], args := [] }
  | _ => none }
def flowKnownRow : OpenClaim := { program := "ytgcajldkegdllaa", sum := "103fc5175a97bc44abcdac3338d0e5cad9945803f5058396c63972e54b47ba36", func := "doorkeeper/doorkeeperlaw27.FlowKnown", spec := "flowKnown", unfollowed := true, recurses := true, apart := false }
def FlowKnownSaid : Prop := flowKnownRow.holds Try.pinned (OpenSpec.ofChange flowKnownSpec)

/-- ITS FALSE NEIGHBOUR: 'it returns false'. Refute it at one input. -/
def flowKnownWrong : ChangeSpec := { name := "flowKnown", fn := fun _ => fun
  | [] => { results := [.lit (.bool false)], args := [] }
  | _ => none }
def FlowKnownWrongFalsely : Prop := flowKnownRow.holds Try.pinned (OpenSpec.ofChange flowKnownWrong)

/- THE SECOND FORM. 'bulk': how many values and letters a reading holds, each counted each time it is reached (what is shared counts as often as it is met; a slice's spare places count too). A statement '..UptoSaid' is the law's where the arguments, and the package variables that the reading takes, are together of bulk at most 1048576: NARROWER than '..Said'. Prove '..Said' where nothing that the law and all that it calls make is longer than what came in: it says more and counts as full. Else prove '..UptoSaid'. A law counts once. -/
mutual
def uptoBulk {H : Type} : DataW H → Nat
  | .lit (.string bytes) => bytes.length + 1
  | .lit _ => 1
  | .nil => 1
  | .ptr d => uptoBulk d + 1
  | .slice elems spare => uptoBulkAll elems + uptoBulkAll spare + 1
  | .agg parts => uptoBulkAll parts + 1
  | .iface _ d => uptoBulk d + 1
  | .map entries => uptoBulkEntries entries + 1
  | .held _ => 1
def uptoBulkAll {H : Type} : List (DataW H) → Nat
  | [] => 0
  | d :: r => uptoBulk d + uptoBulkAll r
def uptoBulkEntries {H : Type} : List (Lit × DataW H) → Nat
  | [] => 0
  | x :: r => uptoBulkEntry x + uptoBulkEntries r
def uptoBulkEntry {H : Type} : Lit × DataW H → Nat
  | (.string bytes, d) => bytes.length + uptoBulk d + 1
  | (_, d) => uptoBulk d + 1
 end
def uptoSmall : (H : Type) → List (DataW H) → Bool := fun _ ds => decide (uptoBulkAll ds ≤ 1048576)
def OpenSpec.upto (s : _root_.Go.ChangeSpec) : _root_.Go.OpenSpec := { _root_.Go.OpenSpec.ofChange s with cond := some uptoSmall }

/-- 'doorkeeperlaw27.FlowTells', WHERE WHAT IT READS IS OF BULK AT MOST 1048576: true; the input reads as it did. -/
def flowTellsUptoRow : OpenClaim := { program := "ytgcajldkegdllaa", sum := "103fc5175a97bc44abcdac3338d0e5cad9945803f5058396c63972e54b47ba36", func := "doorkeeper/doorkeeperlaw27.FlowTells", spec := "flowTells", unfollowed := true, recurses := true, apart := false, narrowed := true }
def FlowTellsUptoSaid : Prop := flowTellsUptoRow.holds Try.pinned (OpenSpec.upto flowTellsSpec)

/-- 'doorkeeperlaw27.FlowClosed', WHERE WHAT IT READS IS OF BULK AT MOST 1048576: true; the input reads as it did. -/
def flowClosedUptoRow : OpenClaim := { program := "ytgcajldkegdllaa", sum := "103fc5175a97bc44abcdac3338d0e5cad9945803f5058396c63972e54b47ba36", func := "doorkeeper/doorkeeperlaw27.FlowClosed", spec := "flowClosed", unfollowed := true, recurses := true, apart := false, narrowed := true }
def FlowClosedUptoSaid : Prop := flowClosedUptoRow.holds Try.pinned (OpenSpec.upto flowClosedSpec)

/-- 'doorkeeperlaw27.FlowLeads', WHERE WHAT IT READS IS OF BULK AT MOST 1048576: true; the input reads as it did. -/
def flowLeadsUptoRow : OpenClaim := { program := "ytgcajldkegdllaa", sum := "103fc5175a97bc44abcdac3338d0e5cad9945803f5058396c63972e54b47ba36", func := "doorkeeper/doorkeeperlaw27.FlowLeads", spec := "flowLeads", unfollowed := true, recurses := true, apart := false, narrowed := true }
def FlowLeadsUptoSaid : Prop := flowLeadsUptoRow.holds Try.pinned (OpenSpec.upto flowLeadsSpec)

/-- 'doorkeeperlaw27.FlowKnown', WHERE WHAT IT READS IS OF BULK AT MOST 1048576: true; the input reads as it did. -/
def flowKnownUptoRow : OpenClaim := { program := "ytgcajldkegdllaa", sum := "103fc5175a97bc44abcdac3338d0e5cad9945803f5058396c63972e54b47ba36", func := "doorkeeper/doorkeeperlaw27.FlowKnown", spec := "flowKnown", unfollowed := true, recurses := true, apart := false, narrowed := true }
def FlowKnownUptoSaid : Prop := flowKnownUptoRow.holds Try.pinned (OpenSpec.upto flowKnownSpec)

end Rows
end Go.Proofs.Ytgcajldkegdllaa
