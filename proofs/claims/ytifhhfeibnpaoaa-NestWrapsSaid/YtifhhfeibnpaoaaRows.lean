/-
  No cell of these rows narrows 'for every input' (looked for: loops, veiled, ifaces, maps, wideKeys, modest, calm, conditions, laid).
  DERIVED. THE GIVEN ROWS OF THIS SEAT. 4 by the template 'for every input the law returns true; each argument reads behind the call as it read before'; 0 by the template 'total and deterministic' (their statements: YtifhhfeibnpaoaaTotals.lean).
  GIVEN WITH THE SEED: the statements are not yours to turn. If you find one false, say at which input.
  Laid BY PROGRAM, IN A SANDBOX (cutbox-rows.mjs): the forced cells as the released guide's own fill.sh prints them over the translation 9b1ec2797a39d87f… (all of the seat's roots in one cut). By AI agents, Wed Nov 11 2026. No macro, syntax, notation, axiom, sorry.
-/
import Derived.Test.YtifhhfeibnpaoaaChecked
import GoSem.Claim
import GoSem.ClaimJoined
import GoSem.ClaimMapViews
import Derived.JoinedTies
import Derived.KernelRfl
namespace Go.Proofs.Ytifhhfeibnpaoaa
/- THE CELL 'sum', in the pinned program and in every row, IS THE sha256 OF THE DUMP (.gsa) THAT YtifhhfeibnpaoaaProg.lean LOADS. Nothing in Lean hashes anything: it is a label: what it is worth is what the hold of that sum in a sandbox is worth. -/
noncomputable def Try.pinned : Pinned := { name := "ytifhhfeibnpaoaa", sum := "9b1ec2797a39d87f61ec8bd04a1434636900f16915feb76a6e3840cca1a846cf", checked := Try.checked }
namespace Rows
def none {H : Type} : Left H := { results := [], args := [] }

/-- 'doorkeeperlaw29.NestTells': WHATEVER THE INPUT: true; the input reads as it did. -/
def nestTellsSpec : ChangeSpec := { name := "nestTells", fn := fun _ => fun
  | [d1, d2] => { results := [.lit (.bool true)], args := [d1, d2] }
  | _ => none }
def nestTellsRow : OpenClaim := { program := "ytifhhfeibnpaoaa", sum := "9b1ec2797a39d87f61ec8bd04a1434636900f16915feb76a6e3840cca1a846cf", func := "doorkeeper/doorkeeperlaw29.NestTells", spec := "nestTells", unfollowed := true, recurses := true, apart := false }
def NestTellsSaid : Prop := nestTellsRow.holds Try.pinned (OpenSpec.ofChange nestTellsSpec)

/-- ITS FALSE NEIGHBOUR: 'it returns false'. Refute it at one input. -/
def nestTellsWrong : ChangeSpec := { name := "nestTells", fn := fun _ => fun
  | [d1, d2] => { results := [.lit (.bool false)], args := [d1, d2] }
  | _ => none }
def NestTellsWrongFalsely : Prop := nestTellsRow.holds Try.pinned (OpenSpec.ofChange nestTellsWrong)

/-- 'doorkeeperlaw29.NestHolds': WHATEVER THE INPUT: true; the input reads as it did. -/
def nestHoldsSpec : ChangeSpec := { name := "nestHolds", fn := fun _ => fun
  | [d1, d2] => { results := [.lit (.bool true)], args := [d1, d2] }
  | _ => none }
def nestHoldsRow : OpenClaim := { program := "ytifhhfeibnpaoaa", sum := "9b1ec2797a39d87f61ec8bd04a1434636900f16915feb76a6e3840cca1a846cf", func := "doorkeeper/doorkeeperlaw29.NestHolds", spec := "nestHolds", unfollowed := true, recurses := true, apart := false }
def NestHoldsSaid : Prop := nestHoldsRow.holds Try.pinned (OpenSpec.ofChange nestHoldsSpec)

/-- ITS FALSE NEIGHBOUR: 'it returns false'. Refute it at one input. -/
def nestHoldsWrong : ChangeSpec := { name := "nestHolds", fn := fun _ => fun
  | [d1, d2] => { results := [.lit (.bool false)], args := [d1, d2] }
  | _ => none }
def NestHoldsWrongFalsely : Prop := nestHoldsRow.holds Try.pinned (OpenSpec.ofChange nestHoldsWrong)

/-- 'doorkeeperlaw29.NestWraps': WHATEVER THE INPUT: true; the input reads as it did. -/
def nestWrapsSpec : ChangeSpec := { name := "nestWraps", fn := fun _ => fun
  | [d] => { results := [.lit (.bool true)], args := [d] }
  | _ => none }
def nestWrapsRow : OpenClaim := { program := "ytifhhfeibnpaoaa", sum := "9b1ec2797a39d87f61ec8bd04a1434636900f16915feb76a6e3840cca1a846cf", func := "doorkeeper/doorkeeperlaw29.NestWraps", spec := "nestWraps", unfollowed := true, recurses := true, apart := false }
def NestWrapsSaid : Prop := nestWrapsRow.holds Try.pinned (OpenSpec.ofChange nestWrapsSpec)

/-- ITS FALSE NEIGHBOUR: 'it returns false'. Refute it at one input. -/
def nestWrapsWrong : ChangeSpec := { name := "nestWraps", fn := fun _ => fun
  | [d] => { results := [.lit (.bool false)], args := [d] }
  | _ => none }
def NestWrapsWrongFalsely : Prop := nestWrapsRow.holds Try.pinned (OpenSpec.ofChange nestWrapsWrong)

/-- 'doorkeeperlaw29.NestKnown': WHATEVER THE INPUT: true; the input reads as it did. -/
def nestKnownSpec : ChangeSpec := { name := "nestKnown", fn := fun _ => fun
  | [] => { results := [.lit (.bool true)], args := [] }
  | _ => none }
def nestKnownRow : OpenClaim := { program := "ytifhhfeibnpaoaa", sum := "9b1ec2797a39d87f61ec8bd04a1434636900f16915feb76a6e3840cca1a846cf", func := "doorkeeper/doorkeeperlaw29.NestKnown", spec := "nestKnown", unfollowed := true, recurses := true, apart := false }
def NestKnownSaid : Prop := nestKnownRow.holds Try.pinned (OpenSpec.ofChange nestKnownSpec)

/-- ITS FALSE NEIGHBOUR: 'it returns false'. Refute it at one input. -/
def nestKnownWrong : ChangeSpec := { name := "nestKnown", fn := fun _ => fun
  | [] => { results := [.lit (.bool false)], args := [] }
  | _ => none }
def NestKnownWrongFalsely : Prop := nestKnownRow.holds Try.pinned (OpenSpec.ofChange nestKnownWrong)

/- THE SECOND FORM. 'bulk': how many values and letters a reading holds, each counted each time it is reached (what is shared counts as often as it is met; a slice's spare places count too). A statement '..UptoSaid' is the law's where the arguments, and the package variables that the reading takes, are together of bulk at most 1048576: NARROWER than '..Said'. Prove '..Said' where nothing that the law and all that it calls make is longer than what came in: it says more and counts as full. Else prove '..UptoSaid'. A law counts once. -/
mutual
def uptoBulk {H : Type} : DataW H → Nat
  | .lit (.string bytes) => bytes.length + 1
  | .lit _ => 1
  | .nil => 1
  | .ptr d => uptoBulk d + 1
  | .slice elems spare => uptoBulkAll elems + uptoBulkAll spare + 1
  | .agg parts => uptoBulkAll parts + 1
  | .iface _ d => uptoBulk d + 1
  | .map entries => uptoBulkEntries entries + 1
  | .held _ => 1
def uptoBulkAll {H : Type} : List (DataW H) → Nat
  | [] => 0
  | d :: r => uptoBulk d + uptoBulkAll r
def uptoBulkEntries {H : Type} : List (Lit × DataW H) → Nat
  | [] => 0
  | x :: r => uptoBulkEntry x + uptoBulkEntries r
def uptoBulkEntry {H : Type} : Lit × DataW H → Nat
  | (.string bytes, d) => bytes.length + uptoBulk d + 1
  | (_, d) => uptoBulk d + 1
 end
def uptoSmall : (H : Type) → List (DataW H) → Bool := fun _ ds => decide (uptoBulkAll ds ≤ 1048576)
def OpenSpec.upto (s : _root_.Go.ChangeSpec) : _root_.Go.OpenSpec := { _root_.Go.OpenSpec.ofChange s with cond := some uptoSmall }

/-- 'doorkeeperlaw29.NestTells', WHERE WHAT IT READS IS OF BULK AT MOST 1048576: true; the input reads as it did. -/
def nestTellsUptoRow : OpenClaim := { program := "ytifhhfeibnpaoaa", sum := "9b1ec2797a39d87f61ec8bd04a1434636900f16915feb76a6e3840cca1a846cf", func := "doorkeeper/doorkeeperlaw29.NestTells", spec := "nestTells", unfollowed := true, recurses := true, apart := false, narrowed := true }
def NestTellsUptoSaid : Prop := nestTellsUptoRow.holds Try.pinned (OpenSpec.upto nestTellsSpec)

/-- 'doorkeeperlaw29.NestHolds', WHERE WHAT IT READS IS OF BULK AT MOST 1048576: true; the input reads as it did. -/
def nestHoldsUptoRow : OpenClaim := { program := "ytifhhfeibnpaoaa", sum := "9b1ec2797a39d87f61ec8bd04a1434636900f16915feb76a6e3840cca1a846cf", func := "doorkeeper/doorkeeperlaw29.NestHolds", spec := "nestHolds", unfollowed := true, recurses := true, apart := false, narrowed := true }
def NestHoldsUptoSaid : Prop := nestHoldsUptoRow.holds Try.pinned (OpenSpec.upto nestHoldsSpec)

/-- 'doorkeeperlaw29.NestWraps', WHERE WHAT IT READS IS OF BULK AT MOST 1048576: true; the input reads as it did. -/
def nestWrapsUptoRow : OpenClaim := { program := "ytifhhfeibnpaoaa", sum := "9b1ec2797a39d87f61ec8bd04a1434636900f16915feb76a6e3840cca1a846cf", func := "doorkeeper/doorkeeperlaw29.NestWraps", spec := "nestWraps", unfollowed := true, recurses := true, apart := false, narrowed := true }
def NestWrapsUptoSaid : Prop := nestWrapsUptoRow.holds Try.pinned (OpenSpec.upto nestWrapsSpec)

/-- 'doorkeeperlaw29.NestKnown', WHERE WHAT IT READS IS OF BULK AT MOST 1048576: true; the input reads as it did. -/
def nestKnownUptoRow : OpenClaim := { program := "ytifhhfeibnpaoaa", sum := "9b1ec2797a39d87f61ec8bd04a1434636900f16915feb76a6e3840cca1a846cf", func := "doorkeeper/doorkeeperlaw29.NestKnown", spec := "nestKnown", unfollowed := true, recurses := true, apart := false, narrowed := true }
def NestKnownUptoSaid : Prop := nestKnownUptoRow.holds Try.pinned (OpenSpec.upto nestKnownSpec)

end Rows
end Go.Proofs.Ytifhhfeibnpaoaa
