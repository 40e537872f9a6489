/- The law NestWraps, of what is handed in. -/
import Derived.Test.YtifhhfeibnpaoaaWL3
import Derived.Test.YtifhhfeibnpaoaaWR0
namespace Go.Proofs.Ytifhhfeibnpaoaa
open Go Go.SL
theorem NestWraps_flat (J : Heap) (bb : Option Addr) (bl bc : Nat) (B : List Int) (odd : Bool) (at8 x0 x1 v0 : Int)
    (sB : Sl J bb (B.map u8)) (hB : ∀ x ∈ B, 0 ≤ x ∧ x ≤ 255) (hBl : B.length = bl) (hbc : bl ≤ bc) (hbs : bl ≤ 9223372036854775807)
    (ha : 0 ≤ at8 ∧ at8 ≤ 255) (hx0 : 0 ≤ x0 ∧ x0 ≤ 255) (hx1 : 0 ≤ x1 ∧ x1 ≤ 255) : PFn Try.prog 5 [dV3 bb bl bc (.bool odd) (u8 at8) (u8 x0) (u8 x1) v0] [J] (.bool true) := by
  haveI := sB
  exact NestWraps_calls J bb bl bc B odd at8 x0 x1 v0 hB hBl hbc hbs ha hx0 hx1
end Go.Proofs.Ytifhhfeibnpaoaa
