/- The law NestTells, of numbers laid flat. -/
import Derived.Test.YtifhhfeibnpaoaaWL1
import Derived.Test.YtifhhfeibnpaoaaWR0
namespace Go.Proofs.Ytifhhfeibnpaoaa
open Go.SL
theorem NestTells_flat (J : Heap) (bb : Option Addr) (bl bc : Nat) (B : List Int) (odd : Bool) (at8 x0 x1 v0 : Int) (lb : Option Addr) (ll lc : Nat) (zs : List Int)
    (sB : Sl J bb (B.map u8)) (sL : Sl J lb (zs.map i64)) (hB : ∀ x ∈ B, 0 ≤ x ∧ x ≤ 255) (hBl : B.length = bl) (hbc : bl ≤ bc) (hbs : bl ≤ 9223372036854775807)
    (ha : 0 ≤ at8 ∧ at8 ≤ 255) (hx0 : 0 ≤ x0 ∧ x0 ≤ 255) (hx1 : 0 ≤ x1 ∧ x1 ≤ 255)
    (hl : zs.length = ll * 3) (hsm : ll ≤ 9223372036854775807) (hlc : ll ≤ lc) : PFn Try.prog 3 [dV bb bl bc (.bool odd) (u8 at8) (u8 x0) (u8 x1) v0, .slice lb ll lc] [J] (.bool true) := by
  obtain ⟨ls, h1, h2⟩ := flat_of ll hl
  haveI : Sl J lb (flatI ls) := by rw [h2]; exact sL
  haveI := sB
  exact NestTells_calls J bb bl bc B odd at8 x0 x1 v0 lb ll lc ls hB hBl hbc hbs ha hx0 hx1 h1 hsm hlc
end Go.Proofs.Ytifhhfeibnpaoaa
