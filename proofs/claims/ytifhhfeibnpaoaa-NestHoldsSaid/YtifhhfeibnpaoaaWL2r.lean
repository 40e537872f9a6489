/- The law NestHolds, of what is handed in. -/
import Derived.Test.YtifhhfeibnpaoaaWL2
import Derived.Test.YtifhhfeibnpaoaaWR0
namespace Go.Proofs.Ytifhhfeibnpaoaa
open Go Go.SL
theorem NestHolds_flat (J : Heap) (bb : Option Addr) (bl bc : Nat) (B : List Int) (odd : Bool) (at8 x0 x1 v0 : Int) (wb : Option Addr) (wl wc : Nat) (W : List Int)
    (sB : Sl J bb (B.map u8)) (sW : Sl J wb (W.map (.int .u8))) (hB : ∀ x ∈ B, 0 ≤ x ∧ x ≤ 255) (hBl : B.length = bl) (hbc : bl ≤ bc) (hbs : bl ≤ 9223372036854775807)
    (ha : 0 ≤ at8 ∧ at8 ≤ 255) (hx0 : 0 ≤ x0 ∧ x0 ≤ 255) (hx1 : 0 ≤ x1 ∧ x1 ≤ 255)
    (hW : ∀ z ∈ W, (Lit.int .u8 z).wf = true) (hWl : W.length = wl) (hws : wl ≤ 9223372036854775807) : PFn Try.prog 4 [dV2 bb bl bc (.bool odd) (u8 at8) (u8 x0) (u8 x1) v0, .slice wb wl wc] [J] (.bool true) := by
  haveI := sB
  haveI : Sl J wb (W.map u8) := sW
  exact NestHolds_calls J bb bl bc B odd at8 x0 x1 v0 wb wl wc W hB hBl hbc hbs ha hx0 hx1 (fun x hx => by obtain ⟨n, rfl, hn⟩ := wf_u8 (hW x hx); omega) hWl hws
end Go.Proofs.Ytifhhfeibnpaoaa
