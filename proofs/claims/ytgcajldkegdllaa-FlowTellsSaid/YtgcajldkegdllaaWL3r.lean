/- The law FlowTells, of numbers laid flat. -/
import Derived.Test.YtgcajldkegdllaaWL3
import Derived.Test.YtgcajldkegdllaaWR0
namespace Go.Proofs.Ytgcajldkegdllaa
open Go.SL
theorem FlowTells_flat (J : Heap) (lb : Option Addr) (ll lc : Nat) (zs : List Int) (at_ : Int) [s : Sl J lb (zs.map i64)] (hl : zs.length = ll * 3) (hsm : ll ≤ 9223372036854775807) (hlc : ll ≤ lc) : PFn Try.prog 3 [.slice lb ll lc, i64 at_] [J] (.bool true) := by
  obtain ⟨ls, h1, h2⟩ := flat_of ll hl
  haveI : Sl J lb (flatI ls) := by rw [h2]; exact s
  exact FlowTells_calls J lb ll lc ls at_ h1 hsm hlc
end Go.Proofs.Ytgcajldkegdllaa
