/- Calls, run. -/
import Derived.Test.YtnfepffmlhmmhaaSlV13
import Derived.KernelRfl
import Derived.Test.YtnfepffmlhmmhaaProg
import Derived.Test.YtnfepffmlhmmhaaWRM
namespace Go.Proofs.Ytnfepffmlhmmhaa
open Go Go.SL
theorem k0 : memoB Try.prog tb [] 100000 100 m0 = true := by kernel_rfl
theorem k1 : memoB Try.prog tb [] 100000 100 m1 = true := by kernel_rfl
theorem k2 : memoB Try.prog tb [] 100000 100 m2 = true := by kernel_rfl
theorem k3 : memoB Try.prog tb [] 100000 100 m3 = true := by kernel_rfl
end Go.Proofs.Ytnfepffmlhmmhaa
