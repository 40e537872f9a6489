/- Calls, run. -/
import Derived.Test.YtgcajldkegdllaaSlV13
import Derived.KernelRfl
import Derived.Test.YtgcajldkegdllaaProg
import Derived.Test.YtgcajldkegdllaaWRM
namespace Go.Proofs.Ytgcajldkegdllaa
open Go Go.SL
theorem k0 : memoB Try.prog tb [] 100000 100 m0 = true := by kernel_rfl
theorem k1 : memoB Try.prog tb [] 100000 100 m1 = true := by kernel_rfl
end Go.Proofs.Ytgcajldkegdllaa
