/- Calls, run. -/
import Derived.Test.YtgcajldkegdllaaSlV13
import Derived.KernelRfl
import Derived.Test.YtgcajldkegdllaaProg
import Derived.Test.YtgcajldkegdllaaWRM
namespace Go.Proofs.Ytgcajldkegdllaa
open Go Go.SL
theorem k2 : memoB Try.prog tb [m1, m0] 100000 100 m2 = true := by kernel_rfl
end Go.Proofs.Ytgcajldkegdllaa
