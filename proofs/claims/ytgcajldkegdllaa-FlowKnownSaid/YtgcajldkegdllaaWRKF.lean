/- The whole call, run. -/
import Derived.Test.YtgcajldkegdllaaSlV13
import Derived.KernelRfl
import Derived.Test.YtgcajldkegdllaaProg
import Derived.Test.YtgcajldkegdllaaWRM
namespace Go.Proofs.Ytgcajldkegdllaa
open Go Go.SL
theorem kf6 : closedB Try.prog tb [m2] 100000 100 6 [] = true := by kernel_rfl
end Go.Proofs.Ytgcajldkegdllaa
