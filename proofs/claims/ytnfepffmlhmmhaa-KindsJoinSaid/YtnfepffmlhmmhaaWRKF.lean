/- The whole call, run. -/
import Derived.Test.YtnfepffmlhmmhaaSlV13
import Derived.KernelRfl
import Derived.Test.YtnfepffmlhmmhaaProg
import Derived.Test.YtnfepffmlhmmhaaWRM
namespace Go.Proofs.Ytnfepffmlhmmhaa
open Go Go.SL
theorem kf6 : closedB Try.prog tb [] 100000 100 6 [] = true := by kernel_rfl
end Go.Proofs.Ytnfepffmlhmmhaa
