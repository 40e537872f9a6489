/- The whole call, run. -/
import Derived.Test.YtifhhfeibnpaoaaSlV13
import Derived.KernelRfl
import Derived.Test.YtifhhfeibnpaoaaProg
import Derived.Test.YtifhhfeibnpaoaaWRM
import Derived.Test.YtifhhfeibnpaoaaWRM1
namespace Go.Proofs.Ytifhhfeibnpaoaa
open Go Go.SL
theorem kf6 : closedB Try.prog tb [m33, m35, m36, m37, m34, m32] 100000 100 6 [] = true := by kernel_rfl
end Go.Proofs.Ytifhhfeibnpaoaa
