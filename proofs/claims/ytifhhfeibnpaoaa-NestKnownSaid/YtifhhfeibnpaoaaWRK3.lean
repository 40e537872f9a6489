/- Calls, run. -/
import Derived.Test.YtifhhfeibnpaoaaSlV13
import Derived.KernelRfl
import Derived.Test.YtifhhfeibnpaoaaProg
import Derived.Test.YtifhhfeibnpaoaaWRM
import Derived.Test.YtifhhfeibnpaoaaWRM1
namespace Go.Proofs.Ytifhhfeibnpaoaa
open Go Go.SL
theorem k34 : memoB Try.prog tb [m18, m16, m17] 100000 100 m34 = true := by kernel_rfl
theorem k35 : memoB Try.prog tb [] 100000 100 m35 = true := by kernel_rfl
theorem k36 : memoB Try.prog tb [] 100000 100 m36 = true := by kernel_rfl
theorem k37 : memoB Try.prog tb [] 100000 100 m37 = true := by kernel_rfl
end Go.Proofs.Ytifhhfeibnpaoaa
