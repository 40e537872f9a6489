/- Calls, run. -/
import Derived.Test.YtimmclibnfdjhaaSlV13
import Derived.KernelRfl
import Derived.Test.YtimmclibnfdjhaaProg
import Derived.Test.YtimmclibnfdjhaaWRM
namespace Go.Proofs.Ytimmclibnfdjhaa
open Go Go.SL
theorem k2 : memoB Try.prog tb [m0] 100000 100 m2 = true := by kernel_rfl
theorem k3 : memoB Try.prog tb [] 100000 100 m3 = true := by kernel_rfl
end Go.Proofs.Ytimmclibnfdjhaa
