/- Calls, run. -/
import Derived.Test.YtimmclibnfdjhaaSlV13
import Derived.KernelRfl
import Derived.Test.YtimmclibnfdjhaaProg
import Derived.Test.YtimmclibnfdjhaaWRM
namespace Go.Proofs.Ytimmclibnfdjhaa
open Go Go.SL
theorem k4 : memoB Try.prog tb [] 100000 100 m4 = true := by kernel_rfl
theorem k5 : memoB Try.prog tb [] 100000 100 m5 = true := by kernel_rfl
theorem k6 : memoB Try.prog tb [] 100000 100 m6 = true := by kernel_rfl
theorem k7 : memoB Try.prog tb [] 100000 100 m7 = true := by kernel_rfl
theorem k8 : memoB Try.prog tb [] 100000 100 m8 = true := by kernel_rfl
end Go.Proofs.Ytimmclibnfdjhaa
