/- Calls, run. -/
import Derived.Test.YtimmclibnfdjhaaSlV13
import Derived.KernelRfl
import Derived.Test.YtimmclibnfdjhaaProg
import Derived.Test.YtimmclibnfdjhaaWRM
namespace Go.Proofs.Ytimmclibnfdjhaa
open Go Go.SL
theorem k9 : memoB Try.prog tb [] 100000 100 m9 = true := by kernel_rfl
theorem k10 : memoB Try.prog tb [] 100000 100 m10 = true := by kernel_rfl
theorem k11 : memoB Try.prog tb [] 100000 100 m11 = true := by kernel_rfl
theorem k12 : memoB Try.prog tb [] 100000 100 m12 = true := by kernel_rfl
end Go.Proofs.Ytimmclibnfdjhaa
