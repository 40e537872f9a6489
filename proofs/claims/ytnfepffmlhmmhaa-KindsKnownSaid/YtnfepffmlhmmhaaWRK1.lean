/- Calls, run. -/
import Derived.Test.YtnfepffmlhmmhaaSlV13
import Derived.KernelRfl
import Derived.Test.YtnfepffmlhmmhaaProg
import Derived.Test.YtnfepffmlhmmhaaWRM
namespace Go.Proofs.Ytnfepffmlhmmhaa
open Go Go.SL
theorem k4 : memoB Try.prog tb [] 100000 100 m4 = true := by kernel_rfl
theorem k5 : memoB Try.prog tb [] 100000 100 m5 = true := by kernel_rfl
theorem k6 : memoB Try.prog tb [] 100000 100 m6 = true := by kernel_rfl
theorem k7 : memoB Try.prog tb [] 100000 100 m7 = true := by kernel_rfl
theorem k8 : memoB Try.prog tb [] 100000 100 m8 = true := by kernel_rfl
theorem k9 : memoB Try.prog tb [] 100000 100 m9 = true := by kernel_rfl
theorem k10 : memoB Try.prog tb [] 100000 100 m10 = true := by kernel_rfl
theorem k11 : memoB Try.prog tb [] 100000 100 m11 = true := by kernel_rfl
theorem k12 : memoB Try.prog tb [] 100000 100 m12 = true := by kernel_rfl
end Go.Proofs.Ytnfepffmlhmmhaa
