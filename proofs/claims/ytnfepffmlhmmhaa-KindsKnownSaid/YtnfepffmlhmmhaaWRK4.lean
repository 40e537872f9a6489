/- Calls, run. -/
import Derived.Test.YtnfepffmlhmmhaaSlV13
import Derived.KernelRfl
import Derived.Test.YtnfepffmlhmmhaaProg
import Derived.Test.YtnfepffmlhmmhaaWRM
namespace Go.Proofs.Ytnfepffmlhmmhaa
open Go Go.SL
theorem k34 : memoB Try.prog tb [] 100000 100 m34 = true := by kernel_rfl
theorem k35 : memoB Try.prog tb [] 100000 100 m35 = true := by kernel_rfl
theorem k36 : memoB Try.prog tb [] 100000 100 m36 = true := by kernel_rfl
theorem k37 : memoB Try.prog tb [] 100000 100 m37 = true := by kernel_rfl
theorem k38 : memoB Try.prog tb [] 100000 100 m38 = true := by kernel_rfl
theorem k39 : memoB Try.prog tb [] 100000 100 m39 = true := by kernel_rfl
theorem k40 : memoB Try.prog tb [] 100000 100 m40 = true := by kernel_rfl
theorem k41 : memoB Try.prog tb [] 100000 100 m41 = true := by kernel_rfl
theorem k42 : memoB Try.prog tb [] 100000 100 m42 = true := by kernel_rfl
theorem k43 : memoB Try.prog tb [] 100000 100 m43 = true := by kernel_rfl
theorem k44 : memoB Try.prog tb [] 100000 100 m44 = true := by kernel_rfl
theorem k45 : memoB Try.prog tb [] 100000 100 m45 = true := by kernel_rfl
theorem k46 : memoB Try.prog tb [] 100000 100 m46 = true := by kernel_rfl
theorem k47 : memoB Try.prog tb [] 100000 100 m47 = true := by kernel_rfl
theorem k48 : memoB Try.prog tb [] 100000 100 m48 = true := by kernel_rfl
theorem k49 : memoB Try.prog tb [] 100000 100 m49 = true := by kernel_rfl
end Go.Proofs.Ytnfepffmlhmmhaa
