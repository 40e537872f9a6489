/- Calls, run. -/
import Derived.Test.YtnfepffmlhmmhaaSlV13
import Derived.KernelRfl
import Derived.Test.YtnfepffmlhmmhaaProg
import Derived.Test.YtnfepffmlhmmhaaWRM
namespace Go.Proofs.Ytnfepffmlhmmhaa
open Go Go.SL
theorem k23 : memoB Try.prog tb [] 100000 100 m23 = true := by kernel_rfl
theorem k24 : memoB Try.prog tb [] 100000 100 m24 = true := by kernel_rfl
theorem k25 : memoB Try.prog tb [] 100000 100 m25 = true := by kernel_rfl
theorem k26 : memoB Try.prog tb [] 100000 100 m26 = true := by kernel_rfl
theorem k27 : memoB Try.prog tb [] 100000 100 m27 = true := by kernel_rfl
theorem k28 : memoB Try.prog tb [] 100000 100 m28 = true := by kernel_rfl
theorem k29 : memoB Try.prog tb [] 100000 100 m29 = true := by kernel_rfl
theorem k30 : memoB Try.prog tb [] 100000 100 m30 = true := by kernel_rfl
theorem k31 : memoB Try.prog tb [] 100000 100 m31 = true := by kernel_rfl
theorem k32 : memoB Try.prog tb [] 100000 100 m32 = true := by kernel_rfl
theorem k33 : memoB Try.prog tb [] 100000 100 m33 = true := by kernel_rfl
end Go.Proofs.Ytnfepffmlhmmhaa
