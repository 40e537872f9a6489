/- Calls, run. -/
import Derived.Test.YtifhhfeibnpaoaaSlV13
import Derived.KernelRfl
import Derived.Test.YtifhhfeibnpaoaaProg
import Derived.Test.YtifhhfeibnpaoaaWRM
import Derived.Test.YtifhhfeibnpaoaaWRM1
namespace Go.Proofs.Ytifhhfeibnpaoaa
open Go Go.SL
theorem k12 : memoB Try.prog tb [] 100000 100 m12 = true := by kernel_rfl
theorem k13 : memoB Try.prog tb [] 100000 100 m13 = true := by kernel_rfl
theorem k14 : memoB Try.prog tb [] 100000 100 m14 = true := by kernel_rfl
theorem k15 : memoB Try.prog tb [] 100000 100 m15 = true := by kernel_rfl
theorem k16 : memoB Try.prog tb [] 100000 100 m16 = true := by kernel_rfl
theorem k17 : memoB Try.prog tb [] 100000 100 m17 = true := by kernel_rfl
theorem k18 : memoB Try.prog tb [] 100000 100 m18 = true := by kernel_rfl
theorem k19 : memoB Try.prog tb [] 100000 100 m19 = true := by kernel_rfl
theorem k20 : memoB Try.prog tb [] 100000 100 m20 = true := by kernel_rfl
theorem k21 : memoB Try.prog tb [] 100000 100 m21 = true := by kernel_rfl
theorem k22 : memoB Try.prog tb [] 100000 100 m22 = true := by kernel_rfl
theorem k23 : memoB Try.prog tb [] 100000 100 m23 = true := by kernel_rfl
theorem k24 : memoB Try.prog tb [] 100000 100 m24 = true := by kernel_rfl
theorem k25 : memoB Try.prog tb [] 100000 100 m25 = true := by kernel_rfl
end Go.Proofs.Ytifhhfeibnpaoaa
