/- Calls, run. -/
import Derived.Test.YtifhhfeibnpaoaaSlV13
import Derived.KernelRfl
import Derived.Test.YtifhhfeibnpaoaaProg
import Derived.Test.YtifhhfeibnpaoaaWRM
import Derived.Test.YtifhhfeibnpaoaaWRM1
namespace Go.Proofs.Ytifhhfeibnpaoaa
open Go Go.SL
theorem k0 : memoB Try.prog tb [] 100000 100 m0 = true := by kernel_rfl
theorem k1 : memoB Try.prog tb [] 100000 100 m1 = true := by kernel_rfl
theorem k2 : memoB Try.prog tb [] 100000 100 m2 = true := by kernel_rfl
theorem k3 : memoB Try.prog tb [] 100000 100 m3 = true := by kernel_rfl
theorem k4 : memoB Try.prog tb [] 100000 100 m4 = true := by kernel_rfl
theorem k5 : memoB Try.prog tb [] 100000 100 m5 = true := by kernel_rfl
theorem k6 : memoB Try.prog tb [] 100000 100 m6 = true := by kernel_rfl
theorem k7 : memoB Try.prog tb [] 100000 100 m7 = true := by kernel_rfl
theorem k8 : memoB Try.prog tb [] 100000 100 m8 = true := by kernel_rfl
theorem k9 : memoB Try.prog tb [] 100000 100 m9 = true := by kernel_rfl
theorem k10 : memoB Try.prog tb [] 100000 100 m10 = true := by kernel_rfl
theorem k11 : memoB Try.prog tb [] 100000 100 m11 = true := by kernel_rfl
end Go.Proofs.Ytifhhfeibnpaoaa
