/- Calls, run. -/
import Derived.Test.YtifhhfeibnpaoaaSlV13
import Derived.KernelRfl
import Derived.Test.YtifhhfeibnpaoaaProg
import Derived.Test.YtifhhfeibnpaoaaWRM
import Derived.Test.YtifhhfeibnpaoaaWRM1
namespace Go.Proofs.Ytifhhfeibnpaoaa
open Go Go.SL
theorem k26 : memoB Try.prog tb [] 100000 100 m26 = true := by kernel_rfl
theorem k27 : memoB Try.prog tb [] 100000 100 m27 = true := by kernel_rfl
theorem k28 : memoB Try.prog tb [] 100000 100 m28 = true := by kernel_rfl
theorem k29 : memoB Try.prog tb [] 100000 100 m29 = true := by kernel_rfl
theorem k30 : memoB Try.prog tb [] 100000 100 m30 = true := by kernel_rfl
theorem k31 : memoB Try.prog tb [m24, m23, m22, m21, m20, m19] 100000 100 m31 = true := by kernel_rfl
theorem k32 : memoB Try.prog tb [m31, m30, m29, m28, m27, m26, m25] 100000 100 m32 = true := by kernel_rfl
theorem k33 : memoB Try.prog tb [m7, m6, m5, m4, m3, m2, m1, m0, m8, m9, m10, m11, m12, m13, m14, m15] 100000 100 m33 = true := by kernel_rfl
end Go.Proofs.Ytifhhfeibnpaoaa
