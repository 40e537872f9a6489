/- The whole call, run. -/
import Derived.Test.YtnfepffmlhmmhaaSlV13
import Derived.KernelRfl
import Derived.Test.YtnfepffmlhmmhaaProg
import Derived.Test.YtnfepffmlhmmhaaWRM
namespace Go.Proofs.Ytnfepffmlhmmhaa
open Go Go.SL
theorem kf5 : closedB Try.prog tb [m39, m61, m21, m40, m8, m41, m13, m42, m4, m50, m27, m6, m43, m30, m7, m44, m31, m20, m51, m10, m52, m28, m5, m53, m29, m9, m45, m3, m46, m22, m1, m54, m23, m14, m55, m32, m15, m56, m33, m12, m47, m34, m16, m57, m35, m17, m58, m36, m2, m48, m24, m11, m49, m18, m59, m37, m19, m60, m38, m25, m26, m0] 100000 100 5 [] = true := by kernel_rfl
end Go.Proofs.Ytnfepffmlhmmhaa
