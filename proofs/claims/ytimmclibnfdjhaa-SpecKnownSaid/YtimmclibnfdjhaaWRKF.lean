/- The whole call, run. -/
import Derived.Test.YtimmclibnfdjhaaSlV13
import Derived.KernelRfl
import Derived.Test.YtimmclibnfdjhaaProg
import Derived.Test.YtimmclibnfdjhaaWRM
namespace Go.Proofs.Ytimmclibnfdjhaa
open Go Go.SL
theorem kf6 : closedB Try.prog tb [m5, m8, m7, m12, m10, m6, m3, m9, m11, m4, m1, m2] 100000 100 6 [] = true := by kernel_rfl
end Go.Proofs.Ytimmclibnfdjhaa
