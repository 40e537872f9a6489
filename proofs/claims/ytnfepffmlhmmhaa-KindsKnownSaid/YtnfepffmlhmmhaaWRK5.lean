/- Calls, run. -/
import Derived.Test.YtnfepffmlhmmhaaSlV13
import Derived.KernelRfl
import Derived.Test.YtnfepffmlhmmhaaProg
import Derived.Test.YtnfepffmlhmmhaaWRM
namespace Go.Proofs.Ytnfepffmlhmmhaa
open Go Go.SL
theorem k50 : memoB Try.prog tb [] 100000 100 m50 = true := by kernel_rfl
theorem k51 : memoB Try.prog tb [] 100000 100 m51 = true := by kernel_rfl
theorem k52 : memoB Try.prog tb [] 100000 100 m52 = true := by kernel_rfl
theorem k53 : memoB Try.prog tb [] 100000 100 m53 = true := by kernel_rfl
theorem k54 : memoB Try.prog tb [] 100000 100 m54 = true := by kernel_rfl
theorem k55 : memoB Try.prog tb [] 100000 100 m55 = true := by kernel_rfl
theorem k56 : memoB Try.prog tb [] 100000 100 m56 = true := by kernel_rfl
theorem k57 : memoB Try.prog tb [] 100000 100 m57 = true := by kernel_rfl
theorem k58 : memoB Try.prog tb [] 100000 100 m58 = true := by kernel_rfl
theorem k59 : memoB Try.prog tb [] 100000 100 m59 = true := by kernel_rfl
theorem k60 : memoB Try.prog tb [] 100000 100 m60 = true := by kernel_rfl
theorem k61 : memoB Try.prog tb [] 100000 100 m61 = true := by kernel_rfl
end Go.Proofs.Ytnfepffmlhmmhaa
