/- A closed call, run by the kernel. -/
import Derived.Test.YtgcajldkegdllaaWRO
import Derived.Test.YtgcajldkegdllaaWRKF
import Derived.Test.YtgcajldkegdllaaWRK0
import Derived.Test.YtgcajldkegdllaaWRK1
namespace Go.Proofs.Ytgcajldkegdllaa
open Go Go.SL
theorem ok0 : MemoOk Try.prog m0 := memo_ok tb_ok (memosOk_nil) k0
theorem ok1 : MemoOk Try.prog m1 := memo_ok tb_ok (memosOk_nil) k1
theorem ok2 : MemoOk Try.prog m2 := memo_ok tb_ok (memosOk_cons ok1 (memosOk_cons ok0 (memosOk_nil))) k2
theorem run6 : PFn Try.prog 6 [] [] (.bool true) := closed_true tb_ok (memosOk_cons ok2 (memosOk_nil)) kf6
end Go.Proofs.Ytgcajldkegdllaa
