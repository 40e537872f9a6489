/- A closed call, run by the kernel. -/
import Derived.Test.YtimmclibnfdjhaaWRO
import Derived.Test.YtimmclibnfdjhaaWRKF
import Derived.Test.YtimmclibnfdjhaaWRK0
import Derived.Test.YtimmclibnfdjhaaWRK1
import Derived.Test.YtimmclibnfdjhaaWRK2
import Derived.Test.YtimmclibnfdjhaaWRK3
import Derived.Test.YtimmclibnfdjhaaWRK4
namespace Go.Proofs.Ytimmclibnfdjhaa
open Go Go.SL
theorem ok0 : MemoOk Try.prog m0 := memo_ok tb_ok (memosOk_nil) k0
theorem ok1 : MemoOk Try.prog m1 := memo_ok tb_ok (memosOk_nil) k1
theorem ok2 : MemoOk Try.prog m2 := memo_ok tb_ok (memosOk_cons ok0 (memosOk_nil)) k2
theorem ok3 : MemoOk Try.prog m3 := memo_ok tb_ok (memosOk_nil) k3
theorem ok4 : MemoOk Try.prog m4 := memo_ok tb_ok (memosOk_nil) k4
theorem ok5 : MemoOk Try.prog m5 := memo_ok tb_ok (memosOk_nil) k5
theorem ok6 : MemoOk Try.prog m6 := memo_ok tb_ok (memosOk_nil) k6
theorem ok7 : MemoOk Try.prog m7 := memo_ok tb_ok (memosOk_nil) k7
theorem ok8 : MemoOk Try.prog m8 := memo_ok tb_ok (memosOk_nil) k8
theorem ok9 : MemoOk Try.prog m9 := memo_ok tb_ok (memosOk_nil) k9
theorem ok10 : MemoOk Try.prog m10 := memo_ok tb_ok (memosOk_nil) k10
theorem ok11 : MemoOk Try.prog m11 := memo_ok tb_ok (memosOk_nil) k11
theorem ok12 : MemoOk Try.prog m12 := memo_ok tb_ok (memosOk_nil) k12
theorem run6 : PFn Try.prog 6 [] [] (.bool true) := closed_true tb_ok (memosOk_cons ok5 (memosOk_cons ok8 (memosOk_cons ok7 (memosOk_cons ok12 (memosOk_cons ok10 (memosOk_cons ok6 (memosOk_cons ok3 (memosOk_cons ok9 (memosOk_cons ok11 (memosOk_cons ok4 (memosOk_cons ok1 (memosOk_cons ok2 (memosOk_nil))))))))))))) kf6
end Go.Proofs.Ytimmclibnfdjhaa
