/- A closed call, run by the kernel. -/
import Derived.Test.YtifhhfeibnpaoaaWRO
import Derived.Test.YtifhhfeibnpaoaaWRKF
import Derived.Test.YtifhhfeibnpaoaaWRK0
import Derived.Test.YtifhhfeibnpaoaaWRK1
import Derived.Test.YtifhhfeibnpaoaaWRK2
import Derived.Test.YtifhhfeibnpaoaaWRK3
namespace Go.Proofs.Ytifhhfeibnpaoaa
open Go Go.SL
theorem ok0 : MemoOk Try.prog m0 := memo_ok tb_ok (memosOk_nil) k0
theorem ok1 : MemoOk Try.prog m1 := memo_ok tb_ok (memosOk_nil) k1
theorem ok2 : MemoOk Try.prog m2 := memo_ok tb_ok (memosOk_nil) k2
theorem ok3 : MemoOk Try.prog m3 := memo_ok tb_ok (memosOk_nil) k3
theorem ok4 : MemoOk Try.prog m4 := memo_ok tb_ok (memosOk_nil) k4
theorem ok5 : MemoOk Try.prog m5 := memo_ok tb_ok (memosOk_nil) k5
theorem ok6 : MemoOk Try.prog m6 := memo_ok tb_ok (memosOk_nil) k6
theorem ok7 : MemoOk Try.prog m7 := memo_ok tb_ok (memosOk_nil) k7
theorem ok8 : MemoOk Try.prog m8 := memo_ok tb_ok (memosOk_nil) k8
theorem ok9 : MemoOk Try.prog m9 := memo_ok tb_ok (memosOk_nil) k9
theorem ok10 : MemoOk Try.prog m10 := memo_ok tb_ok (memosOk_nil) k10
theorem ok11 : MemoOk Try.prog m11 := memo_ok tb_ok (memosOk_nil) k11
theorem ok12 : MemoOk Try.prog m12 := memo_ok tb_ok (memosOk_nil) k12
theorem ok13 : MemoOk Try.prog m13 := memo_ok tb_ok (memosOk_nil) k13
theorem ok14 : MemoOk Try.prog m14 := memo_ok tb_ok (memosOk_nil) k14
theorem ok15 : MemoOk Try.prog m15 := memo_ok tb_ok (memosOk_nil) k15
theorem ok16 : MemoOk Try.prog m16 := memo_ok tb_ok (memosOk_nil) k16
theorem ok17 : MemoOk Try.prog m17 := memo_ok tb_ok (memosOk_nil) k17
theorem ok18 : MemoOk Try.prog m18 := memo_ok tb_ok (memosOk_nil) k18
theorem ok19 : MemoOk Try.prog m19 := memo_ok tb_ok (memosOk_nil) k19
theorem ok20 : MemoOk Try.prog m20 := memo_ok tb_ok (memosOk_nil) k20
theorem ok21 : MemoOk Try.prog m21 := memo_ok tb_ok (memosOk_nil) k21
theorem ok22 : MemoOk Try.prog m22 := memo_ok tb_ok (memosOk_nil) k22
theorem ok23 : MemoOk Try.prog m23 := memo_ok tb_ok (memosOk_nil) k23
theorem ok24 : MemoOk Try.prog m24 := memo_ok tb_ok (memosOk_nil) k24
theorem ok25 : MemoOk Try.prog m25 := memo_ok tb_ok (memosOk_nil) k25
theorem ok26 : MemoOk Try.prog m26 := memo_ok tb_ok (memosOk_nil) k26
theorem ok27 : MemoOk Try.prog m27 := memo_ok tb_ok (memosOk_nil) k27
theorem ok28 : MemoOk Try.prog m28 := memo_ok tb_ok (memosOk_nil) k28
theorem ok29 : MemoOk Try.prog m29 := memo_ok tb_ok (memosOk_nil) k29
theorem ok30 : MemoOk Try.prog m30 := memo_ok tb_ok (memosOk_nil) k30
theorem ok31 : MemoOk Try.prog m31 := memo_ok tb_ok (memosOk_cons ok24 (memosOk_cons ok23 (memosOk_cons ok22 (memosOk_cons ok21 (memosOk_cons ok20 (memosOk_cons ok19 (memosOk_nil))))))) k31
theorem ok32 : MemoOk Try.prog m32 := memo_ok tb_ok (memosOk_cons ok31 (memosOk_cons ok30 (memosOk_cons ok29 (memosOk_cons ok28 (memosOk_cons ok27 (memosOk_cons ok26 (memosOk_cons ok25 (memosOk_nil)))))))) k32
theorem ok33 : MemoOk Try.prog m33 := memo_ok tb_ok (memosOk_cons ok7 (memosOk_cons ok6 (memosOk_cons ok5 (memosOk_cons ok4 (memosOk_cons ok3 (memosOk_cons ok2 (memosOk_cons ok1 (memosOk_cons ok0 (memosOk_cons ok8 (memosOk_cons ok9 (memosOk_cons ok10 (memosOk_cons ok11 (memosOk_cons ok12 (memosOk_cons ok13 (memosOk_cons ok14 (memosOk_cons ok15 (memosOk_nil))))))))))))))))) k33
theorem ok34 : MemoOk Try.prog m34 := memo_ok tb_ok (memosOk_cons ok18 (memosOk_cons ok16 (memosOk_cons ok17 (memosOk_nil)))) k34
theorem ok35 : MemoOk Try.prog m35 := memo_ok tb_ok (memosOk_nil) k35
theorem ok36 : MemoOk Try.prog m36 := memo_ok tb_ok (memosOk_nil) k36
theorem ok37 : MemoOk Try.prog m37 := memo_ok tb_ok (memosOk_nil) k37
theorem run6 : PFn Try.prog 6 [] [] (.bool true) := closed_true tb_ok (memosOk_cons ok33 (memosOk_cons ok35 (memosOk_cons ok36 (memosOk_cons ok37 (memosOk_cons ok34 (memosOk_cons ok32 (memosOk_nil))))))) kf6
end Go.Proofs.Ytifhhfeibnpaoaa
