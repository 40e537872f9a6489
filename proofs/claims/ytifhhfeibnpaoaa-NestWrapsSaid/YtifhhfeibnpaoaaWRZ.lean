/- Orders of regions. -/
import Derived.Test.YtifhhfeibnpaoaaSlG7
import Derived.KernelRfl
import Derived.Test.YtifhhfeibnpaoaaProg
section
namespace Go.Proofs.Ytifhhfeibnpaoaa
open Go Go.SL
def o13 : Orders := [(6, [[.q 0, .q 1, .q 4, .q 5, .q 2, .q 6, .q 3, .q 7, .q 8]])]
def o18 : Orders := [(5, [[.q 0, .q 2, .q 3, .q 7, .q 8, .q 1, .q 4, .q 9, .q 5, .q 10, .q 6, .q 11, .q 12, .an 13, .rv 13, .h true 14, .q 15, .h true 16]])]
def o40 : Orders := [(7, [[.q 1, .q 2, .h false 0, .q 3, .q 4, .q 5, .q 6, .q 7, .q 8]])]
def o47 : Orders := [(6, [[.q 0, .q 1, .q 4, .q 5, .q 2, .q 6, .q 3, .q 7, .q 8, .q 9]])]
def o62 : Orders := [(4, [[.q 0, .q 1, .q 2, .q 3, .q 4, .q 5, .q 8, .q 9, .q 6, .q 10, .q 7, .q 11, .q 12, .h false 13, .q 14]])]
def tb : OTabs := [((13 : Nat), o13), ((18 : Nat), o18), ((40 : Nat), o40), ((47 : Nat), o47), ((62 : Nat), o62)]
end Go.Proofs.Ytifhhfeibnpaoaa
end
section
/- The orders of regions are right ones. -/
namespace Go.Proofs.Ytifhhfeibnpaoaa
open Go Go.SL
theorem r13 : regF Try.prog ((13 : Nat), o13) = true := by kernel_rfl
theorem r18 : regF Try.prog ((18 : Nat), o18) = true := by kernel_rfl
theorem r40 : regF Try.prog ((40 : Nat), o40) = true := by kernel_rfl
theorem r47 : regF Try.prog ((47 : Nat), o47) = true := by kernel_rfl
theorem r62 : regF Try.prog ((62 : Nat), o62) = true := by kernel_rfl
theorem tb_ok : TablesOk Try.prog tb := tablesOk_cons r13 (tablesOk_cons r18 (tablesOk_cons r40 (tablesOk_cons r47 (tablesOk_cons r62 (tablesOk_nil)))))
end Go.Proofs.Ytifhhfeibnpaoaa
end
section
/- What calls come to. -/
namespace Go.Proofs.Ytifhhfeibnpaoaa
open Go Go.SL
def m0 : Memo := ⟨19, [(.agg [(.lit (.slice none 0 0)), (.lit (.int .i64 (Int.ofNat 8))), (.lit (.int .i64 (Int.ofNat 8))), (.slc 561 0 6 (.o 0 6 3))]), (.lit (.int .i64 (Int.ofNat 3)))], [(561, (.cells [(.lit (.int .i64 (Int.ofNat 2))), (.lit (.int .i64 (Int.ofNat 1))), (.lit (.int .i64 (Int.ofNat 0))), (.lit (.int .i64 (Int.ofNat 12))), (.lit (.int .i64 (Int.ofNat 0))), (.lit (.int .i64 (Int.ofNat 0))), (.lit (.int .i64 (Int.ofNat 2))), (.lit (.int .i64 (Int.ofNat 2))), (.lit (.int .i64 (Int.ofNat 0))), (.lit (.int .i64 (Int.ofNat 13))), (.lit (.int .i64 (Int.ofNat 0))), (.lit (.int .i64 (Int.ofNat 0))), (.lit (.int .i64 (Int.ofNat 0))), (.lit (.int .i64 (Int.ofNat 0))), (.lit (.int .i64 (Int.ofNat 0))), (.lit (.int .i64 (Int.ofNat 20))), (.lit (.int .i64 (Int.ofNat 0))), (.lit (.int .i64 (Int.ofNat 0)))] 29))], 562, (.lit (.bool true)), [(561, (.cells [(.lit (.int .i64 (Int.ofNat 2))), (.lit (.int .i64 (Int.ofNat 1))), (.lit (.int .i64 (Int.ofNat 0))), (.lit (.int .i64 (Int.ofNat 12))), (.lit (.int .i64 (Int.ofNat 0))), (.lit (.int .i64 (Int.ofNat 0))), (.lit (.int .i64 (Int.ofNat 2))), (.lit (.int .i64 (Int.ofNat 2))), (.lit (.int .i64 (Int.ofNat 0))), (.lit (.int .i64 (Int.ofNat 13))), (.lit (.int .i64 (Int.ofNat 0))), (.lit (.int .i64 (Int.ofNat 0))), (.lit (.int .i64 (Int.ofNat 0))), (.lit (.int .i64 (Int.ofNat 0))), (.lit (.int .i64 (Int.ofNat 0))), (.lit (.int .i64 (Int.ofNat 20))), (.lit (.int .i64 (Int.ofNat 0))), (.lit (.int .i64 (Int.ofNat 0)))] 29))], 821⟩
def m1 : Memo := ⟨19, [(.agg [(.lit (.slice none 0 0)), (.lit (.int .i64 (Int.ofNat 8))), (.lit (.int .i64 (Int.ofNat 8))), (.slc 873 0 6 (.o 0 6 3))]), (.lit (.int .i64 (Int.ofNat 3)))], [(873, (.cells [(.lit (.int .i64 (Int.ofNat 2))), (.lit (.int .i64 (Int.ofNat 1))), (.lit (.int .i64 (Int.ofNat 0))), (.lit (.int .i64 (Int.ofNat 12))), (.lit (.int .i64 (Int.ofNat 0))), (.lit (.int .i64 (Int.ofNat 0))), (.lit (.int .i64 (Int.ofNat 1))), (.lit (.int .i64 (Int.ofNat 0))), (.lit (.int .i64 (Int.ofNat 0))), (.lit (.int .i64 (Int.ofNat 3))), (.lit (.int .i64 (Int.ofNat 1))), (.lit (.int .i64 (Int.ofNat 0))), (.lit (.int .i64 (Int.ofNat 2))), (.lit (.int .i64 (Int.ofNat 1))), (.lit (.int .i64 (Int.ofNat 0))), (.lit (.int .i64 (Int.ofNat 13))), (.lit (.int .i64 (Int.ofNat 0))), (.lit (.int .i64 (Int.ofNat 0)))] 29))], 874, (.lit (.bool true)), [(873, (.cells [(.lit (.int .i64 (Int.ofNat 2))), (.lit (.int .i64 (Int.ofNat 1))), (.lit (.int .i64 (Int.ofNat 0))), (.lit (.int .i64 (Int.ofNat 12))), (.lit (.int .i64 (Int.ofNat 0))), (.lit (.int .i64 (Int.ofNat 0))), (.lit (.int .i64 (Int.ofNat 1))), (.lit (.int .i64 (Int.ofNat 0))), (.lit (.int .i64 (Int.ofNat 0))), (.lit (.int .i64 (Int.ofNat 3))), (.lit (.int .i64 (Int.ofNat 1))), (.lit (.int .i64 (Int.ofNat 0))), (.lit (.int .i64 (Int.ofNat 2))), (.lit (.int .i64 (Int.ofNat 1))), (.lit (.int .i64 (Int.ofNat 0))), (.lit (.int .i64 (Int.ofNat 13))), (.lit (.int .i64 (Int.ofNat 0))), (.lit (.int .i64 (Int.ofNat 0)))] 29))], 1055⟩
def m2 : Memo := ⟨19, [(.agg [(.lit (.slice none 0 0)), (.lit (.int .i64 (Int.ofNat 8))), (.lit (.int .i64 (Int.ofNat 8))), (.slc 373 0 4 (.o 0 4 3))]), (.lit (.int .i64 (Int.ofNat 3)))], [(373, (.cells [(.lit (.int .i64 (Int.ofNat 2))), (.lit (.int .i64 (Int.ofNat 1))), (.lit (.int .i64 (Int.ofNat 0))), (.lit (.int .i64 (Int.ofNat 12))), (.lit (.int .i64 (Int.ofNat 0))), (.lit (.int .i64 (Int.ofNat 0))), (.lit (.int .i64 (Int.ofNat 0))), (.lit (.int .i64 (Int.ofNat 0))), (.lit (.int .i64 (Int.ofNat 0))), (.lit (.int .i64 (Int.ofNat 20))), (.lit (.int .i64 (Int.ofNat 0))), (.lit (.int .i64 (Int.ofNat 0)))] 29))], 374, (.lit (.bool true)), [(373, (.cells [(.lit (.int .i64 (Int.ofNat 2))), (.lit (.int .i64 (Int.ofNat 1))), (.lit (.int .i64 (Int.ofNat 0))), (.lit (.int .i64 (Int.ofNat 12))), (.lit (.int .i64 (Int.ofNat 0))), (.lit (.int .i64 (Int.ofNat 0))), (.lit (.int .i64 (Int.ofNat 0))), (.lit (.int .i64 (Int.ofNat 0))), (.lit (.int .i64 (Int.ofNat 0))), (.lit (.int .i64 (Int.ofNat 20))), (.lit (.int .i64 (Int.ofNat 0))), (.lit (.int .i64 (Int.ofNat 0)))] 29))], 541⟩
end Go.Proofs.Ytifhhfeibnpaoaa
end
section
/- Calls, run. -/
namespace Go.Proofs.Ytifhhfeibnpaoaa
open Go Go.SL
theorem k0 : memoB Try.prog tb [] 100000 100 m0 = true := by kernel_rfl
theorem k1 : memoB Try.prog tb [] 100000 100 m1 = true := by kernel_rfl
theorem k2 : memoB Try.prog tb [] 100000 100 m2 = true := by kernel_rfl
end Go.Proofs.Ytifhhfeibnpaoaa
end
section
/- The whole call, run. -/
namespace Go.Proofs.Ytifhhfeibnpaoaa
open Go Go.SL
theorem kf14 : closedB Try.prog tb [m2, m0, m1] 100000 100 14 [] = true := by kernel_rfl
end Go.Proofs.Ytifhhfeibnpaoaa
end
section
/- A closed call, run by the kernel. -/
namespace Go.Proofs.Ytifhhfeibnpaoaa
open Go Go.SL
theorem ok0 : MemoOk Try.prog m0 := memo_ok tb_ok (memosOk_nil) k0
theorem ok1 : MemoOk Try.prog m1 := memo_ok tb_ok (memosOk_nil) k1
theorem ok2 : MemoOk Try.prog m2 := memo_ok tb_ok (memosOk_nil) k2
theorem run14 : PFn Try.prog 14 [] [] (.bool true) := closed_true tb_ok (memosOk_cons ok2 (memosOk_cons ok0 (memosOk_cons ok1 (memosOk_nil)))) kf14
end Go.Proofs.Ytifhhfeibnpaoaa
end
