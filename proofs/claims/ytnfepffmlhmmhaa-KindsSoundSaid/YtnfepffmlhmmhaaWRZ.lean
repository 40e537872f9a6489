/- Orders of regions. -/
import Derived.Test.YtnfepffmlhmmhaaSlG7
import Derived.KernelRfl
import Derived.Test.YtnfepffmlhmmhaaProg
section
namespace Go.Proofs.Ytnfepffmlhmmhaa
open Go Go.SL
def o6 : Orders := [(6, [[.q 0, .q 1, .q 2, .q 3, .q 4, .q 5, .q 6, .q 7, .q 8, .q 9, .q 10, .q 11, .q 12, .h false 13, .h false 14, .q 15, .q 16]])]
def o8 : Orders := [(3, [[.q 0, .q 3, .an 7, .q 1, .q 4, .h false 2, .h false 5, .q 6, .rv 7, .h true 8]])]
def o11 : Orders := [(5, [[.q 0, .q 1, .q 2, .q 3, .q 6, .q 4, .q 7, .h false 5, .q 8, .q 9, .q 10, .q 11, .q 12, .q 13]]), (12, [[.q 0, .q 1, .q 2, .q 3, .q 5, .q 7, .q 4, .q 8, .q 6, .h false 9, .q 10, .q 11, .q 12, .q 13, .q 14, .h false 15, .q 16, .q 17]]), (16, [[.q 0, .q 3, .q 5, .q 6, .q 8, .an 12, .q 1, .q 4, .q 9, .q 7, .h false 2, .h true 10, .q 11, .rv 12, .h true 13]]), (19, [[.q 0, .q 2, .q 4, .q 6, .q 1, .q 3, .q 5, .q 7, .q 8, .q 9, .h true 10]])]
def o14 : Orders := [(1, [[.q 0, .q 3, .an 8, .an 1, .rv 1, .h false 2, .h false 4, .q 5, .q 6, .f 7, .rv 8, .h true 9, .q 10]])]
def o15 : Orders := [(6, [[.q 0, .q 1, .q 4, .q 5, .q 2, .q 6, .q 3, .q 7, .q 8]])]
def o19 : Orders := [(6, [[.an 0, .q 1, .q 2, .q 5, .q 7, .q 9, .q 10, .q 11, .q 14, .q 15, .q 16, .q 19, .q 22, .q 23, .q 26, .q 27, .q 30, .q 32, .q 34, .q 36, .q 38, .an 39, .q 41, .q 44, .q 45, .q 48, .q 49, .q 52, .q 55, .q 58, .q 61, .q 64, .q 67, .q 53, .q 56, .q 59, .q 62, .q 65, .q 68, .fi 6 0, .fi 8 0, .fi 31 0, .fi 33 0, .fi 35 0, .fi 37 0, .fi 54 0, .fi 57 0, .fi 60 0, .fi 63 0, .fi 66 0, .fi 69 0, .h false 3, .fi 4 0, .h false 12, .fi 13 0, .h false 17, .fi 18 0, .h false 20, .fi 21 0, .h false 24, .fi 25 0, .h false 28, .fi 29 0, .rv 39, .h false 40, .h false 42, .fi 43 0, .h false 46, .fi 47 0, .h false 50, .fi 51 0, .rv 0, .q 70, .q 71]])]
def o30 : Orders := [(1, [[.q 0, .q 1, .q 5, .q 2, .q 6, .q 3, .q 7, .q 8, .an 9, .h false 4, .rv 9, .h false 10, .q 11, .h true 12]])]
def tb : OTabs := [((6 : Nat), o6), ((8 : Nat), o8), ((11 : Nat), o11), ((14 : Nat), o14), ((15 : Nat), o15), ((19 : Nat), o19), ((30 : Nat), o30)]
end Go.Proofs.Ytnfepffmlhmmhaa
end
section
/- The orders of regions are right ones. -/
namespace Go.Proofs.Ytnfepffmlhmmhaa
open Go Go.SL
theorem r6 : regF Try.prog ((6 : Nat), o6) = true := by kernel_rfl
theorem r8 : regF Try.prog ((8 : Nat), o8) = true := by kernel_rfl
theorem r11 : regF Try.prog ((11 : Nat), o11) = true := by kernel_rfl
theorem r14 : regF Try.prog ((14 : Nat), o14) = true := by kernel_rfl
theorem r15 : regF Try.prog ((15 : Nat), o15) = true := by kernel_rfl
theorem r19 : regF Try.prog ((19 : Nat), o19) = true := by kernel_rfl
theorem r30 : regF Try.prog ((30 : Nat), o30) = true := by kernel_rfl
theorem tb_ok : TablesOk Try.prog tb := tablesOk_cons r6 (tablesOk_cons r8 (tablesOk_cons r11 (tablesOk_cons r14 (tablesOk_cons r15 (tablesOk_cons r19 (tablesOk_cons r30 (tablesOk_nil)))))))
end Go.Proofs.Ytnfepffmlhmmhaa
end
section
/- What calls come to. -/
namespace Go.Proofs.Ytnfepffmlhmmhaa
open Go Go.SL
end Go.Proofs.Ytnfepffmlhmmhaa
end
section
/- The whole call, run. -/
namespace Go.Proofs.Ytnfepffmlhmmhaa
open Go Go.SL
theorem kf6 : closedB Try.prog tb [] 100000 100 6 [] = true := by kernel_rfl
end Go.Proofs.Ytnfepffmlhmmhaa
end
section
/- A closed call, run by the kernel. -/
namespace Go.Proofs.Ytnfepffmlhmmhaa
open Go Go.SL
theorem run6 : PFn Try.prog 6 [] [] (.bool true) := closed_true tb_ok (memosOk_nil) kf6
end Go.Proofs.Ytnfepffmlhmmhaa
end
