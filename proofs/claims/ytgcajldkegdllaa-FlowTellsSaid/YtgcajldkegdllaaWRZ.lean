/- Orders of regions. -/
import Derived.Test.YtgcajldkegdllaaSlG7
import Derived.KernelRfl
import Derived.Test.YtgcajldkegdllaaProg
section
namespace Go.Proofs.Ytgcajldkegdllaa
open Go Go.SL
def o10 : Orders := [(6, [[.q 0, .q 1, .q 4, .q 5, .q 2, .q 6, .q 3, .q 7, .q 8]])]
def o21 : Orders := [(8, [[.q 0, .q 1, .q 6, .q 2, .q 3, .h false 4, .q 5]])]
def o31 : Orders := [(6, [[.q 0, .q 1, .q 4, .q 5, .q 2, .q 6, .q 3, .q 7, .q 8, .q 9]]), (11, [[.q 0, .q 1, .q 4, .q 5, .q 2, .q 6, .q 3, .q 7, .q 8, .q 9]])]
def o36 : Orders := [(4, [[.q 0, .q 1, .q 2, .q 3, .q 4, .q 5, .q 8, .q 9, .q 6, .q 10, .q 7, .q 11, .q 12, .h false 13, .q 14]]), (6, [[.q 0, .q 1, .f 2, .f 3, .q 5, .q 6, .q 10, .q 11, .f 4, .q 7, .q 12, .q 8, .q 13, .q 9, .q 14, .h true 15, .q 16, .h true 17]])]
def tb : OTabs := [((10 : Nat), o10), ((21 : Nat), o21), ((31 : Nat), o31), ((36 : Nat), o36)]
end Go.Proofs.Ytgcajldkegdllaa
end
section
/- The orders of regions are right ones. -/
namespace Go.Proofs.Ytgcajldkegdllaa
open Go Go.SL
theorem r10 : regF Try.prog ((10 : Nat), o10) = true := by kernel_rfl
theorem r21 : regF Try.prog ((21 : Nat), o21) = true := by kernel_rfl
theorem r31 : regF Try.prog ((31 : Nat), o31) = true := by kernel_rfl
theorem r36 : regF Try.prog ((36 : Nat), o36) = true := by kernel_rfl
theorem tb_ok : TablesOk Try.prog tb := tablesOk_cons r10 (tablesOk_cons r21 (tablesOk_cons r31 (tablesOk_cons r36 (tablesOk_nil))))
end Go.Proofs.Ytgcajldkegdllaa
end
section
/- What calls come to. -/
namespace Go.Proofs.Ytgcajldkegdllaa
open Go Go.SL
end Go.Proofs.Ytgcajldkegdllaa
end
section
/- The whole call, run. -/
namespace Go.Proofs.Ytgcajldkegdllaa
open Go Go.SL
theorem kf18 : closedB Try.prog tb [] 100000 100 18 [] = true := by kernel_rfl
end Go.Proofs.Ytgcajldkegdllaa
end
section
/- A closed call, run by the kernel. -/
namespace Go.Proofs.Ytgcajldkegdllaa
open Go Go.SL
theorem run18 : PFn Try.prog 18 [] [] (.bool true) := closed_true tb_ok (memosOk_nil) kf18
end Go.Proofs.Ytgcajldkegdllaa
end
