/- The orders of regions are right ones. -/
import Derived.Test.YtifhhfeibnpaoaaSlV13
import Derived.KernelRfl
import Derived.Test.YtifhhfeibnpaoaaProg
import Derived.Test.YtifhhfeibnpaoaaWRT
namespace Go.Proofs.Ytifhhfeibnpaoaa
open Go Go.SL
theorem r13 : regF Try.prog ((13 : Nat), o13) = true := by kernel_rfl
theorem r18 : regF Try.prog ((18 : Nat), o18) = true := by kernel_rfl
theorem r40 : regF Try.prog ((40 : Nat), o40) = true := by kernel_rfl
theorem r47 : regF Try.prog ((47 : Nat), o47) = true := by kernel_rfl
theorem r62 : regF Try.prog ((62 : Nat), o62) = true := by kernel_rfl
theorem tb_ok : TablesOk Try.prog tb := tablesOk_cons r13 (tablesOk_cons r18 (tablesOk_cons r40 (tablesOk_cons r47 (tablesOk_cons r62 (tablesOk_nil)))))
end Go.Proofs.Ytifhhfeibnpaoaa
