/- The orders of regions are right ones. -/
import Derived.Test.YtimmclibnfdjhaaSlV13
import Derived.KernelRfl
import Derived.Test.YtimmclibnfdjhaaProg
import Derived.Test.YtimmclibnfdjhaaWRT
namespace Go.Proofs.Ytimmclibnfdjhaa
open Go Go.SL
theorem r9 : regF Try.prog ((9 : Nat), o9) = true := by kernel_rfl
theorem r11 : regF Try.prog ((11 : Nat), o11) = true := by kernel_rfl
theorem r12 : regF Try.prog ((12 : Nat), o12) = true := by kernel_rfl
theorem r17 : regF Try.prog ((17 : Nat), o17) = true := by kernel_rfl
theorem r26 : regF Try.prog ((26 : Nat), o26) = true := by kernel_rfl
theorem r27 : regF Try.prog ((27 : Nat), o27) = true := by kernel_rfl
theorem r28 : regF Try.prog ((28 : Nat), o28) = true := by kernel_rfl
theorem r39 : regF Try.prog ((39 : Nat), o39) = true := by kernel_rfl
theorem r40 : regF Try.prog ((40 : Nat), o40) = true := by kernel_rfl
theorem r42 : regF Try.prog ((42 : Nat), o42) = true := by kernel_rfl
theorem r44 : regF Try.prog ((44 : Nat), o44) = true := by kernel_rfl
theorem r48 : regF Try.prog ((48 : Nat), o48) = true := by kernel_rfl
theorem r57 : regF Try.prog ((57 : Nat), o57) = true := by kernel_rfl
theorem tb_ok : TablesOk Try.prog tb := tablesOk_cons r9 (tablesOk_cons r11 (tablesOk_cons r12 (tablesOk_cons r17 (tablesOk_cons r26 (tablesOk_cons r27 (tablesOk_cons r28 (tablesOk_cons r39 (tablesOk_cons r40 (tablesOk_cons r42 (tablesOk_cons r44 (tablesOk_cons r48 (tablesOk_cons r57 (tablesOk_nil)))))))))))))
end Go.Proofs.Ytimmclibnfdjhaa
