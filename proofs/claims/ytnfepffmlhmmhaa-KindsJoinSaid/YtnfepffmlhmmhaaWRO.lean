/- The orders of regions are right ones. -/
import Derived.Test.YtnfepffmlhmmhaaSlV13
import Derived.KernelRfl
import Derived.Test.YtnfepffmlhmmhaaProg
import Derived.Test.YtnfepffmlhmmhaaWRT
namespace Go.Proofs.Ytnfepffmlhmmhaa
open Go Go.SL
theorem r6 : regF Try.prog ((6 : Nat), o6) = true := by kernel_rfl
theorem r8 : regF Try.prog ((8 : Nat), o8) = true := by kernel_rfl
theorem r11 : regF Try.prog ((11 : Nat), o11) = true := by kernel_rfl
theorem r14 : regF Try.prog ((14 : Nat), o14) = true := by kernel_rfl
theorem r15 : regF Try.prog ((15 : Nat), o15) = true := by kernel_rfl
theorem r19 : regF Try.prog ((19 : Nat), o19) = true := by kernel_rfl
theorem r30 : regF Try.prog ((30 : Nat), o30) = true := by kernel_rfl
theorem tb_ok : TablesOk Try.prog tb := tablesOk_cons r6 (tablesOk_cons r8 (tablesOk_cons r11 (tablesOk_cons r14 (tablesOk_cons r15 (tablesOk_cons r19 (tablesOk_cons r30 (tablesOk_nil)))))))
end Go.Proofs.Ytnfepffmlhmmhaa
