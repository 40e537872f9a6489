/- The orders of regions are right ones. -/
import Derived.Test.YtgcajldkegdllaaSlV13
import Derived.KernelRfl
import Derived.Test.YtgcajldkegdllaaProg
import Derived.Test.YtgcajldkegdllaaWRT
namespace Go.Proofs.Ytgcajldkegdllaa
open Go Go.SL
theorem r10 : regF Try.prog ((10 : Nat), o10) = true := by kernel_rfl
theorem r21 : regF Try.prog ((21 : Nat), o21) = true := by kernel_rfl
theorem r31 : regF Try.prog ((31 : Nat), o31) = true := by kernel_rfl
theorem r36 : regF Try.prog ((36 : Nat), o36) = true := by kernel_rfl
theorem tb_ok : TablesOk Try.prog tb := tablesOk_cons r10 (tablesOk_cons r21 (tablesOk_cons r31 (tablesOk_cons r36 (tablesOk_nil))))
end Go.Proofs.Ytgcajldkegdllaa
