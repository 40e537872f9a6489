/- Small numbers: remainders, and wrapping. -/
import Derived.Test.YtimmclibnfdjhaaSlG9
set_option linter.unusedVariables false
set_option linter.unusedSimpArgs false
set_option linter.unusedSectionVars false
namespace Go.Proofs.Ytimmclibnfdjhaa
open Go.SL
theorem tm {a : Int} {k : Nat} (h : 0 ≤ a) : a.tmod (k : Int) = ((a.toNat % k : Nat) : Int) := by
  obtain ⟨n, rfl⟩ := Int.eq_ofNat_of_zero_le h
  simp [Int.tmod]
theorem wrapN {n : Nat} (h : n ≤ 1000) : IntKind.i64.wrap (n : Int) = (n : Int) := wrap64_id (by omega) (by omega)
end Go.Proofs.Ytimmclibnfdjhaa
