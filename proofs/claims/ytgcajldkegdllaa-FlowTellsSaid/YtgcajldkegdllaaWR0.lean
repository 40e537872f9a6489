/- Numbers laid flat are instructions. -/
import Derived.Test.YtgcajldkegdllaaWB
namespace Go.Proofs.Ytgcajldkegdllaa
open Go.SL
theorem flat_of : ∀ (len : Nat) {zs : List Int}, zs.length = len * 3 → ∃ ls : List Ins, ls.length = len ∧ flatI ls = zs.map i64
  | 0, zs, h => ⟨[], rfl, by obtain rfl : zs = [] := List.length_eq_zero_iff.1 (by omega); rfl⟩
  | n + 1, zs, h => by
    match zs, h with
    | a :: b :: c :: zs, h =>
      obtain ⟨ls, h1, h2⟩ := flat_of n (zs := zs) (by simp only [List.length_cons] at h; omega)
      exact ⟨(a, b, c) :: ls, by simp [h1], by simp only [flatI, h2, List.map_cons]⟩
    | [], h => simp at h
    | [_], h => simp only [List.length_cons, List.length_nil] at h; omega
    | [_, _], h => simp only [List.length_cons, List.length_nil] at h; omega
end Go.Proofs.Ytgcajldkegdllaa
