/- The law FlowClosed, of numbers laid flat. -/
import Derived.Test.YtgcajldkegdllaaWL4
namespace Go.Proofs.Ytgcajldkegdllaa
open Go.SL
theorem flat_of : ∀ (len : Nat) {zs : List Int}, zs.length = len * 3 → ∃ ls : List Ins, ls.length = len ∧ flatI ls = zs.map i64
  | 0, zs, h => ⟨[], rfl, by obtain rfl : zs = [] := List.length_eq_zero_iff.1 (by omega); rfl⟩
  | n + 1, zs, h => by
    match zs, h with
    | a :: b :: c :: zs, h =>
      obtain ⟨ls, h1, h2⟩ := flat_of n (zs := zs) (by simp only [List.length_cons] at h; omega)
      exact ⟨(a, b, c) :: ls, by simp [h1], by simp only [flatI, h2, List.map_cons]⟩
    | [], h => simp at h
    | [_], h => simp only [List.length_cons, List.length_nil] at h; omega
    | [_, _], h => simp only [List.length_cons, List.length_nil] at h; omega
theorem FlowClosed_flat (J : Heap) (lb : Option Addr) (ll lc : Nat) (zs : List Int) [s : Sl J lb (zs.map i64)] (hl : zs.length = ll * 3) (hsm : ll ≤ 9223372036854775807) (hlc : ll ≤ lc) : PFn Try.prog 4 [.slice lb ll lc] [J] (.bool true) := by
  obtain ⟨ls, h1, h2⟩ := flat_of ll hl
  haveI : Sl J lb (flatI ls) := by rw [h2]; exact s
  exact FlowClosed_calls J lb ll lc ls h1 hsm hlc
end Go.Proofs.Ytgcajldkegdllaa
