/- SpecWakes, at any two rows of six bytes. -/
import Derived.Test.YtimmclibnfdjhaaWW4
import Derived.Test.YtimmclibnfdjhaaSlG3
namespace Go.Proofs.Ytimmclibnfdjhaa
open Go.SL
theorem wakes_row {cs0 cs1 : List Value} {zs0 zs1 : List Int} (hl0 : zs0.length = 6) (hcs0 : cs0 = zs0.map (.int .u8)) (wf0 : ∀ z ∈ zs0, (Lit.int .u8 z).wf = true) (hl1 : zs1.length = 6) (hcs1 : cs1 = zs1.map (.int .u8)) (wf1 : ∀ z ∈ zs1, (Lit.int .u8 z).wf = true) :
    PFn Try.prog 4 [.agg ⟨cs0⟩, .agg ⟨cs1⟩] [] (.bool true) := by
  have g0 : ∀ z ∈ zs0, 0 ≤ z := fun z hz => by obtain ⟨n, rfl, -⟩ := wf_u8 (wf0 z hz); omega
  have g1 : ∀ z ∈ zs1, 0 ≤ z := fun z hz => by obtain ⟨n, rfl, -⟩ := wf_u8 (wf1 z hz); omega
  obtain ⟨a0, a1, a2, a3, a4, a5, rfl⟩ := list_six hl0
  obtain ⟨d0, d1, d2, d3, d4, d5, rfl⟩ := list_six hl1
  subst hcs0 hcs1
  exact wakes_calls a0 a1 a2 a3 a4 a5 d0 d1 d2 d3 d4 d5 g0 g1
end Go.Proofs.Ytimmclibnfdjhaa
