/- Fair picks: plain. -/
import Derived.Test.YtobcmglbdmaceaaGreatDoorWB
set_option linter.unusedVariables false
set_option linter.unusedSimpArgs false
set_option linter.unusedSectionVars false
namespace Go.Proofs.YtobcmglbdmaceaaGreatDoor
open Go.SL
/-- All gaps are at most k; d: how far back the last one is. -/
def okR (k : Nat) : Nat → List Bool → Bool
  | d, [] => decide (d ≤ k)
  | d, b :: l => if b = true then decide (d ≤ k) && okR k 1 l else okR k (d + 1) l
/-- Any k in a row hold one. -/
def Win (k : Nat) (l : List Bool) : Prop := ∀ from_, from_ + k ≤ l.length → ∃ i, from_ ≤ i ∧ i < from_ + k ∧ l[i]? = some true
theorem okR_iff {k : Nat} (hk : 1 ≤ k) : ∀ (l : List Bool) (d : Nat), 1 ≤ d → (okR k d l = true ↔ Win k (List.replicate (d - 1) false ++ l))
  | [], d, hd => by
    simp only [okR, decide_eq_true_eq, List.append_nil]
    constructor
    · intro h f hf
      simp at hf; omega
    · intro h
      by_cases hc : d ≤ k
      · exact hc
      · exfalso
        obtain ⟨i, h1, h2, h3⟩ := h 0 (by simp; omega)
        rw [List.getElem?_replicate] at h3
        split at h3
        · cases h3
        · cases h3
  | true :: l, d, hd => by
    have ih := okR_iff hk l 1 (Nat.le_refl _)
    simp only [Nat.sub_self, List.replicate_zero, List.nil_append] at ih
    simp only [okR, if_true, Bool.and_eq_true, decide_eq_true_eq, ih]
    constructor
    · rintro ⟨h1, h2⟩ f hf
      simp only [List.length_append, List.length_replicate, List.length_cons] at hf
      by_cases hfd : f ≤ d - 1
      · refine ⟨d - 1, hfd, by omega, ?_⟩
        rw [List.getElem?_append_right (by simp)]
        simp
      · obtain ⟨i, g1, g2, g3⟩ := h2 (f - d) (by omega)
        refine ⟨i + d, by omega, by omega, ?_⟩
        rw [List.getElem?_append_right (by simp; omega), List.length_replicate, show i + d - (d - 1) = i + 1 by omega]
        exact g3
    · intro h
      refine ⟨?_, fun f hf => ?_⟩
      · by_cases hc : d ≤ k
        · exact hc
        · exfalso
          obtain ⟨i, h1, h2, h3⟩ := h 0 (by simp; omega)
          rw [List.getElem?_append_left (by simp; omega), List.getElem?_replicate] at h3
          split at h3 <;> cases h3
      · obtain ⟨i, g1, g2, g3⟩ := h (f + d) (by simp; omega)
        rw [List.getElem?_append_right (by simp; omega), List.length_replicate, show i - (d - 1) = (i - d) + 1 by omega] at g3
        exact ⟨i - d, by omega, by omega, g3⟩
  | false :: l, d, hd => by
    have ih := okR_iff hk l (d + 1) (by omega)
    simp only [okR, Bool.false_eq_true, if_false, ih]
    rw [show List.replicate (d + 1 - 1) false ++ l = List.replicate (d - 1) false ++ false :: l by
      rw [show d + 1 - 1 = (d - 1) + 1 by omega, List.replicate_succ', List.append_assoc]; rfl]
theorem okR_win {k : Nat} (hk : 1 ≤ k) (l : List Bool) : okR k 1 l = true ↔ Win k l := by
  simpa using okR_iff hk l 1 (Nat.le_refl _)
theorem Win.more {k : Nat} {l : List Bool} (h : Win k l) : Win (k + 1) l := fun f hf => by
  obtain ⟨i, h1, h2, h3⟩ := h f (by omega)
  exact ⟨i, h1, by omega, h3⟩
theorem Win.part {k : Nat} {l : List Bool} (h : Win k l) (a b : Nat) : Win k ((l.take b).drop a) := fun f hf => by
  simp only [List.length_drop, List.length_take] at hf
  by_cases hk : k = 0
  · subst hk
    obtain ⟨i, h1, h2, -⟩ := h 0 (by omega)
    omega
  · obtain ⟨i, h1, h2, h3⟩ := h (a + f) (by omega)
    refine ⟨i - a, by omega, by omega, ?_⟩
    rw [List.getElem?_drop, List.getElem?_take, if_pos (by omega), show a + (i - a) = i by omega]
    exact h3
/-- The nearer the last one, the better. -/
theorem okR_mono {k : Nat} : ∀ {l : List Bool} {d d' : Nat}, d' ≤ d → okR k d l = true → okR k d' l = true
  | [], d, d', h, ho => by simp only [okR, decide_eq_true_eq] at ho ⊢; omega
  | true :: l, d, d', h, ho => by simp only [okR, if_true, Bool.and_eq_true, decide_eq_true_eq] at ho ⊢; exact ⟨by omega, ho.2⟩
  | false :: l, d, d', h, ho => by
    simp only [okR, Bool.false_eq_true, if_false] at ho ⊢
    exact okR_mono (by omega) ho
/-- So many that are none of them, at most. -/
theorem okR_far {k : Nat} {l2 : List Bool} : ∀ {l : List Bool} {d : Nat}, d + l.length ≤ k → okR k (d + l.length) l2 = true → okR k d (l ++ l2) = true
  | [], d, h, ho => by simpa using ho
  | true :: l, d, h, ho => by
    simp only [List.length_cons] at h ho
    simp only [List.cons_append, okR, if_true, Bool.and_eq_true, decide_eq_true_eq]
    exact ⟨by omega, okR_far (by omega) (okR_mono (by omega) ho)⟩
  | false :: l, d, h, ho => by
    simp only [List.length_cons] at h ho
    simp only [List.cons_append, okR, Bool.false_eq_true, if_false]
    exact okR_far (by omega) (by rw [show d + 1 + l.length = d + (l.length + 1) by omega]; exact ho)
end Go.Proofs.YtobcmglbdmaceaaGreatDoor
