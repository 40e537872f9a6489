/- Filled picks are fair: plain. -/
import Derived.Test.YtobcmglbdmaceaaGreatDoorWP1
set_option linter.unusedVariables false
set_option linter.unusedSimpArgs false
set_option linter.unusedSectionVars false
namespace Go.Proofs.YtobcmglbdmaceaaGreatDoor
open Go.SL
/-- One step of each. -/
def rnd (t : Nat) : List Pk := (List.range t).map fun (u : Nat) => ⟨(u : Int), 0⟩
/-- What is filled, from the pick 'i' on. -/
def fl (t every : Nat) : Nat → List Pk → List Pk
  | _, [] => rnd t
  | i, p :: l => p :: (if (i + 1) % every = 0 then rnd t ++ fl t every (i + 1) l else fl t every (i + 1) l)
theorem rnd_length (t : Nat) : (rnd t).length = t := by simp [rnd]
theorem fl_length (t every : Nat) (he : 0 < every) : ∀ (l : List Pk) (i : Nat), (fl t every i l).length = l.length + t * (1 + ((i + l.length) / every - i / every))
  | [], i => by simp [fl, rnd_length]
  | p :: l, i => by
    have ih := fl_length t every he l (i + 1)
    have h1 : (i + 1) / every = i / every + (if (i + 1) % every = 0 then 1 else 0) := by
      rw [Nat.succ_div]
      simp only [Nat.dvd_iff_mod_eq_zero, Nat.succ_eq_add_one]
    have h2 : (i + 1) / every ≤ (i + 1 + l.length) / every := Nat.div_le_div_right (by omega)
    simp only [fl, List.length_cons]
    rw [show i + (l.length + 1) = i + 1 + l.length by omega]
    split
    · rename_i hm
      rw [if_pos hm] at h1
      rw [List.length_append, rnd_length, ih]
      have : 1 + ((i + 1 + l.length) / every - i / every) = 1 + (1 + ((i + 1 + l.length) / every - (i + 1) / every)) := by omega
      rw [this, Nat.mul_add t 1 (1 + _), Nat.mul_one]
      omega
    · rename_i hm
      rw [if_neg hm] at h1
      rw [ih, show (i + 1) / every = i / every by omega]
      omega
def marks (u : Int) (l : List Pk) : List Bool := l.map fun p => decide (p.kd = 0 ∧ p.th = u)
theorem marks_rnd {t u : Nat} (h : u < t) : marks (u : Int) (rnd t) = List.replicate u false ++ true :: List.replicate (t - 1 - u) false := by
  apply List.ext_getElem?
  intro i
  simp only [marks, rnd, List.map_map, List.getElem?_map]
  by_cases hi : i < t
  · rw [List.getElem?_range hi]
    simp only [Option.map_some, Function.comp, true_and]
    by_cases h1 : i < u
    · rw [List.getElem?_append_left (by simp; omega), List.getElem?_replicate, if_pos h1]
      simp; omega
    · rw [List.getElem?_append_right (by simp; omega), List.length_replicate]
      by_cases h2 : i = u
      · subst h2; simp
      · rw [show i - u = (i - u - 1) + 1 by omega, List.getElem?_cons_succ, List.getElem?_replicate, if_pos (by omega)]
        simp; omega
  · rw [List.getElem?_eq_none (by simp; omega), List.getElem?_eq_none (by simp; omega)]
    rfl
theorem okR_rnd {k t u d : Nat} {L : List Bool} (h : u < t) (hd : d + u ≤ k) (ht : t ≤ k) (hL : okR k (t - u) L = true) : okR k d (marks (u : Int) (rnd t) ++ L) = true := by
  rw [marks_rnd h, List.append_assoc, List.cons_append]
  refine okR_far (by simpa using hd) ?_
  simp only [List.length_replicate, okR, if_true, Bool.and_eq_true, decide_eq_true_eq]
  refine ⟨hd, okR_far (by simp; omega) ?_⟩
  rw [List.length_replicate, show 1 + (t - 1 - u) = t - u by omega]
  exact hL
theorem succ_mod {i e : Nat} (he : 0 < e) : (i + 1) % e = if i % e + 1 = e then 0 else i % e + 1 := by
  have h := Nat.div_add_mod i e
  have hm := Nat.mod_lt i he
  have h2 : (i + 1) % e = (i % e + 1) % e := by
    have : (i + 1) % e = (e * (i / e) + (i % e + 1)) % e := by rw [← Nat.add_assoc, h]
    rw [this, Nat.mul_add_mod]
  rw [h2]
  split
  · rename_i h1; rw [h1, Nat.mod_self]
  · exact Nat.mod_eq_of_lt (by omega)
theorem marks_append (u : Int) (a b : List Pk) : marks u (a ++ b) = marks u a ++ marks u b := by simp [marks]
/-- What is filled is fair to each. -/
theorem fl_ok {t every u : Nat} (hu : u < t) (he : 0 < every) : ∀ (l : List Pk) (i d : Nat), d ≤ t - u + i % every → okR (t + every) d (marks (u : Int) (fl t every i l)) = true
  | [], i, d, hd => by
    have hm := Nat.mod_lt i he
    have := okR_rnd (k := t + every) (d := d) (L := []) hu (by omega) (by omega) (by simp only [okR, decide_eq_true_eq]; omega)
    simpa [fl] using this
  | p :: l, i, d, hd => by
    have hm := Nat.mod_lt i he
    have hs := succ_mod (i := i) he
    have hX : ∀ d', d' ≤ t - u + (i % every + 1) → okR (t + every) d' (marks (u : Int) (if (i + 1) % every = 0 then rnd t ++ fl t every (i + 1) l else fl t every (i + 1) l)) = true := by
      intro d' hd'
      split
      · rename_i h0
        rw [marks_append]
        exact okR_rnd hu (by omega) (by omega) (fl_ok hu he l (i + 1) (t - u) (by omega))
      · rename_i h0
        refine fl_ok hu he l (i + 1) d' ?_
        rw [hs] at h0 ⊢
        split
        · rename_i h1; exact absurd (if_pos h1) h0
        · exact hd'
    simp only [fl]
    show okR (t + every) d (decide (p.kd = 0 ∧ p.th = (u : Int)) :: marks (u : Int) _) = true
    cases decide (p.kd = 0 ∧ p.th = (u : Int)) with
    | true =>
      simp only [okR, if_true, Bool.and_eq_true, decide_eq_true_eq]
      exact ⟨by omega, hX 1 (by omega)⟩
    | false =>
      simp only [okR, Bool.false_eq_true, if_false]
      exact hX (d + 1) (by omega)
end Go.Proofs.YtobcmglbdmaceaaGreatDoor
