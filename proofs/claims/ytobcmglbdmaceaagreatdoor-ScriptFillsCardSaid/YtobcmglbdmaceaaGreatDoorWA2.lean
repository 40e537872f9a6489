/- Whether picks are fair: walked. -/
import Derived.Test.YtobcmglbdmaceaaGreatDoorWA1
import Derived.Test.YtobcmglbdmaceaaGreatDoorWP1
import Derived.Test.YtobcmglbdmaceaaGreatDoorWP2
set_option linter.unusedVariables false
set_option linter.unusedSimpArgs false
set_option linter.unusedSectionVars false
namespace Go.Proofs.YtobcmglbdmaceaaGreatDoor
open Go.SL
set_option maxRecDepth 100000
set_option maxHeartbeats 16000000
/-- What Fair tells. -/
def fairF (l : List Pk) (t k : Int) : Bool :=
  decide (1 ≤ t ∧ 1 ≤ k) && (decide ((l.length : Int) < k) || (decide (t ≤ k) && (List.range t.toNat).all fun (u : Nat) => okR k.toNat 1 (marks (u : Int) l)))
/-- Where each was last, of so many. -/
def lastF (l : List Pk) (u : Nat) : Nat → Int
  | 0 => -1
  | n + 1 => match l[n]? with
    | some p => if p.kd = 0 ∧ p.th = (u : Int) then (n : Int) else lastF l u n
    | none => lastF l u n
theorem lastF_lt (l : List Pk) (u : Nat) : ∀ n, -1 ≤ lastF l u n ∧ lastF l u n < (n : Int) ∨ n = 0 ∧ lastF l u n = -1
  | 0 => .inr ⟨rfl, rfl⟩
  | n + 1 => by
    have ih := lastF_lt l u n
    refine .inl ?_
    unfold lastF
    split
    · split
      · omega
      · omega
    · omega
/-- All gaps so far are right: as okR says. -/
theorem okR_from (l : List Pk) (u k : Nat) : ∀ n, n ≤ l.length → (okR k 1 (marks (u : Int) l) = true ↔ (∀ j, j < n → ∀ p, l[j]? = some p → (p.kd = 0 ∧ p.th = (u : Int)) → (j : Int) - lastF l u j ≤ k) ∧ okR k ((n : Int) - lastF l u n).toNat (marks (u : Int) (l.drop n)) = true)
  | 0, _ => by simp [lastF]
  | n + 1, hn => by
    have ih := okR_from l u k n (by omega)
    rw [ih]
    obtain ⟨p, hp⟩ : ∃ p, l[n]? = some p := ⟨_, List.getElem?_eq_getElem (by omega)⟩
    have hd : l.drop n = p :: l.drop (n + 1) := by
      rw [List.drop_eq_getElem_cons (by omega), (List.getElem?_eq_some_iff.1 hp).2]
    have hl := lastF_lt l u n
    rw [hd]
    show (_ ∧ okR k _ (decide (p.kd = 0 ∧ p.th = (u : Int)) :: marks (u : Int) (l.drop (n + 1))) = true) ↔ _
    have hlast : lastF l u (n + 1) = if p.kd = 0 ∧ p.th = (u : Int) then (n : Int) else lastF l u n := by
      conv => lhs; unfold lastF
      rw [hp]
    by_cases hm : p.kd = 0 ∧ p.th = (u : Int)
    · rw [if_pos hm] at hlast
      rw [hlast, decide_eq_true hm]
      simp only [okR, if_true, Bool.and_eq_true, decide_eq_true_eq]
      rw [show (((n + 1 : Nat) : Int) - (n : Int)).toNat = 1 by omega]
      constructor
      · rintro ⟨h1, h2, h3⟩
        refine ⟨fun j hj q hq hqm => ?_, h3⟩
        by_cases e : j = n
        · subst e; omega
        · exact h1 j (by omega) q hq hqm
      · rintro ⟨h1, h3⟩
        refine ⟨fun j hj q hq hqm => h1 j (by omega) q hq hqm, ?_, h3⟩
        have := h1 n (by omega) p hp hm
        omega
    · rw [if_neg hm] at hlast
      rw [hlast, decide_eq_false hm]
      simp only [okR, Bool.false_eq_true, if_false]
      rw [show (((n + 1 : Nat) : Int) - lastF l u n).toNat = ((n : Int) - lastF l u n).toNat + 1 by omega]
      constructor
      · rintro ⟨h1, h3⟩
        refine ⟨fun j hj q hq hqm => ?_, h3⟩
        by_cases e : j = n
        · subst e; rw [hp] at hq; cases hq; exact absurd hqm hm
        · exact h1 j (by omega) q hq hqm
      · rintro ⟨h1, h3⟩
        exact ⟨fun j hj q hq hqm => h1 j (by omega) q hq hqm, h3⟩
theorem okR_end (l : List Pk) (u k : Nat) : okR k 1 (marks (u : Int) l) = true ↔ (∀ j, j < l.length → ∀ p, l[j]? = some p → (p.kd = 0 ∧ p.th = (u : Int)) → (j : Int) - lastF l u j ≤ k) ∧ (l.length : Int) - lastF l u l.length ≤ k := by
  rw [okR_from l u k l.length (Nat.le_refl _), List.drop_length]
  have := lastF_lt l u l.length
  simp only [marks, List.map_nil, okR, decide_eq_true_eq]
  constructor <;> rintro ⟨h1, h2⟩ <;> exact ⟨h1, by omega⟩
/-- Where all were last. -/
def lasts (l : List Pk) (t n : Nat) : List Value := (List.range t).map fun (u : Nat) => i64 (lastF l u n)
theorem lasts_length (l : List Pk) (t n : Nat) : (lasts l t n).length = t := by simp [lasts]
theorem lasts_get {l : List Pk} {t n u : Nat} (h : u < t) : (lasts l t n)[u]? = some (i64 (lastF l u n)) := by simp [lasts, h]
theorem lasts_zero (l : List Pk) (t : Nat) : lasts l t 0 = List.replicate t (i64 (-1)) := by
  apply List.ext_getElem?
  intro i
  simp only [lasts, lastF, List.getElem?_map, List.getElem?_replicate]
  by_cases h : i < t
  · rw [List.getElem?_range h, if_pos h]; rfl
  · rw [List.getElem?_eq_none (by simp; omega), if_neg h]; rfl
theorem lasts_skip {l : List Pk} {t n : Nat} {p : Pk} (hp : l[n]? = some p) (h : ¬ (p.kd = 0 ∧ 0 ≤ p.th ∧ p.th < (t : Int))) : lasts l t (n + 1) = lasts l t n := by
  unfold lasts
  refine List.map_congr_left fun u hu => ?_
  have := List.mem_range.1 hu
  conv => lhs; unfold lastF
  rw [hp]
  dsimp only
  rw [if_neg fun e => h ⟨e.1, by omega, by omega⟩]
theorem lasts_set {l : List Pk} {t n u : Nat} {p : Pk} (hp : l[n]? = some p) (h : p.kd = 0 ∧ p.th = (u : Int)) (hu : u < t) : lasts l t (n + 1) = (lasts l t n).set u (i64 (n : Int)) := by
  apply List.ext_getElem?
  intro i
  by_cases hi : i < t
  · rw [lasts_get hi, List.getElem?_set]
    conv => lhs; unfold lastF
    rw [hp]
    dsimp only
    by_cases e : u = i
    · subst e
      rw [if_pos h, if_pos rfl, if_pos (by rw [lasts_length]; exact hu)]
    · rw [if_neg e, lasts_get hi, if_neg (fun e2 => e (by have := e2.2.symm.trans h.2; omega))]
  · rw [List.getElem?_eq_none (by rw [lasts_length]; omega), List.getElem?_eq_none (by rw [List.length_set, lasts_length]; omega)]
end Go.Proofs.YtobcmglbdmaceaaGreatDoor
