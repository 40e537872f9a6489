/- The pick of a word: plain. -/
import Derived.Test.YtobcmglbdmaceaaGreatDoorWA6
set_option linter.unusedVariables false
set_option linter.unusedSimpArgs false
set_option linter.unusedSectionVars false
namespace Go.Proofs.YtobcmglbdmaceaaGreatDoor
open Go.SL
set_option maxRecDepth 100000
set_option maxHeartbeats 16000000
abbrev digs : List UInt8 := [48, 49, 50, 51, 52, 53, 54, 55, 56, 57]
/-- A number of digits, if they are one. -/
def decF (d : List UInt8) : Option Nat := if 5 < d.length ∨ (d.head? = some 48 ∧ 1 < d.length) then none else Lib.decNat d
/-- What is ahead of the kind, and the kind. -/
def stripF (s : List UInt8) : List UInt8 × Int := if Lib.hasSuffix s [116] = true then (Lib.trimSuffix s [116], 1) else if Lib.hasSuffix s [115] = true then (Lib.trimSuffix s [115], 2) else (s, 0)
def pickF (s : List UInt8) : Option Pk := (decF (stripF s).1).map fun (m : Nat) => ⟨(m : Int), (stripF s).2⟩
theorem suffix_last (s : List UInt8) (a : UInt8) : Lib.hasSuffix s [a] = true ↔ s.getLast? = some a := by
  unfold Lib.hasSuffix
  rw [List.isSuffixOf_iff_suffix]
  constructor
  · rintro ⟨t, rfl⟩; simp
  · intro h
    obtain ⟨t, rfl⟩ := List.getLast?_eq_some_iff.1 h
    exact ⟨t, rfl⟩
theorem suffix_other {s : List UInt8} {a b : UInt8} (h : Lib.hasSuffix s [a] = true) (hab : a ≠ b) : Lib.hasSuffix s [b] = false := by
  rw [← Bool.not_eq_true]
  intro h2
  rw [suffix_last] at h h2
  rw [h] at h2
  exact hab (Option.some.inj h2)
theorem trim_snoc (t : List UInt8) (a : UInt8) : Lib.trimSuffix (t ++ [a]) [a] = t := by
  unfold Lib.trimSuffix
  rw [if_pos ((suffix_last _ _).2 (by simp))]
  simp
theorem trim_nil0 (s : List UInt8) : Lib.trimSuffix s [] = s := by
  unfold Lib.trimSuffix
  split <;> simp
theorem suffix_nil (s : List UInt8) : Lib.hasSuffix s [] = true := by
  unfold Lib.hasSuffix
  rw [List.isSuffixOf_iff_suffix]; exact List.nil_suffix
theorem trimSuffix_len (s p : List UInt8) : (Lib.trimSuffix s p).length ≤ s.length := by
  unfold Lib.trimSuffix
  split
  · simp only [List.length_take]; omega
  · exact Nat.le_refl _
theorem stripF_len (s : List UInt8) : (stripF s).1.length ≤ s.length := by
  unfold stripF
  split
  · exact trimSuffix_len _ _
  · split
    · exact trimSuffix_len _ _
    · exact Nat.le_refl _
theorem dropWhile_nil {α : Type} {p : α → Bool} : ∀ {l : List α}, l.dropWhile p = [] ↔ ∀ b ∈ l, p b = true
  | [] => by simp
  | a :: l => by
    rw [List.dropWhile_cons]
    split
    · rename_i h
      rw [dropWhile_nil (l := l)]
      simp [h]
    · rename_i h
      simp [h]
theorem trimS_nil (d cs : List UInt8) : Lib.trimS d cs = [] ↔ ∀ b ∈ d, cs.contains b = true := by
  unfold Lib.trimS Lib.trimLeftS Lib.trimRightS
  rw [dropWhile_nil]
  constructor
  · intro h b hb
    have h1 : ∀ x ∈ (List.dropWhile (cs.contains ·) d.reverse), cs.contains x = true := fun x hx => h x (by simpa using hx)
    have : List.dropWhile (cs.contains ·) d.reverse = [] := by
      cases e : List.dropWhile (cs.contains ·) d.reverse with
      | nil => rfl
      | cons a r =>
        have h2 := h1 a (by rw [e]; simp)
        have h3 := List.head?_dropWhile_not (cs.contains ·) d.reverse
        rw [e] at h3
        simp at h3
        simp at h2
        exact absurd h2 h3
    rw [dropWhile_nil] at this
    exact this b (by simpa using hb)
  · intro h b hb
    have : b ∈ List.dropWhile (cs.contains ·) d.reverse := by simpa using hb
    have := (List.dropWhile_sublist (cs.contains ·) (l := d.reverse)).subset this
    exact h b (by simpa using this)
theorem dig_iff (b : UInt8) : digs.contains b = true ↔ ∃ v, Lib.digitVal b = some v := by
  revert b
  have : ∀ n : Fin 256, (digs.contains (UInt8.ofNat n.val) = true ↔ (Lib.digitVal (UInt8.ofNat n.val)).isSome = true) := by decide +kernel
  intro b
  have h := this ⟨b.toNat, b.toNat_lt⟩
  simp only [UInt8.ofNat_toNat] at h
  rw [h, Option.isSome_iff_exists]
theorem decFrom_all : ∀ (d : List UInt8) (acc : Nat), (∀ b ∈ d, digs.contains b = true) → ∃ m, Lib.decFrom acc d = some m
  | [], acc, _ => ⟨acc, rfl⟩
  | b :: d, acc, h => by
    obtain ⟨v, hv⟩ := (dig_iff b).1 (h b (by simp))
    obtain ⟨m, hm⟩ := decFrom_all d (acc * 10 + v) (fun x hx => h x (by simp [hx]))
    exact ⟨m, by rw [Lib.decFrom, hv]; exact hm⟩
theorem decNat_all {d : List UInt8} (h0 : d ≠ []) (h : ∀ b ∈ d, digs.contains b = true) : ∃ m, Lib.decNat d = some m := by
  unfold Lib.decNat
  rw [if_neg (by simpa using h0)]
  exact decFrom_all d 0 h
theorem decNat_not {d : List UInt8} (h : ¬ ∀ b ∈ d, digs.contains b = true) : Lib.decNat d = none := by
  unfold Lib.decNat
  split
  · rfl
  · cases e : Lib.decFrom 0 d with
    | none => rfl
    | some m =>
      refine absurd (fun b hb => ?_) h
      obtain ⟨k, hk⟩ := List.mem_iff_getElem?.1 hb
      exact (dig_iff b).2 (Lib.digit_of_decFrom d 0 m e k b hk)
theorem atoi_of {d : List UInt8} {m : Nat} (h : Lib.decNat d = some m) : Lib.atoi d = some (m : Int) := by
  obtain ⟨h0, h1⟩ := Lib.decNat_some h
  match d, h0 with
  | b :: r, _ =>
    obtain ⟨v, hv⟩ := Lib.digit_of_decFrom _ 0 m h1 0 b rfl
    obtain ⟨g1, g2, -⟩ := Lib.digitVal_eq hv
    have e1 : ¬ (b == 45) = true := fun e => by rw [beq_iff_eq] at e; subst e; revert g1; decide
    have e2 : ¬ (b == 43) = true := fun e => by rw [beq_iff_eq] at e; subst e; revert g1; decide
    rw [Lib.atoi, if_neg e1, if_neg e2, h]
    rfl
end Go.Proofs.YtobcmglbdmaceaaGreatDoor
