/- Fields that are laid are apart. -/
import Derived.Test.YthhlgaaamfeohaaSlQ
import Derived.Test.YthhlgaaamfeohaaWR4
namespace Go.Proofs.Ythhlgaaamfeohaa
open Go.SL
set_option maxRecDepth 100000
theorem mask_and (a b c d : Nat) (h1 : 1 ≤ b) (h2 : a + b ≤ 64) (h3 : 1 ≤ d) (h4 : c + d ≤ 64) : bitsOp .and .u64 (mask a b) (mask c d) = ((((2 ^ b - 1) <<< a) &&& ((2 ^ d - 1) <<< c) : Nat) : Int) := by
  rw [maskN a b h1 h2, maskN c d h3 h4, and_nat (field_lt h2 (Nat.le_refl _)) (field_lt h4 (Nat.le_refl _))]
theorem mask_bit (a b i : Nat) : ((2 ^ b - 1) <<< a).testBit i = (decide (a ≤ i) && decide (i - a < b)) := by
  rw [Nat.testBit_shiftLeft, Nat.testBit_two_pow_sub_one]
theorem nats_of {a b : Int} (h : May a b) : ∃ na nb : Nat, a = na ∧ b = nb ∧ 1 ≤ nb ∧ na + nb ≤ 64 := by
  obtain ⟨h1, h2, h3, h4⟩ := h
  exact ⟨a.toNat, b.toNat, by omega, by omega, by omega, by omega⟩
theorem apart_of {a b c d : Int} (h : May a b) (h' : May c d) (hd : a + b ≤ c ∨ c + d ≤ a) : bitsOp .and .u64 (mask a b) (mask c d) = 0 := by
  obtain ⟨a, b, rfl, rfl, h1, h2⟩ := nats_of h
  obtain ⟨c, d, rfl, rfl, h3, h4⟩ := nats_of h'
  rw [mask_and a b c d h1 h2 h3 h4]
  have : ((2 ^ b - 1) <<< a) &&& ((2 ^ d - 1) <<< c) = 0 := by
    apply Nat.eq_of_testBit_eq
    intro i
    rw [Nat.testBit_and, mask_bit, mask_bit, Nat.zero_testBit]
    simp only [Bool.and_eq_false_iff, decide_eq_false_iff_not]
    omega
  rw [this]; rfl
theorem apart_self {a b : Int} (h : May a b) : bitsOp .and .u64 (mask a b) (mask a b) ≠ 0 := by
  obtain ⟨a, b, rfl, rfl, h1, h2⟩ := nats_of h
  rw [mask_and a b a b h1 h2 h1 h2, Nat.and_self]
  have hp : 2 ≤ 2 ^ b := Nat.le_trans (by decide : 2 ≤ 2 ^ 1) (Nat.pow_le_pow_right (by decide) h1)
  have : (2 ^ b - 1) <<< a ≠ 0 := by
    rw [Nat.shiftLeft_eq]
    exact Nat.mul_ne_zero (by omega) (Nat.ne_of_gt (Nat.two_pow_pos a))
  omega
theorem laid_may : ∀ {ws : List Int} {a : Int} {i : Nat} {p : Int × Int}, (laidX a ws)[i]? = some p → May p.1 p.2 ∧ a ≤ p.1 ∧ ws[i]? = some p.2 := by
  intro ws
  induction ws with
  | nil => intro a i p h; simp [laidX] at h
  | cons w ws ih =>
    intro a i p h
    rw [laidX] at h
    split at h
    · rename_i hm
      cases i with
      | zero => simp at h; subst h; exact ⟨hm, Int.le_refl _, rfl⟩
      | succ i =>
        simp at h
        obtain ⟨g1, g2, g3⟩ := ih h
        obtain ⟨m1, m2, m3, m4⟩ := hm
        exact ⟨g1, by omega, by simpa using g3⟩
    · simp at h
theorem laid_order : ∀ {ws : List Int} {a : Int} {i k : Nat} {p q : Int × Int}, (laidX a ws)[i]? = some p → (laidX a ws)[k]? = some q → i < k → p.1 + p.2 ≤ q.1 := by
  intro ws
  induction ws with
  | nil => intro a i k p q h; simp [laidX] at h
  | cons w ws ih =>
    intro a i k p q h h' hik
    rw [laidX] at h h'
    split at h
    · rename_i hm
      rw [if_pos hm] at h'
      cases k with
      | zero => omega
      | succ k =>
        simp at h'
        cases i with
        | zero => simp at h; subst h; exact (laid_may h').2.1
        | succ i => simp at h; exact ih h h' (by omega)
    · simp at h
theorem fits_len : ∀ {ws : List Int} {a : Int}, fitsX a ws = true → (laidX a ws).length = ws.length := by
  intro ws
  induction ws with
  | nil => intro a _; rfl
  | cons w ws ih =>
    intro a h
    simp only [fitsX, Bool.and_eq_true, decide_eq_true_eq] at h
    rw [laidX, if_pos h.1, List.length_cons, List.length_cons, ih h.2]
theorem layX_at {ws : List Int} {i : Nat} (h : i < (layX ws).length) : ∃ p : Int × Int, (layX ws)[i]? = some p ∧ (laidX 0 ws)[i]? = some p ∧ fitsX 0 ws = true := by
  unfold layX at h ⊢
  split at h
  · rename_i hf
    rw [if_pos hf]
    exact ⟨_, List.getElem?_eq_getElem h, List.getElem?_eq_getElem h, hf⟩
  · simp at h
theorem Apart_same (a b : Int) (h : May a b) : PFn Try.prog 15 [fld a b, fld a b] [] (.bool false) := (Apart_is a b a b).to (by rw [decide_eq_false (fun x => apart_self h x.2.2)])
theorem Apart_diff (a b c d : Int) (h : May a b) (h' : May c d) (hd : a + b ≤ c ∨ c + d ≤ a) : PFn Try.prog 15 [fld a b, fld c d] [] (.bool true) := (Apart_is a b c d).to (by rw [decide_eq_true ⟨h, h', apart_of h h' hd⟩])
theorem flats_at {l : List (Int × Int)} {i : Nat} {p : Int × Int} (h : l[i]? = some p) : (flats l)[i * 2]? = some (i64 p.1) ∧ (flats l)[i * 2 + 1]? = some (i64 p.2) := by
  induction l generalizing i with
  | nil => simp at h
  | cons q l ih =>
    cases i with
    | zero => simp at h; subst h; exact ⟨rfl, rfl⟩
    | succ i =>
      simp at h
      obtain ⟨g1, g2⟩ := ih h
      have e : flats (q :: l) = i64 q.1 :: i64 q.2 :: flats l := rfl
      rw [e, show (i + 1) * 2 = i * 2 + 1 + 1 by omega]
      exact ⟨by simpa using g1, by simpa using g2⟩
theorem flats_len (l : List (Int × Int)) : (flats l).length = l.length * 2 := by
  induction l with
  | nil => rfl
  | cons q l ih => have e : flats (q :: l) = i64 q.1 :: i64 q.2 :: flats l := rfl; rw [e]; simp [ih]; omega
end Go.Proofs.Ythhlgaaamfeohaa
