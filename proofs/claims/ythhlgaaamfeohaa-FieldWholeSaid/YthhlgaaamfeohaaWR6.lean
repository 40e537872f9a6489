/- Words put together of fields: plain. -/
import Derived.Test.YthhlgaaamfeohaaWR5
namespace Go.Proofs.Ythhlgaaamfeohaa
open Go.SL
set_option maxRecDepth 100000
theorem ofN_bit (a b w i : Nat) : (ofN a b w).testBit i = (decide (i < b) && w.testBit (a + i)) := by
  rw [ofN, Nat.testBit_mod_two_pow, Nat.testBit_shiftRight]
theorem ofN_le (a b w : Nat) : ofN a b w ≤ 2 ^ b - 1 := by
  have := Nat.mod_lt (w >>> a) (Nat.two_pow_pos b)
  unfold ofN; omega
theorem bit_hi {w i : Nat} {b : Nat} (h : w ≤ 2 ^ b - 1) (hi : b ≤ i) : w.testBit i = false :=
  Nat.testBit_lt_two_pow (by have := Nat.two_pow_pos b; have : 2 ^ b ≤ 2 ^ i := Nat.pow_le_pow_right (by decide) hi; omega)
theorem of_put {a b w x : Nat} (hab : a + b ≤ 64) (hw : w < 2 ^ 64) (hx : x ≤ 2 ^ b - 1) : ofN a b (putN a w x b) = x := by
  apply Nat.eq_of_testBit_eq
  intro i
  rw [ofN_bit, putN_bit hab hw hx]
  by_cases h : i < b
  · rw [if_pos (by omega), Nat.add_sub_cancel_left]; simp [h]
  · simp [h, bit_hi hx (show b ≤ i by omega)]
theorem of_put_other {a b c d w x : Nat} (hab : a + b ≤ 64) (hw : w < 2 ^ 64) (hx : x ≤ 2 ^ b - 1) (hd : a + b ≤ c ∨ c + d ≤ a) : ofN c d (putN a w x b) = ofN c d w := by
  apply Nat.eq_of_testBit_eq
  intro i
  rw [ofN_bit, ofN_bit, putN_bit hab hw hx]
  by_cases h : i < d
  · rw [if_neg (by omega)]
  · simp [h]
theorem put_back {a b w x : Nat} (hab : a + b ≤ 64) (hw : w < 2 ^ 64) (hx : x ≤ 2 ^ b - 1) : putN a (putN a w x b) (ofN a b w) b = w := by
  apply Nat.eq_of_testBit_eq
  intro i
  rw [putN_bit hab (putN_lt hab hw hx) (ofN_le a b w), putN_bit hab hw hx, ofN_bit]
  by_cases h : a ≤ i ∧ i < a + b
  · rw [if_pos h, show a + (i - a) = i by omega]
    have : i - a < b := by omega
    simp [this]
  · rw [if_neg h, if_neg h]
theorem laid_start : ∀ {ws : List Int} {a : Int} {i : Nat} {p : Int × Int}, (laidX a ws)[i]? = some p → p.1 = a + (ws.take i).sum := by
  intro ws
  induction ws with
  | nil => intro a i p h; simp [laidX] at h
  | cons w ws ih =>
    intro a i p h
    rw [laidX] at h
    split at h
    · cases i with
      | zero => simp at h; subst h; simp
      | succ i => simp at h; rw [ih h]; simp; omega
    · simp at h
theorem fits_of_sum : ∀ {ws : List Int} {a : Int}, 0 ≤ a → (∀ x ∈ ws, 1 ≤ x) → a + ws.sum ≤ 64 → fitsX a ws = true := by
  intro ws
  induction ws with
  | nil => intro a _ _ _; rfl
  | cons w ws ih =>
    intro a h0 h1 h2
    have g1 := h1 w (by simp)
    have g2 : ∀ x ∈ ws, 1 ≤ x := fun x hx => h1 x (List.mem_cons_of_mem _ hx)
    have g3 : 0 ≤ ws.sum := by
      clear ih h2 h1
      induction ws with
      | nil => simp
      | cons y ys ih2 => have := g2 y (by simp); have := ih2 (fun x hx => g2 x (List.mem_cons_of_mem _ hx)); simp; omega
    simp only [List.sum_cons] at h2
    simp only [fitsX, Bool.and_eq_true, decide_eq_true_eq]
    exact ⟨⟨h0, g1, by omega, by omega⟩, ih (by omega) g2 (by omega)⟩
theorem u8_rem {z : Int} (h : (Lit.int .u8 z).wf = true) (m : Nat) (hm : 1 ≤ m) (hm2 : m ≤ 100) : 0 ≤ IntKind.i64.wrap (z.tmod m) ∧ IntKind.i64.wrap (z.tmod m) ≤ m - 1 := by
  obtain ⟨n, rfl, hn⟩ := wf_u8 h
  have e : ((n : Int)).tmod (m : Int) = ((n % m : Nat) : Int) := rfl
  have hl := Nat.mod_lt n (show 0 < m by omega)
  rw [e, wrap64_id (by omega) (by omega)]
  omega
/-- The bits of a word from one place on, up to another one. -/
def Part (all w lo hi : Nat) : Prop := ∀ i, all.testBit i = (w.testBit i && (decide (lo ≤ i) && decide (i < hi)))
theorem part_start (w hi : Nat) : Part 0 w hi hi := fun i => by
  rw [Nat.zero_testBit]
  by_cases h : hi ≤ i
  · have : ¬ i < hi := by omega
    simp [this]
  · simp [h]
theorem part_up {all w a b lo : Nat} (h : Part all w lo a) (hlo : lo ≤ a) (hab : a + b ≤ 64) (hall : all < 2 ^ 64) : Part (putN a all (ofN a b w) b) w lo (a + b) := fun i => by
  rw [putN_bit hab hall (ofN_le _ _ _), ofN_bit, h i]
  by_cases h1 : a ≤ i
  · by_cases h2 : i < a + b
    · have h3 : i - a < b := by omega
      have h4 : lo ≤ i := by omega
      rw [if_pos ⟨h1, h2⟩, show a + (i - a) = i by omega]; simp [h2, h3, h4]
    · have h3 : ¬ i < a := by omega
      rw [if_neg (by omega)]; simp [h2, h3]
  · have h2 : i < a := by omega
    have h3 : i < a + b := by omega
    rw [if_neg (by omega)]; simp [h2, h3]
theorem part_down {all w a b hi : Nat} (h : Part all w (a + b) hi) (hhi : a + b ≤ hi) (hab : a + b ≤ 64) (hall : all < 2 ^ 64) : Part (putN a all (ofN a b w) b) w a hi := fun i => by
  rw [putN_bit hab hall (ofN_le _ _ _), ofN_bit, h i]
  by_cases h1 : a ≤ i
  · by_cases h2 : i < a + b
    · have h3 : i - a < b := by omega
      have h4 : i < hi := by omega
      rw [if_pos ⟨h1, h2⟩, show a + (i - a) = i by omega]; simp [h1, h3, h4]
    · have h3 : a + b ≤ i := by omega
      rw [if_neg (by omega)]; simp [h1, h3]
  · have h2 : ¬ a + b ≤ i := by omega
    rw [if_neg (by omega)]; simp [h1, h2]
theorem part_full {all w : Nat} (hw : w < 2 ^ 64) (h : Part all w 0 64) : all = w := by
  apply Nat.eq_of_testBit_eq
  intro i
  rw [h i]
  by_cases hi : i < 64
  · simp [hi]
  · have : w.testBit i = false := Nat.testBit_lt_two_pow (Nat.lt_of_lt_of_le hw (Nat.pow_le_pow_right (by decide) (by omega)))
    simp [this]
theorem flat_nat {ws : List Int} {i : Nat} (hi : i < (laidX 0 ws).length) : ∃ a b : Nat, (laidX 0 ws)[i]? = some ((a : Int), (b : Int)) ∧ 1 ≤ b ∧ a + b ≤ 64 ∧ (flats (laidX 0 ws))[i * 2]? = some (i64 a) ∧ (flats (laidX 0 ws))[i * 2 + 1]? = some (i64 b) := by
  obtain ⟨p, hp⟩ : ∃ p, (laidX 0 ws)[i]? = some p := ⟨_, List.getElem?_eq_getElem hi⟩
  obtain ⟨hm, -, -⟩ := laid_may hp
  obtain ⟨e1, e2⟩ := flats_at hp
  obtain ⟨a, b, h1, h2, h3, h4⟩ := nats_of hm
  obtain ⟨p1, p2⟩ := p
  simp only at h1 h2 e1 e2
  subst h1; subst h2
  exact ⟨a, b, hp, h3, h4, e1, e2⟩
end Go.Proofs.Ythhlgaaamfeohaa
