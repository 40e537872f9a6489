/- Fields' functions of words, as natural numbers. -/
import Derived.Test.YtblobkigbdcjeaaSlQ
import Derived.Test.YtblobkigbdcjeaaWT3w
namespace Go.Proofs.Ytblobkigbdcjeaa
open Go.SL
set_option maxRecDepth 100000
set_option maxHeartbeats 16000000
attribute [local irreducible] T PFn OpV SOL SWP HOp
/-- What a field of a word has. -/
def ofN (a b w : Nat) : Nat := (w >>> a) % 2 ^ b
/-- A word with a number put into a field. -/
def putN (a w v b : Nat) : Nat := andNot w ((2 ^ b - 1) <<< a) ||| v <<< a
theorem field_lt {a b : Nat} (hab : a + b ≤ 64) {v : Nat} (hv : v ≤ 2 ^ b - 1) : v <<< a < 2 ^ 64 := by
  have hp := Nat.two_pow_pos b
  have h1 : v <<< a < 2 ^ b <<< a := by rw [Nat.shiftLeft_eq, Nat.shiftLeft_eq]; exact Nat.mul_lt_mul_of_pos_right (by omega) (Nat.two_pow_pos a)
  refine Nat.lt_of_lt_of_le h1 ?_
  rw [Nat.shiftLeft_eq, ← Nat.pow_add]; exact Nat.pow_le_pow_right (by decide) (by omega)
theorem putN_lt {a b w v : Nat} (hab : a + b ≤ 64) (hw : w < 2 ^ 64) (hv : v ≤ 2 ^ b - 1) : putN a w v b < 2 ^ 64 := Nat.or_lt_two_pow (andNot_lt hw) (field_lt hab hv)
theorem putN_bit {a b w v : Nat} (hab : a + b ≤ 64) (hw : w < 2 ^ 64) (hv : v ≤ 2 ^ b - 1) (i : Nat) :
    (putN a w v b).testBit i = if a ≤ i ∧ i < a + b then v.testBit (i - a) else w.testBit i := by
  rw [putN, Nat.testBit_or, andNot_testBit hw (field_lt hab (Nat.le_refl _)), Nat.testBit_shiftLeft, Nat.testBit_shiftLeft, Nat.testBit_two_pow_sub_one]
  have hp := Nat.two_pow_pos b
  by_cases h1 : a ≤ i
  · by_cases h2 : i < a + b
    · rw [if_pos ⟨h1, h2⟩]
      have : i - a < b := by omega
      simp [h1, this]
    · rw [if_neg (by omega)]
      have h3 : ¬ i - a < b := by omega
      have : v.testBit (i - a) = false := Nat.testBit_lt_two_pow (Nat.lt_of_lt_of_le (show v < 2 ^ b by omega) (Nat.pow_le_pow_right (by decide) (by omega)))
      simp [h3, this]
  · rw [if_neg (by omega)]
    simp [h1]
theorem Put_yes (a b w v : Int) (h : May a b ∧ ¬ most a b < v) : PFn Try.prog 24 [fld a b, .int .u64 w, .int .u64 v] [] (.tuple #[.int .u64 (bitsOp .or .u64 (bitsOp .andNot .u64 w (mask a b)) (shl .u64 v a)), .bool true]) :=
  (Put_calls a b w v).to (by rw [putF, if_pos h])
theorem Put_no (a b w v : Int) (h : ¬ (May a b ∧ ¬ most a b < v)) : PFn Try.prog 24 [fld a b, .int .u64 w, .int .u64 v] [] (.tuple #[.int .u64 0, .bool false]) :=
  (Put_calls a b w v).to (by rw [putF, if_neg h])
theorem pow_split (b : Nat) (h2 : b ≤ 64) : (2 ^ 64 - 1) >>> (64 - b) = 2 ^ b - 1 := by
  apply Nat.eq_of_testBit_eq
  intro i
  rw [Nat.testBit_shiftRight, Nat.testBit_two_pow_sub_one, Nat.testBit_two_pow_sub_one]
  congr 1
  simp only [eq_iff_iff]
  omega
theorem mostN (a b : Nat) (h1 : 1 ≤ b) (hab : a + b ≤ 64) : most a b = ((2 ^ b - 1 : Nat) : Int) := by
  rw [most, if_pos (by omega), show (64 : Int) - b = ((64 - b : Nat) : Int) by omega, show (18446744073709551615 : Int) = ((2 ^ 64 - 1 : Nat) : Int) from rfl, shr_nat _ (by decide), pow_split b (by omega)]
theorem maskN (a b : Nat) (h1 : 1 ≤ b) (hab : a + b ≤ 64) : mask a b = (((2 ^ b - 1) <<< a : Nat) : Int) := by
  rw [mask, if_pos (by omega), mostN a b h1 hab, shl_nat, Nat.mod_eq_of_lt (field_lt hab (Nat.le_refl _))]
theorem ofF_N (a b w : Nat) (hw : w < 2 ^ 64) (h1 : 1 ≤ b) (hab : a + b ≤ 64) : ofF a b w = ((ofN a b w : Nat) : Int) := by
  rw [ofF, if_pos (by omega), maskN a b h1 hab, and_nat hw (field_lt hab (Nat.le_refl _)), shr_nat _ (Nat.lt_of_le_of_lt Nat.and_le_left hw), ofN]
  congr 1
  apply Nat.eq_of_testBit_eq
  intro i
  rw [Nat.testBit_shiftRight, Nat.testBit_and, Nat.testBit_shiftLeft, Nat.testBit_two_pow_sub_one, Nat.testBit_mod_two_pow, Nat.testBit_shiftRight, Bool.and_comm]
  simp
theorem Most_N (a b : Nat) (h1 : 1 ≤ b) (hab : a + b ≤ 64) : PFn Try.prog 31 [fld a b] [] (u64 (2 ^ b - 1)) := (Most_calls a b).to (by rw [mostN a b h1 hab])
theorem Of_N (a b w : Nat) (hw : w < 2 ^ 64) (h1 : 1 ≤ b) (hab : a + b ≤ 64) : PFn Try.prog 25 [fld a b, u64 w] [] (u64 (ofN a b w)) := (Of_calls a b w).to (by rw [ofF_N a b w hw h1 hab])
theorem Put_N (a b w v : Nat) (hw : w < 2 ^ 64) (h1 : 1 ≤ b) (hab : a + b ≤ 64) (hv : v ≤ 2 ^ b - 1) : PFn Try.prog 24 [fld a b, u64 w, u64 v] [] (.tuple #[u64 (putN a w v b), .bool true]) :=
  (Put_yes a b w v (by rw [mostN a b h1 hab]; exact ⟨by omega, by omega⟩)).to (by
    rw [maskN a b h1 hab, andNot_nat hw (field_lt hab (Nat.le_refl _)), shl_nat, Nat.mod_eq_of_lt (field_lt hab hv), or_nat (andNot_lt hw) (field_lt hab hv)]; rfl)
theorem Put_NO (a b w v : Nat) (h1 : 1 ≤ b) (hab : a + b ≤ 64) (hv : ¬ v ≤ 2 ^ b - 1) : PFn Try.prog 24 [fld a b, u64 w, u64 v] [] (.tuple #[u64 0, .bool false]) :=
  Put_no a b w v (by rw [mostN a b h1 hab]; omega)
theorem ofN_bit (a b w i : Nat) : (ofN a b w).testBit i = (decide (i < b) && w.testBit (a + i)) := by
  rw [ofN, Nat.testBit_mod_two_pow, Nat.testBit_shiftRight]
theorem ofN_le (a b w : Nat) : ofN a b w ≤ 2 ^ b - 1 := by
  have := Nat.mod_lt (w >>> a) (Nat.two_pow_pos b)
  unfold ofN; omega
theorem bit_hi {w i : Nat} {b : Nat} (h : w ≤ 2 ^ b - 1) (hi : b ≤ i) : w.testBit i = false :=
  Nat.testBit_lt_two_pow (by have := Nat.two_pow_pos b; have : 2 ^ b ≤ 2 ^ i := Nat.pow_le_pow_right (by decide) hi; omega)
theorem of_put {a b w x : Nat} (hab : a + b ≤ 64) (hw : w < 2 ^ 64) (hx : x ≤ 2 ^ b - 1) : ofN a b (putN a w x b) = x := by
  apply Nat.eq_of_testBit_eq
  intro i
  rw [ofN_bit, putN_bit hab hw hx]
  by_cases h : i < b
  · rw [if_pos (by omega), Nat.add_sub_cancel_left]; simp [h]
  · simp [h, bit_hi hx (show b ≤ i by omega)]
theorem of_put_other {a b c d w x : Nat} (hab : a + b ≤ 64) (hw : w < 2 ^ 64) (hx : x ≤ 2 ^ b - 1) (hd : a + b ≤ c ∨ c + d ≤ a) : ofN c d (putN a w x b) = ofN c d w := by
  apply Nat.eq_of_testBit_eq
  intro i
  rw [ofN_bit, ofN_bit, putN_bit hab hw hx]
  by_cases h : i < d
  · rw [if_neg (by omega)]
  · simp [h]
theorem put_back {a b w x : Nat} (hab : a + b ≤ 64) (hw : w < 2 ^ 64) (hx : x ≤ 2 ^ b - 1) : putN a (putN a w x b) (ofN a b w) b = w := by
  apply Nat.eq_of_testBit_eq
  intro i
  rw [putN_bit hab (putN_lt hab hw hx) (ofN_le a b w), putN_bit hab hw hx, ofN_bit]
  by_cases h : a ≤ i ∧ i < a + b
  · rw [if_pos h, show a + (i - a) = i by omega]
    have : i - a < b := by omega
    simp [this]
  · rw [if_neg h, if_neg h]
end Go.Proofs.Ytblobkigbdcjeaa
