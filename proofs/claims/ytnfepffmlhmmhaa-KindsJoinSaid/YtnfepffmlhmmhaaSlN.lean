/- Words of 64 bits as natural numbers. -/
import Derived.Test.YtnfepffmlhmmhaaSlL
namespace Go.SL
abbrev u64 (n : Nat) : Value := .int .u64 (n : Int)

theorem wrap_u64 (n : Nat) : IntKind.u64.wrap (n : Int) = ((n % 2 ^ 64 : Nat) : Int) := by
  simp only [IntKind.wrap, IntKind.bits, IntKind.signed, Bool.false_and, Bool.false_eq_true, if_false]
  norm_cast
theorem wrap_u64' {n : Nat} (h : n < 2 ^ 64) : IntKind.u64.wrap (n : Int) = (n : Int) := by rw [wrap_u64, Nat.mod_eq_of_lt h]
theorem shr_nat {a : Nat} (b : Nat) (h : a < 2 ^ 64) : shr .u64 (a : Int) (b : Int) = ((a >>> b : Nat) : Int) := by
  have e : ∀ k : Nat, (a : Int).fdiv (2 ^ k) = ((a >>> k : Nat) : Int) := fun k => by
    rw [Int.fdiv_eq_ediv_of_nonneg _ (Int.le_of_lt (Int.pow_pos (by decide))), Nat.shiftRight_eq_div_pow]
    norm_cast
  simp only [shr, IntKind.bits, Int.toNat_natCast]
  rw [e]
  by_cases hb : b ≤ 64
  · rw [Nat.min_eq_left hb]
  · rw [Nat.min_eq_right (by omega), Nat.shiftRight_eq_div_pow, Nat.shiftRight_eq_div_pow, Nat.div_eq_of_lt h, Nat.div_eq_of_lt (Nat.lt_of_lt_of_le h (Nat.pow_le_pow_right (by decide) (by omega)))]
theorem shl_nat (a b : Nat) : shl .u64 (a : Int) (b : Int) = ((a <<< b % 2 ^ 64 : Nat) : Int) := by
  simp only [shl, IntKind.bits, Int.toNat_natCast]
  have : (a : Int) * 2 ^ (min b 64) = ((a * 2 ^ min b 64 : Nat) : Int) := by norm_cast
  rw [this, wrap_u64, Nat.shiftLeft_eq]
  by_cases hb : b ≤ 64
  · rw [Nat.min_eq_left hb]
  · rw [Nat.min_eq_right (by omega)]
    have e : 2 ^ b = 2 ^ 64 * 2 ^ (b - 64) := by rw [← Nat.pow_add]; congr 1; omega
    rw [Nat.mul_mod_left, e, ← Nat.mul_assoc, Nat.mul_right_comm, Nat.mul_mod_left]
theorem ofInt_nat (a : Nat) : BitVec.ofInt 64 (a : Int) = BitVec.ofNat 64 a := by simp
theorem and_nat {a b : Nat} (ha : a < 2 ^ 64) (hb : b < 2 ^ 64) : bitsOp .and .u64 (a : Int) (b : Int) = ((a &&& b : Nat) : Int) := by
  show IntKind.u64.wrap (((BitVec.ofInt 64 (a : Int) &&& BitVec.ofInt 64 (b : Int)).toNat : Nat) : Int) = _
  rw [wrap_u64' (BitVec.isLt _), ofInt_nat, ofInt_nat, BitVec.toNat_and, BitVec.toNat_ofNat, BitVec.toNat_ofNat, Nat.mod_eq_of_lt ha, Nat.mod_eq_of_lt hb]
theorem or_nat {a b : Nat} (ha : a < 2 ^ 64) (hb : b < 2 ^ 64) : bitsOp .or .u64 (a : Int) (b : Int) = ((a ||| b : Nat) : Int) := by
  show IntKind.u64.wrap (((BitVec.ofInt 64 (a : Int) ||| BitVec.ofInt 64 (b : Int)).toNat : Nat) : Int) = _
  rw [wrap_u64' (BitVec.isLt _), ofInt_nat, ofInt_nat, BitVec.toNat_or, BitVec.toNat_ofNat, BitVec.toNat_ofNat, Nat.mod_eq_of_lt ha, Nat.mod_eq_of_lt hb]
theorem xor_nat {a b : Nat} (ha : a < 2 ^ 64) (hb : b < 2 ^ 64) : bitsOp .xor .u64 (a : Int) (b : Int) = ((a ^^^ b : Nat) : Int) := by
  show IntKind.u64.wrap (((BitVec.ofInt 64 (a : Int) ^^^ BitVec.ofInt 64 (b : Int)).toNat : Nat) : Int) = _
  rw [wrap_u64' (BitVec.isLt _), ofInt_nat, ofInt_nat, BitVec.toNat_xor, BitVec.toNat_ofNat, BitVec.toNat_ofNat, Nat.mod_eq_of_lt ha, Nat.mod_eq_of_lt hb]
/-- The bits of one that are none of another one's. -/
def andNot (a b : Nat) : Nat := a &&& (2 ^ 64 - (b + 1))
theorem andNot_nat {a b : Nat} (ha : a < 2 ^ 64) (hb : b < 2 ^ 64) : bitsOp .andNot .u64 (a : Int) (b : Int) = ((andNot a b : Nat) : Int) := by
  show IntKind.u64.wrap (((BitVec.ofInt 64 (a : Int) &&& ~~~ BitVec.ofInt 64 (b : Int)).toNat : Nat) : Int) = _
  rw [wrap_u64' (BitVec.isLt _), ofInt_nat, ofInt_nat, BitVec.toNat_and, BitVec.toNat_not, BitVec.toNat_ofNat, BitVec.toNat_ofNat, Nat.mod_eq_of_lt ha, Nat.mod_eq_of_lt hb, andNot]
  rw [show 2 ^ 64 - 1 - b = 2 ^ 64 - (b + 1) by omega]
theorem andNot_testBit {a b : Nat} (ha : a < 2 ^ 64) (hb : b < 2 ^ 64) (i : Nat) : (andNot a b).testBit i = (a.testBit i && !b.testBit i) := by
  rw [andNot, Nat.testBit_and, Nat.testBit_two_pow_sub_succ hb]
  by_cases hi : i < 64
  · simp [hi]
  · have : a.testBit i = false := Nat.testBit_lt_two_pow (Nat.lt_of_lt_of_le ha (Nat.pow_le_pow_right (by decide) (by omega)))
    simp [this]
theorem andNot_lt {a b : Nat} (ha : a < 2 ^ 64) : andNot a b < 2 ^ 64 := Nat.lt_of_le_of_lt Nat.and_le_left ha
theorem shl_one {q : Nat} (h : q < 2 ^ 63) : shl .u64 (q : Int) 1 = ((q * 2 : Nat) : Int) := by
  have := shl_nat q 1
  rw [show ((1 : Nat) : Int) = 1 from rfl] at this
  rw [this, Nat.shiftLeft_eq, Nat.pow_one, Nat.mod_eq_of_lt (by omega)]
theorem shl_one_add {q : Nat} (h : q < 2 ^ 63) : IntKind.u64.wrap (shl .u64 (q : Int) 1 + 1) = ((q * 2 + 1 : Nat) : Int) := by
  rw [shl_one h, show ((q * 2 : Nat) : Int) + 1 = ((q * 2 + 1 : Nat) : Int) by omega, wrap_u64' (by omega)]
theorem testBit_mod (w i : Nat) : (w >>> i) % 2 = (w.testBit i).toNat := by
  rw [Nat.testBit, Nat.and_comm, Nat.and_one_is_mod]
  rcases Nat.mod_two_eq_zero_or_one (w >>> i) with h | h <;> rw [h] <;> rfl
/-- One bit more, from below. -/
theorem bits_step (w i m : Nat) : (w >>> i) % 2 ^ (m + 1) = (w >>> (i + 1)) % 2 ^ m * 2 + (w.testBit i).toNat := by
  rw [← testBit_mod, Nat.pow_succ, Nat.mul_comm (2 ^ m) 2, Nat.mod_mul, Nat.shiftRight_succ]
  omega
end Go.SL
