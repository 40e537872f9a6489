/- The fields' functions of words, as natural numbers. -/
import Derived.Test.YthhlgaaamfeohaaWR3
import Derived.Test.YthhlgaaamfeohaaWT4
namespace Go.Proofs.Ythhlgaaamfeohaa
open Go.SL
set_option maxRecDepth 100000
set_option maxHeartbeats 16000000
theorem pow_split (b : Nat) (h2 : b ≤ 64) : (2 ^ 64 - 1) >>> (64 - b) = 2 ^ b - 1 := by
  apply Nat.eq_of_testBit_eq
  intro i
  rw [Nat.testBit_shiftRight, Nat.testBit_two_pow_sub_one, Nat.testBit_two_pow_sub_one]
  congr 1
  simp only [eq_iff_iff]
  omega
theorem mostN (a b : Nat) (h1 : 1 ≤ b) (hab : a + b ≤ 64) : most a b = ((2 ^ b - 1 : Nat) : Int) := by
  rw [most, if_pos (by omega), show (64 : Int) - b = ((64 - b : Nat) : Int) by omega, show (18446744073709551615 : Int) = ((2 ^ 64 - 1 : Nat) : Int) from rfl, shr_nat _ (by decide), pow_split b (by omega)]
theorem maskN (a b : Nat) (h1 : 1 ≤ b) (hab : a + b ≤ 64) : mask a b = (((2 ^ b - 1) <<< a : Nat) : Int) := by
  rw [mask, if_pos (by omega), mostN a b h1 hab, shl_nat, Nat.mod_eq_of_lt (field_lt hab (Nat.le_refl _))]
theorem ofF_N (a b w : Nat) (hw : w < 2 ^ 64) (h1 : 1 ≤ b) (hab : a + b ≤ 64) : ofF a b w = ((ofN a b w : Nat) : Int) := by
  rw [ofF, if_pos (by omega), maskN a b h1 hab, and_nat hw (field_lt hab (Nat.le_refl _)), shr_nat _ (Nat.lt_of_le_of_lt Nat.and_le_left hw), ofN]
  congr 1
  apply Nat.eq_of_testBit_eq
  intro i
  rw [Nat.testBit_shiftRight, Nat.testBit_and, Nat.testBit_shiftLeft, Nat.testBit_two_pow_sub_one, Nat.testBit_mod_two_pow, Nat.testBit_shiftRight, Bool.and_comm]
  simp
theorem Most_N (a b : Nat) (h1 : 1 ≤ b) (hab : a + b ≤ 64) : PFn Try.prog 10 [fld a b] [] (u64 (2 ^ b - 1)) := (Most_calls a b).to (by rw [mostN a b h1 hab])
theorem Of_N (a b w : Nat) (hw : w < 2 ^ 64) (h1 : 1 ≤ b) (hab : a + b ≤ 64) : PFn Try.prog 12 [fld a b, u64 w] [] (u64 (ofN a b w)) := (Of_calls a b w).to (by rw [ofF_N a b w hw h1 hab])
theorem Put_N (a b w v : Nat) (hw : w < 2 ^ 64) (h1 : 1 ≤ b) (hab : a + b ≤ 64) (hv : v ≤ 2 ^ b - 1) : PFn Try.prog 11 [fld a b, u64 w, u64 v] [] (.tuple #[u64 (putN a w v b), .bool true]) :=
  (Put_yes a b w v (by rw [mostN a b h1 hab]; exact ⟨by omega, by omega⟩)).to (by
    rw [maskN a b h1 hab, andNot_nat hw (field_lt hab (Nat.le_refl _)), shl_nat, Nat.mod_eq_of_lt (field_lt hab hv), or_nat (andNot_lt hw) (field_lt hab hv)]; rfl)
theorem Put_NO (a b w v : Nat) (h1 : 1 ≤ b) (hab : a + b ≤ 64) (hv : ¬ v ≤ 2 ^ b - 1) : PFn Try.prog 11 [fld a b, u64 w, u64 v] [] (.tuple #[u64 0, .bool false]) :=
  Put_no a b w v (by rw [mostN a b h1 hab]; omega)
end Go.Proofs.Ythhlgaaamfeohaa
