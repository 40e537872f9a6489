/- How far places are: as a row. -/
import Derived.Test.YtifhhfeibnpaoaaWF
import Derived.Test.YtifhhfeibnpaoaaSlG8
namespace Go.Proofs.Ytifhhfeibnpaoaa
open Go.SL
set_option maxRecDepth 100000
set_option maxHeartbeats 16000000
attribute [local irreducible] SL.T PFn OpV SOL SWP HOp ChU
theorem set_cells {gs : List Int} {k j : Nat} {z : Int} (e : k = j) (hk : j < gs.length) : (gs.map i64).take k ++ [i64 z] ++ (gs.map i64).drop (k + 1) = (gs.set j z).map i64 := by
  subst e
  rw [List.map_set, List.set_eq_take_append_cons_drop, if_pos (by simpa using hk)]
  simp
/-- How far a place is; -1: it is not come to. -/
def farOf (V : List Int) (d : Int → Int) (z : Int) : Int := if z ∈ V then d z else -1
def farL (n : Nat) (V : List Int) (d : Int → Int) : List Int := (List.range n).map fun (z : Nat) => farOf V d (z : Int)
def farP (n : Nat) (V : List Int) (d : Int → Int) (j : Nat) : List Int := (farL n V d).take j ++ List.replicate (n - j) 0
theorem farL_length {n : Nat} {V : List Int} {d : Int → Int} : (farL n V d).length = n := by simp [farL]
theorem farP_length {n : Nat} {V : List Int} {d : Int → Int} {j : Nat} (hj : j ≤ n) : (farP n V d j).length = n := by simp [farP, farL_length]; omega
theorem farL_at {n : Nat} {V : List Int} {d : Int → Int} {j : Nat} (hj : j < n) : (farL n V d)[j]? = some (farOf V d (j : Int)) := by simp [farL, hj]
theorem farP_set {n : Nat} {V : List Int} {d : Int → Int} {j : Nat} (hj : j < n) (z : Int) (hz : z = farOf V d (j : Int)) (y : Int) : ((farP n V d j).set j y).set j z = farP n V d (j + 1) ∧ (farP n V d j).set j z = farP n V d (j + 1) := by
  have h1 : (farP n V d j).set j z = farP n V d (j + 1) := by
    unfold farP
    rw [List.set_append_right _ _ (by simp [farL_length]; omega), List.length_take, farL_length, show min j n = j by omega, Nat.sub_self, show n - j = (n - (j + 1)) + 1 by omega, List.replicate_succ, List.set_cons_zero, List.take_add_one, farL_at hj, hz]
    simp
  exact ⟨by rw [List.set_set]; exact h1, h1⟩
structure SH where
  j : Nat
  h : Heap
end Go.Proofs.Ytifhhfeibnpaoaa
