/- How far places are, walked. -/
import Derived.Test.YtifhhfeibnpaoaaWG
import Derived.Test.YtifhhfeibnpaoaaSlG8
namespace Go.Proofs.Ytifhhfeibnpaoaa
open Go.SL
set_option maxRecDepth 100000
set_option maxHeartbeats 16000000
attribute [local irreducible] SL.T PFn OpV SOL SWP HOp ChU
/-- What the map says. -/
def mapF (V : List Int) (d : Int → Int) : Int → Option Value := fun z => if z ∈ V then some (i64 (d z)) else none
theorem mapF_push {V : List Int} {d : Int → Int} {t e : Int} (ht : t ∉ V) : (fun q => if q = t then some (i64 e) else mapF V d q) = mapF (V ++ [t]) (upd d t e) := by
  funext q
  unfold mapF upd
  by_cases h : q = t
  · subst h; simp
  · simp [h]
theorem mapF_start : (fun q : Int => if q = 0 then some (i64 0) else (none : Option Value)) = mapF [0] (fun _ => 0) := by
  funext q; unfold mapF; simp
theorem nxt_length (cs : List Ins) (x : Int) : (nxt cs x).length ≤ 2 := by
  unfold nxt
  split
  · unfold nextL rise
    refine Nat.le_trans (compact_length_le _) ?_
    rw [List.length_mergeSort, List.length_append]
    split <;> split <;> simp
  · simp
structure SF where
  V : List Int
  i : Nat
  m : Nat
  d : Int → Int
  hM : Heap
  hQ : Heap
  bQ : Option Addr
  cQ : Nat
structure SG where
  V : List Int
  m : Nat
  d : Int → Int
  hM : Heap
  hQ : Heap
  bQ : Option Addr
  cQ : Nat
  k : Nat
end Go.Proofs.Ytifhhfeibnpaoaa
