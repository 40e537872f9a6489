/- The stack behind a place, as both have it. -/
import Derived.Test.YtifhhfeibnpaoaaWA7
import Derived.Test.YtifhhfeibnpaoaaSlG8
namespace Go.Proofs.Ytifhhfeibnpaoaa
open Go.SL
set_option maxRecDepth 100000
set_option maxHeartbeats 16000000
attribute [local irreducible] SL.T PFn OpV SOL SWP HOp ChU
/-- What an instruction does to a stack, with a local. -/
def doF (op k : Int) (s : List Int) : Option (List Int) :=
  if op = 12 then if s.length < 8 ∧ k ∉ s then some (s ++ [k]) else none
  else if op = 13 then if s.getLast? = some k then some s.dropLast else none
  else if op = 14 ∨ op = 15 ∨ op = 16 then if k ∈ s then some s else none
  else if op = 3 then if k ∉ s then some s else none
  else if op = 20 then if s = [] then some s else none
  else some s
/-- The stack behind a place. -/
def behF (cs : List Ins) (z : Nat) (s : List Int) : Option (List Int) :=
  let x := cs.getD z (0, 0, 0)
  if five x.1 ∧ askO cs z = none then none
  else doF x.1 (if x.1 = 3 then x.2.1 else (askO cs z).getD 0) s
/-- Going through a method: the places that were come to, their stacks, the place under way, how many of its next ones are behind, and what was found (-1: nothing is wrong). -/
structure GS where
  V : List Int
  stk : Int → List Int
  i : Nat
  k : Nat
  res : Option Int
def GS.start : GS := ⟨[0], fun _ => [], 0, 0, none⟩
def GS.step (cs : List Ins) (g : GS) : GS :=
  if g.res.isSome then g else
  match g.V[g.i]? with
  | none => { g with res := some (-1) }
  | some z => match behF cs z.toNat (g.stk z) with
    | none => { g with res := some z }
    | some s => match (nxt cs z)[g.k]? with
      | none => { g with i := g.i + 1, k := 0 }
      | some t =>
        if 0 ≤ t ∧ t < cs.length then
          if t ∈ g.V then if g.stk t = s then { g with k := g.k + 1 } else { g with res := some t }
          else { g with V := g.V ++ [t], stk := fun q => if q = t then s else g.stk q, k := g.k + 1 }
        else { g with k := g.k + 1 }
def GS.run (cs : List Ins) : Nat → GS
  | 0 => .start
  | n + 1 => (GS.run cs n).step cs
theorem GS.stays {cs : List Ins} {n : Nat} (h : (GS.run cs n).res.isSome) : ∀ m, n ≤ m → GS.run cs m = GS.run cs n := by
  intro m hm
  induction m with
  | zero =>
    obtain rfl : n = 0 := by omega
    rfl
  | succ m ih =>
    rcases Nat.lt_or_ge m n with hlt | hge
    · obtain rfl : n = m + 1 := by omega
      rfl
    · have e := ih hge
      rw [GS.run, e, GS.step, if_pos h]
/-- Both ends are one. -/
theorem GS.one {cs : List Ins} {n m : Nat} (h1 : (GS.run cs n).res.isSome) (h2 : (GS.run cs m).res.isSome) : GS.run cs n = GS.run cs m := by
  rcases Nat.le_total n m with h | h
  · exact (GS.stays h1 m h).symm
  · exact GS.stays h2 n h
end Go.Proofs.Ytifhhfeibnpaoaa
