/- Picks as data, and their cells. -/
import Derived.Test.YtobcmglbdmaceaaGreatDoorSlGa
import Derived.Test.YtobcmglbdmaceaaGreatDoorWTy
set_option linter.unusedVariables false
set_option linter.unusedSimpArgs false
set_option linter.unusedSectionVars false
namespace Go.Proofs.YtobcmglbdmaceaaGreatDoor
open Go.SL
abbrev i64 (a : Int) : Value := .int .i64 a
abbrev ptr (b : Nat) : Value := .pointer (some ⟨b, 0, none⟩)
/-- A pick. -/
structure Pk where
  th : Int
  kd : Int
/-- The cells of picks. -/
def flatP : List Pk → List Value
  | [] => []
  | p :: l => i64 p.th :: i64 p.kd :: flatP l
theorem flatP_length : ∀ l : List Pk, (flatP l).length = l.length * 2
  | [] => rfl
  | x :: l => by simp [flatP, flatP_length l]; omega
theorem flatP_append : ∀ (l m : List Pk), flatP (l ++ m) = flatP l ++ flatP m
  | [], m => rfl
  | x :: l, m => by simp [flatP, flatP_append l m]
theorem flatP_at : ∀ {l : List Pk} {i : Nat} {x : Pk}, l[i]? = some x → (flatP l)[i * 2]? = some (i64 x.th) ∧ (flatP l)[i * 2 + 1]? = some (i64 x.kd)
  | [], i, x, h => by simp at h
  | y :: l, 0, x, h => by simp at h; subst h; simp [flatP]
  | y :: l, i + 1, x, h => by
    have := flatP_at (l := l) (i := i) (x := x) (by simpa using h)
    have e : (i + 1) * 2 = i * 2 + 1 + 1 := by omega
    rw [e]
    simpa [flatP, Nat.add_right_comm _ 1 1] using this
/-- Some of the heaps, in whatever order. -/
theorem sub_perm {own hs rest : List Heap} [t : TakeL own hs rest] : ∀ (F : Heap) w, Sat (F :: own) w → Sat (F :: hs) w :=
  fun F w s => (s.perm (t.perm.cons F)).sub (List.Sublist.cons_cons F (List.sublist_append_left _ _))
theorem end_retZ {P : Program} {n : Nat} {fn : Func} {env : Env} {own own1 : List Heap} {ds : List Deferred} {v : Value} {Q : Ending → List Heap → Prop} (hs : List Heap) {rest : List Heap} [m : Marks ds own own1] [t : TakeL own1 hs rest] (hr : ResOk P fn.results.toList own1 env n v)
    (hq : Q (.returned v) hs) : bodyQ P fn n Q .ret env own ds := ⟨v, own1, hs, m, hr, sub_perm, hq⟩
end Go.Proofs.YtobcmglbdmaceaaGreatDoor
