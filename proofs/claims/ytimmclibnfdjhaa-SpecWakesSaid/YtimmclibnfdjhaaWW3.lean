/- The run of SpecWakes: the threads go on, the last woken first. -/
import Derived.Test.YtimmclibnfdjhaaWW2
namespace Go.Proofs.Ytimmclibnfdjhaa
open Go.SL
section
variable {D : Nat → Nat} {od : List Nat}
def f3 (D : Nat → Nat) (od : List Nat) (j u : Nat) : Th :=
  if u = 6 then ⟨none, 3, false⟩
  else if od.idxOf u < j then ⟨some (waitO 4 ((D u : Int) + 1) ((od.idxOf u : Int) + 1)), (D u : Int) + 2, false⟩ else ⟨none, (D u : Int) + 2 + ((D u : Int) + 1), false⟩
def St3 (D : Nat → Nat) (od : List Nat) (j : Nat) : St := S7 (f3 D od j) (-1, 0) (od.length : Int)
def St3g (D : Nat → Nat) (od : List Nat) (j t : Nat) : St := S7 (up (f3 D od (j + 1)) t ⟨some (waitO 5 ((D t : Int) + 1) ((j : Int) + 1)), (D t : Int) + 2, false⟩) ((t : Int), (D t : Int) + 1) (od.length : Int)
def St3k (D : Nat → Nat) (od : List Nat) (j t k : Nat) : St := S7 (up (f3 D od (j + 1)) t ⟨none, (D t : Int) + 2 + (k : Int), false⟩) (if k = D t + 1 then -1 else (t : Int), (D t : Int) + 1 - (k : Int)) (od.length : Int)
theorem p3_start (hall : ∀ u, u < 6 → u ∈ od ∧ od.idxOf u < 6) (hlt : ∀ u ∈ od, u < 6) : takesF (St2 D od 6) [Ev.act' 6 3 (-1), Ev.back 6 1 0 0, Ev.call 6 2 1 0, Ev.act' 6 1 0, Ev.back 6 2 0 0] = (true, St3 D od 6) := by
  have hl := long2_none (D := D) (od := od) (i := 6) (fun u hu => (hall u (hlt u hu)).2) (by decide)
  have hf : f2 D od 6 6 = ⟨some ⟨5, 0, 0, 1, 0, 0, 0, 0⟩, 2, false⟩ := rfl
  have e1 : takeF (St2 D od 6) (Ev.act' 6 3 (-1)) = (true, S7 (up (f2 D od 6) 6 ⟨some ⟨5, 0, 0, 5, 0, 0, 0, 0⟩, 2, false⟩) (6, 1) (od.length : Int)) := by
    have e := take_act (f := f2 D od 6) (p := (6, 1)) (r := (od.length : Int)) (t := 6) (by decide) hf rfl (by decide) (by decide) (by decide) (by decide) 3 (-1)
    refine e.trans ?_
    unfold stepF
    rw [if_neg (by decide), if_neg (by decide), if_neg (by simp), if_pos (.inr rfl)]
    unfold notifyF
    rw [if_pos ⟨rfl, by decide, hl.symm⟩, if_pos (by decide)]
    refine congrArg (Prod.mk true) ?_
    exact S7_opn hf
  have e2 := take_back (f := up (f2 D od 6) 6 ⟨some ⟨5, 0, 0, 5, 0, 0, 0, 0⟩, 2, false⟩) (p := (6, 1)) (r := (od.length : Int)) (t := 6) (by decide) (up_self ..) rfl (by decide) (by decide) (by decide) rfl 1 0 0 (by decide)
  rw [if_pos ⟨rfl, rfl⟩, up_up] at e2
  refine (takes_cons e1).trans ((takes_cons e2).trans ?_)
  have e3 := takes_exit (f := up (f2 D od 6) 6 ⟨none, 2, false⟩) (t := 6) (r := (od.length : Int)) (by decide) (up_self ..) (by decide) (by decide) (dp := 1) (by decide) (by decide) []
  refine e3.trans ?_
  rw [up_up, takesF]
  unfold St3
  refine congrArg (Prod.mk true) (S7_congr fun u hu => ?_)
  by_cases h6 : u = 6
  · subst h6; rw [up_self]; rfl
  · rw [up_ne h6, f2, f3, if_neg h6, if_neg h6]
    obtain ⟨h1, h2⟩ := hall u (by omega)
    rw [if_pos h1, if_pos h2, if_pos h2]
variable {j t : Nat} (hnd : od.Nodup) (h : od[j]? = some t) (ht : t < 6) (hD : D t ≤ 10)
include hnd h ht in
theorem f3_at : f3 D od (j + 1) t = ⟨some (waitO 4 ((D t : Int) + 1) ((j : Int) + 1)), (D t : Int) + 2, false⟩ := by
  obtain ⟨hm, hi⟩ := idx_at hnd h
  rw [f3, if_neg (by omega), hi, if_pos (Nat.lt_succ_self j)]
include hnd h ht in
theorem p3_grant : takeF (St3 D od (j + 1)) (Ev.act' t 5 0) = (true, St3g D od j t) := by
  have e := take_act (f := f3 D od (j + 1)) (p := (-1, 0)) (r := (od.length : Int)) (t := t) (by omega) (f3_at hnd h ht) rfl (by dsimp only; decide) (by dsimp only; decide) (by dsimp only; decide) (by dsimp only; decide) 5 0
  refine e.trans ?_
  unfold stepF
  rw [if_neg (by dsimp only; decide), if_neg (by dsimp only; decide), if_pos (.inl rfl)]
  unfold waitF
  rw [if_neg (by simp [Ev.act']), if_neg (by simp [Ev.act']), if_neg (by simp [Ev.act']), if_neg (by simp [Ev.act']), if_pos (by simp [Ev.act'])]
  refine congrArg (Prod.mk true) ?_
  exact S7_opn (p := ((t : Int), (D t : Int) + 1)) (f3_at hnd h ht)
theorem waits3 {u k : Nat} : waitsB [2, 3] 0 (f3 D od k u) = false := by
  rw [f3]
  split
  · rfl
  split <;> rfl
theorem p3_seen : seenB (St3g D od j t) t (1 + (D t : Int)) [] = true := by
  refine decide_eq_true ⟨?_, ?_⟩
  · show some ((t : Int), (D t : Int) + 1) = _
    rw [Int.add_comm]
  · unfold St3g
    rw [wlist_S7]
    · rfl
    · intro u _
      by_cases hu : u = t
      · subst hu; rw [up_self]; rfl
      · rw [up_ne hu]; exact waits3
include ht hD in
theorem p3_timed : takeF (St3g D od j t) (Ev.back t ((D t : Int) + 1) 0 1) = (false, St3g D od j t) := by
  have e := take_back (f := up (f3 D od (j + 1)) t ⟨some (waitO 5 ((D t : Int) + 1) ((j : Int) + 1)), (D t : Int) + 2, false⟩) (p := ((t : Int), (D t : Int) + 1)) (r := (od.length : Int)) (t := t) (by omega) (up_self ..) rfl (by dsimp only; decide) (by dsimp only; decide) (by dsimp only; decide) rfl ((D t : Int) + 1) 0 1 (by rw [dec_id (by omega) (by omega)]; omega)
  rw [if_neg (by simp)] at e
  exact e
include ht hD in
theorem p3_back : takeF (St3g D od j t) (Ev.back t ((D t : Int) + 1) 0 0) = (true, St3k D od j t 0) := by
  have e := take_back (f := up (f3 D od (j + 1)) t ⟨some (waitO 5 ((D t : Int) + 1) ((j : Int) + 1)), (D t : Int) + 2, false⟩) (p := ((t : Int), (D t : Int) + 1)) (r := (od.length : Int)) (t := t) (by omega) (up_self ..) rfl (by dsimp only; decide) (by dsimp only; decide) (by dsimp only; decide) rfl ((D t : Int) + 1) 0 0 (by rw [dec_id (by omega) (by omega)]; omega)
  rw [if_pos ⟨rfl, rfl⟩, up_up] at e
  refine e.trans ?_
  unfold St3k
  rw [if_neg (by omega)]
  simp
include ht hD in
theorem p3_exit {k : Nat} (hk : k ≤ D t) : takesF (St3k D od j t k) [Ev.call t ((D t : Int) + 2 + (k : Int)) 1 0, Ev.act' t 1 0, Ev.back t ((D t : Int) + 2 + (k : Int)) 0 0] = (true, St3k D od j t (k + 1)) := by
  unfold St3k
  rw [if_neg (by omega)]
  have e := takes_exit (f := up (f3 D od (j + 1)) t ⟨none, (D t : Int) + 2 + (k : Int), false⟩) (t := t) (r := (od.length : Int)) (by omega) (up_self ..) (by omega) (by omega) (dp := (D t : Int) + 1 - (k : Int)) (by omega) (by omega) []
  refine e.trans ?_
  rw [up_up, takesF]
  have e1 : (D t : Int) + 2 + ((k + 1 : Nat) : Int) = (D t : Int) + 2 + (k : Int) + 1 := by omega
  have e2 : (D t : Int) + 1 - ((k + 1 : Nat) : Int) = (D t : Int) + 1 - (k : Int) - 1 := by omega
  rw [e1, e2]
  by_cases hk2 : k = D t
  · rw [if_pos (by omega), if_pos (by omega)]
  · rw [if_neg (by omega), if_neg (by omega)]
include hnd h ht in
theorem st3_next : St3k D od j t (D t + 1) = St3 D od j := by
  obtain ⟨hm, hi⟩ := idx_at hnd h
  unfold St3k St3
  rw [if_pos rfl]
  have e1 : (D t : Int) + 1 - ((D t + 1 : Nat) : Int) = 0 := by omega
  rw [e1]
  refine S7_congr fun u hu => ?_
  by_cases hut : u = t
  · subst hut
    rw [up_self, f3, if_neg (by omega), hi, if_neg (Nat.lt_irrefl j)]
    rfl
  · rw [up_ne hut, f3, f3]
    by_cases h6 : u = 6
    · rw [if_pos h6, if_pos h6]
    · rw [if_neg h6, if_neg h6]
      have hneq : od.idxOf u ≠ j := fun he => by
        obtain ⟨h1, h2⟩ := List.getElem?_eq_some_iff.1 h
        have hl : od.idxOf u < od.length := by omega
        have h3 : od[od.idxOf u]'hl = u := List.getElem_idxOf hl
        apply hut
        rw [← h3, ← h2]
        congr 1
      by_cases hlt' : od.idxOf u < j
      · rw [if_pos hlt', if_pos (by omega)]
      · rw [if_neg hlt', if_neg (by omega)]
theorem p3_end : seenB (St3 D od 0) (-1) 0 [] = true := by
  refine decide_eq_true ⟨rfl, ?_⟩
  unfold St3
  rw [wlist_S7 fun u _ => waits3]
  rfl
end
end Go.Proofs.Ytimmclibnfdjhaa
