/- What may be done from a Join may be done from each of both (plain law). -/
import Derived.Test.YtnfepffmlhmmhaaWC5
namespace Go.Proofs.Ytnfepffmlhmmhaa
open Go.SL
theorem joinL_at {A B : List Int} {i : Nat} {x y : Int} (hx : A[i]? = some x) (hy : B[i]? = some y) : (joinL A B)[i]? = some (if x = y then x else -1) := by
  simp [joinL, List.getElem?_zipWith, hx, hy]
theorem joinL_set : ∀ {A B : List Int} {i : Nat} {v : Int}, A.length = B.length → (joinL A B).set i v = joinL (A.set i v) (B.set i v)
  | [], [], i, v, _ => by simp [joinL]
  | [], _ :: _, _, _, h => by simp at h
  | _ :: _, [], _, _, h => by simp at h
  | a :: A, b :: B, 0, v, h => by simp [joinL]
  | a :: A, b :: B, i + 1, v, h => by
    have ih := joinL_set (A := A) (B := B) (i := i) (v := v) (by simpa using h)
    simp only [joinL, List.zipWith_cons_cons, List.set_cons_succ, List.cons.injEq, true_and] at ih ⊢
    exact ih
theorem afterF_cases (m : Me) (y : Ins) (loc stk : List Int) (r : Row) :
    (r.is = false ∧ afterF m y loc stk r = .inl 8) ∨ (r.is = true ∧ afterF m y loc stk r = .inl 9) ∨
    (r.is = true ∧ -1 ∉ r.put ∧ ((stk.length - r.take.length + r.put.length : Nat) : Int) ≤ m.st ∧ ∀ loc', afterF m y loc' stk r = .inr (if y.op = 3 then loc'.set y.a.toNat (stk.getD (stk.length - r.take.length) 0) else loc', stk.take (stk.length - r.take.length) ++ r.put)) := by
  unfold afterF
  by_cases h1 : r.is = false
  · exact .inl ⟨h1, by rw [if_pos h1]⟩
  · have h1' : r.is = true := by simpa using h1
    by_cases h2 : stk.length < r.take.length ∨ ¬ fitsB (stk.drop (stk.length - r.take.length)) r.take ∨ -1 ∈ r.put
    · exact .inr (.inl ⟨h1', by rw [if_neg h1, if_pos h2]⟩)
    · by_cases h3 : m.st < ((stk.length - r.take.length + r.put.length : Nat) : Int)
      · exact .inr (.inl ⟨h1', by rw [if_neg h1, if_neg h2, if_pos h3]⟩)
      · refine .inr (.inr ⟨h1', fun h => h2 (.inr (.inr h)), by omega, fun loc' => by rw [if_neg h1, if_neg h2, if_neg h3]⟩)
/-- Rows of frames that are as long. -/
theorem row_len {im : Im} {m : Me} {L L' : List Int} {op a b : Int} (h : L.length = L'.length) (h2 : op ≠ 2) : rowOf im m L op a b = rowOf im m L' op a b := by
  have e : inL L a = inL L' a := by unfold inL; rw [h]
  unfold rowOf
  rw [if_neg h2, if_neg h2, e]
theorem ite_or {c : Prop} [Decidable c] {x y : Option Row} {r : Row} (h : (if c then x else y) = some r) : x = some r ∨ y = some r := by
  split at h
  · exact .inl h
  · exact .inr h
theorem row_put {im : Im} {m : Me} {L : List Int} {op a b : Int} {r : Row} (h : rowOf im m L op a b = some r) : r.put.length ≤ 1 := by
  unfold rowOf at h
  iterate 21
    rcases ite_or h with h | h
    · cases h
      first | exact Nat.le_refl 1 | exact Nat.zero_le 1
  cases h
theorem row_take {im : Im} {m : Me} {L : List Int} {op a b : Int} {r : Row} (h : rowOf im m L op a b = some r) : r.take.length ≤ 2 ∨ ∃ m' ∈ im.ms, r.take = m'.params := by
  have hc' : ∀ a, (callOf im a).getD [] = [] ∨ ∃ m' ∈ im.ms, (callOf im a).getD [] = m'.params := fun a => by
    unfold callOf
    split
    · cases hm : im.ms[a.toNat]? with
      | none => exact .inl rfl
      | some m' => exact .inr ⟨m', List.mem_of_getElem? hm, rfl⟩
    · exact .inl rfl
  unfold rowOf at h
  iterate 21
    rcases ite_or h with h | h
    · cases h
      first
        | exact .inl (Nat.le_refl 2)
        | exact .inl (Nat.le_succ 1)
        | exact .inl (Nat.zero_le 2)
        | exact (hc' a).imp (fun e => by simp only [e]; exact Nat.zero_le 2) id
  cases h
theorem row_two {im : Im} {m : Me} {L : List Int} {a b : Int} : rowOf im m L 2 a b = some ⟨inL L a, [], [if inL L a then L.getD a.toNat 0 else 0]⟩ := rfl
theorem stepF_row (im : Im) (mi at_ : Int) (S : List Int) : (∀ L, stepF im mi at_ L S = .inl 8) ∨ ∃ m y, im.ms[mi.toNat]? = some m ∧ ∀ L, stepF im mi at_ L S = match rowOf im m L y.op y.a y.b with | none => .inl 8 | some r => afterF m y L S r := by
  unfold stepF
  by_cases h1 : inL im.ms mi = true
  · cases hm : im.ms[mi.toNat]? with
    | none => exact .inl fun L => by rw [if_pos h1]
    | some m =>
      by_cases h2 : inL m.code at_ = true
      · cases hy : m.code[at_.toNat]? with
        | none => exact .inl fun L => by simp only [if_pos h1, if_pos h2, hy]
        | some y => exact .inr ⟨m, y, rfl, fun L => by simp only [if_pos h1, if_pos h2, hy]; rfl⟩
      · exact .inl fun L => by simp only [if_pos h1, if_neg h2]
  · exact .inl fun L => by rw [if_neg h1]
theorem step_sound (im : Im) (mi at_ : Int) (A B S : List Int) (h : A.length = B.length) :
    (stepF im mi at_ (joinL A B) S = .inl 8 ∧ stepF im mi at_ A S = .inl 8 ∧ stepF im mi at_ B S = .inl 8) ∨ stepF im mi at_ (joinL A B) S = .inl 9 ∨
    ∃ lA lB s, stepF im mi at_ (joinL A B) S = .inr (joinL lA lB, s) ∧ stepF im mi at_ A S = .inr (lA, s) ∧ stepF im mi at_ B S = .inr (lB, s) ∧ lA.length = A.length ∧ lB.length = B.length ∧ s.length ≤ S.length + 1 ∧ ∀ m, im.ms[mi.toNat]? = some m → (s.length : Int) ≤ m.st := by
  have hj : (joinL A B).length = A.length := joinL_length h
  rcases stepF_row im mi at_ S with h0 | ⟨m, y, hm, h0⟩
  · exact .inl ⟨h0 _, h0 _, h0 _⟩
  · have fin : ∀ r, (∀ op, rowOf im m A op y.a y.b = rowOf im m A op y.a y.b) → rowOf im m (joinL A B) y.op y.a y.b = some r → rowOf im m A y.op y.a y.b = some r → rowOf im m B y.op y.a y.b = some r → r.put.length ≤ 1 → (stepF im mi at_ (joinL A B) S = .inl 8 ∧ stepF im mi at_ A S = .inl 8 ∧ stepF im mi at_ B S = .inl 8) ∨ stepF im mi at_ (joinL A B) S = .inl 9 ∨
        ∃ lA lB s, stepF im mi at_ (joinL A B) S = .inr (joinL lA lB, s) ∧ stepF im mi at_ A S = .inr (lA, s) ∧ stepF im mi at_ B S = .inr (lB, s) ∧ lA.length = A.length ∧ lB.length = B.length ∧ s.length ≤ S.length + 1 ∧ ∀ m, im.ms[mi.toNat]? = some m → (s.length : Int) ≤ m.st := by
      intro r _ rJ rA rB hp
      rw [h0, h0, h0, rJ, rA, rB]
      simp only
      rcases afterF_cases m y (joinL A B) S r with ⟨hi, he⟩ | ⟨hi, he⟩ | ⟨hi, hp1, hst, he⟩
      · refine .inl ⟨he, ?_, ?_⟩ <;> simp [afterF, hi]
      · exact .inr (.inl he)
      · refine .inr (.inr ⟨if y.op = 3 then A.set y.a.toNat (S.getD (S.length - r.take.length) 0) else A, if y.op = 3 then B.set y.a.toNat (S.getD (S.length - r.take.length) 0) else B, _, ?_, he A, he B, ?_, ?_, ?_, ?_⟩)
        · rw [he]
          split
          · rw [joinL_set h]
          · rfl
        · split <;> simp
        · split <;> simp
        · simp only [List.length_append, List.length_take]; omega
        · intro m' hm'
          rw [hm] at hm'; cases hm'
          simp only [List.length_append, List.length_take]
          omega
    by_cases h2 : y.op = 2
    · -- what is loaded
      have eA : inL A y.a = inL (joinL A B) y.a := by unfold inL; rw [hj]
      have eB : inL B y.a = inL (joinL A B) y.a := by unfold inL; rw [hj, h]
      rw [h0, h0, h0, h2, row_two, row_two, row_two]
      by_cases hin : inL (joinL A B) y.a = true
      · have hr : 0 ≤ y.a ∧ y.a < (joinL A B).length := of_decide_eq_true hin
        obtain ⟨x, hx⟩ : ∃ z, A[y.a.toNat]? = some z := ⟨_, List.getElem?_eq_getElem (by omega)⟩
        obtain ⟨z, hz⟩ : ∃ z, B[y.a.toNat]? = some z := ⟨_, List.getElem?_eq_getElem (by omega)⟩
        have hjx := joinL_at hx hz
        by_cases hxz : x = z
        · subst hxz
          rw [if_pos rfl] at hjx
          have g1 : A.getD y.a.toNat 0 = x := by simp [List.getD, hx]
          have g2 : B.getD y.a.toNat 0 = x := by simp [List.getD, hz]
          have g3 : (joinL A B).getD y.a.toNat 0 = x := by simp [List.getD, hjx]
          have := fin ⟨true, [], [x]⟩ (fun _ => rfl) (by rw [h2, row_two, hin, if_pos rfl, g3]) (by rw [h2, row_two, eA, hin, if_pos rfl, g1]) (by rw [h2, row_two, eB, hin, if_pos rfl, g2]) (Nat.le_refl 1)
          rw [h0, h0, h0, h2, row_two, row_two, row_two] at this
          exact this
        · rw [if_neg hxz] at hjx
          have g3 : (joinL A B).getD y.a.toNat 0 = -1 := by simp [List.getD, hjx]
          refine .inr (.inl ?_)
          simp only [hin, if_true, g3]
          exact afterF_c (by simp)
      · have hin' : inL (joinL A B) y.a = false := by simpa using hin
        refine .inl ⟨?_, ?_, ?_⟩
        · simp [hin', afterF]
        · simp [eA, hin', afterF]
        · simp [eB, hin', afterF]
    · have rA := row_len (im := im) (m := m) (a := y.a) (b := y.b) hj h2
      have rB := row_len (im := im) (m := m) (a := y.a) (b := y.b) (hj.trans h) h2
      cases hrow : rowOf im m (joinL A B) y.op y.a y.b with
      | none =>
        refine .inl ⟨?_, ?_, ?_⟩
        · rw [h0, hrow]
        · rw [h0, ← rA, hrow]
        · rw [h0, ← rB, hrow]
      | some r =>
        refine fin r (fun _ => rfl) hrow (by rw [← rA, hrow]) (by rw [← rB, hrow]) ?_
        exact row_put hrow
end Go.Proofs.Ytnfepffmlhmmhaa
