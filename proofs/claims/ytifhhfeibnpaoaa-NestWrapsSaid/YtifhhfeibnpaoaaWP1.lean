/- Methods that are drawn are right: pieces with the stacks ahead of their places. -/
import Derived.Test.YtifhhfeibnpaoaaWD4
import Derived.Test.YtifhhfeibnpaoaaWA14
namespace Go.Proofs.Ytifhhfeibnpaoaa
open Go.SL
set_option maxRecDepth 100000
abbrev LIns := Ins × List Int
def opsOf (L : List LIns) : List Ins := L.map (·.1)
/-- The stack ahead of a place. -/
def lb (L : List LIns) (e : List Int) (t : Nat) : List Int := ((L[t]?).map (·.2)).getD e
def nf (L : List LIns) (t : Nat) : Prop := ∀ y, L[t]? = some y → ¬ five y.1.1
/-- What an instruction at a place does is right. -/
inductive Good (L : List LIns) (e : List Int) (i : Nat) : Ins → List Int → Prop
  | ask {op a b k kb : Int} {s s0 s' : List Int} {j : Nat} (h5 : five op) (hj : i = j + 1) (hp : L[j]? = some ((2, k, kb), s0)) (hd : doF op k s = some s') (hn : lb L e (i + 1) = s') : Good L e i (op, a, b) s
  | store {a b : Int} {s : List Int} (h : a ∉ s) (hn : lb L e (i + 1) = s) : Good L e i (3, a, b) s
  | jump {a : Nat} {b : Int} {s : List Int} (ha : a ≤ L.length) (ht : lb L e a = s) (h1 : nf L a) (h2 : nf L (i + 1)) : Good L e i (6, (a : Int), b) s
  | zero {a : Nat} {b : Int} {s : List Int} (ha : a ≤ L.length) (ht : lb L e a = s) (h1 : nf L a) (h2 : nf L (i + 1)) (hn : lb L e (i + 1) = s) : Good L e i (7, (a : Int), b) s
  | plain {op a b : Int} {s : List Int} (h : op = 0 ∨ op = 1 ∨ op = 2 ∨ op = 19) (hn : lb L e (i + 1) = s) : Good L e i (op, a, b) s
  | ret {a b : Int} (h2 : nf L (i + 1)) : Good L e i (20, a, b) []
/-- Code that is right, from a stack to a stack. -/
structure OKw (L : List LIns) (s e : List Int) : Prop where
  first : lb L e 0 = s
  nf0 : nf L 0
  good : ∀ i x t, L[i]? = some (x, t) → Good L e i x t
structure OKp (L : List LIns) (s e : List Int) : Prop where
  first : lb L e 0 = s
  nf0 : nf L 0
  good : ∀ i x t, L[i]? = some (x, t) → Good L e i x t
  small : ∀ y ∈ L, y.2.length ≤ 6 ∧ (jmp y.1.1 ∨ (0 ≤ y.1.2.1 ∧ y.1.2.1 < 7))
def mvL (o : Nat) (y : LIns) : LIns := (mv o y.1, y.2)
theorem mv_no {o : Nat} {op a b : Int} (h : ¬ jmp op) : mv o (op, a, b) = (op, a, b) := if_neg h
theorem mv_jmp {o : Nat} {op a b : Int} (h : jmp op) : mv o (op, a, b) = (op, a + o, b) := if_pos h
theorem mv_op (o : Nat) (x : Ins) : (mv o x).1 = x.1 := by unfold mv; split <;> rfl
theorem mv_zero (x : Ins) : mv 0 x = x := by unfold mv; split <;> simp
theorem mvL_zero (y : LIns) : mvL 0 y = y := by unfold mvL; rw [mv_zero]
theorem five_no {op : Int} (h : five op) : ¬ jmp op := by
  rcases five_iff.1 h with rfl | rfl | rfl | rfl | rfl <;> decide
/-- A part of code. -/
structure Emb (M : List LIns) (e' : List Int) (o : Nat) (L : List LIns) (e : List Int) : Prop where
  at_ : ∀ k y, L[k]? = some y → M[o + k]? = some (mvL o y)
  len : o + L.length ≤ M.length
  fin : lb M e' (o + L.length) = e
  nfin : nf M (o + L.length)
section
variable {M L : List LIns} {e e' s : List Int} {o : Nat}
theorem Emb.lbE (h : Emb M e' o L e) {k : Nat} (hk : k ≤ L.length) : lb M e' (o + k) = lb L e k := by
  rcases Nat.lt_or_ge k L.length with hlt | hge
  · obtain ⟨y, hy⟩ : ∃ y, L[k]? = some y := ⟨_, List.getElem?_eq_getElem hlt⟩
    unfold lb
    rw [h.at_ k y hy, hy]; rfl
  · obtain rfl : k = L.length := by omega
    rw [h.fin]
    unfold lb
    rw [List.getElem?_eq_none (Nat.le_refl _)]; rfl
theorem Emb.nfE (h : Emb M e' o L e) {k : Nat} (hk : k ≤ L.length) (hn : nf L k) : nf M (o + k) := by
  rcases Nat.lt_or_ge k L.length with hlt | hge
  · obtain ⟨y, hy⟩ : ∃ y, L[k]? = some y := ⟨_, List.getElem?_eq_getElem hlt⟩
    intro z hz
    rw [h.at_ k y hy] at hz
    cases hz
    show ¬ five (mv o y.1).1
    rw [mv_op]
    exact hn y hy
  · obtain rfl : k = L.length := by omega
    exact h.nfin
theorem Emb.good (h : Emb M e' o L e) {k : Nat} {x : Ins} {t : List Int} (hx : L[k]? = some (x, t)) (hg : Good L e k x t) : Good M e' (o + k) (mv o x) t := by
  have hk := (List.getElem?_eq_some_iff.1 hx).1
  have h1 : lb M e' (o + k + 1) = lb L e (k + 1) := h.lbE (k := k + 1) hk
  cases hg with
  | @ask op a b kk kb _ s0 s' j h5 hj hp hd hn =>
    rw [mv_no (five_no h5)]
    subst hj
    have := h.at_ j _ hp
    rw [mvL, mv_no (by decide)] at this
    exact .ask h5 rfl this hd (h1.trans hn)
  | store h2 hn => rw [mv_no (by decide)]; exact .store h2 (h1.trans hn)
  | @jump a b _ ha ht h2 h3 =>
    rw [mv_jmp (by decide), show (a : Int) + (o : Int) = ((o + a : Nat) : Int) by omega]
    exact .jump (by have := h.len; omega) ((h.lbE ha).trans ht) (h.nfE ha h2) (h.nfE (k := k + 1) hk h3)
  | @zero a b _ ha ht h2 h3 hn =>
    rw [mv_jmp (by decide), show (a : Int) + (o : Int) = ((o + a : Nat) : Int) by omega]
    exact .zero (by have := h.len; omega) ((h.lbE ha).trans ht) (h.nfE ha h2) (h.nfE (k := k + 1) hk h3) (h1.trans hn)
  | plain h2 hn =>
    rw [mv_no (by rcases h2 with rfl | rfl | rfl | rfl <;> decide)]
    exact .plain h2 (h1.trans hn)
  | ret h2 => rw [mv_no (by decide)]; exact .ret (h.nfE (k := k + 1) hk h2)
end
theorem small_mv {o : Nat} {y : LIns} (h : y.2.length ≤ 6 ∧ (jmp y.1.1 ∨ (0 ≤ y.1.2.1 ∧ y.1.2.1 < 7))) : (mvL o y).2.length ≤ 6 ∧ (jmp (mvL o y).1.1 ∨ (0 ≤ (mvL o y).1.2.1 ∧ (mvL o y).1.2.1 < 7)) := by
  refine ⟨h.1, ?_⟩
  show jmp (mv o y.1).1 ∨ _
  rw [mv_op]
  rcases h.2 with h | h
  · exact .inl h
  · by_cases hj : jmp y.1.1
    · exact .inl hj
    · have e : mvL o y = y := by unfold mvL mv; rw [if_neg hj]
      rw [e]; exact .inr h
theorem nf_out {L : List LIns} {t : Nat} (h : L.length ≤ t) : nf L t := fun y hy => by rw [List.getElem?_eq_none h] at hy; cases hy
theorem lb_out {L : List LIns} {e : List Int} {t : Nat} (h : L.length ≤ t) : lb L e t = e := by unfold lb; rw [List.getElem?_eq_none h]; rfl
theorem lb_at {L : List LIns} {e : List Int} {t : Nat} {y : LIns} (h : L[t]? = some y) : lb L e t = y.2 := by unfold lb; rw [h]; rfl
theorem nf_at {L : List LIns} {t : Nat} {y : LIns} (h : L[t]? = some y) (h2 : ¬ five y.1.1) : nf L t := fun z hz => by rw [h] at hz; cases hz; exact h2
/-- One part behind the other. -/
def seqL (L M : List LIns) : List LIns := L ++ M.map (mvL L.length)
theorem seqL_ops (L M : List LIns) : opsOf (seqL L M) = opsOf L ++ (opsOf M).map (mv L.length) := by
  simp [opsOf, seqL, mvL, Function.comp_def]
theorem seqL_l {L M : List LIns} {k : Nat} {y : LIns} (h : L[k]? = some y) : (seqL L M)[k]? = some y := by
  unfold seqL; rw [List.getElem?_append_left (List.getElem?_eq_some_iff.1 h).1]; exact h
theorem seqL_r {L M : List LIns} {k : Nat} : (seqL L M)[L.length + k]? = (M[k]?).map (mvL L.length) := by
  unfold seqL; rw [List.getElem?_append_right (by omega), List.getElem?_map]; congr 2; omega
theorem seqL_length (L M : List LIns) : (seqL L M).length = L.length + M.length := by simp [seqL]
theorem OKw.seq {L M : List LIns} {s t u : List Int} (h1 : OKw L s t) (h2 : OKw M t u) : OKw (seqL L M) s u := by
  have hl := seqL_length L M
  have em : Emb (seqL L M) u L.length M u := ⟨fun k y hy => by rw [seqL_r, hy]; rfl, by omega, lb_out (by omega), nf_out (by omega)⟩
  have el : Emb (seqL L M) u 0 L t := ⟨fun k y hy => by rw [Nat.zero_add, mvL_zero]; exact seqL_l hy, by omega, by
      rw [Nat.zero_add]; exact (em.lbE (k := 0) (Nat.zero_le _)).trans h2.first, by rw [Nat.zero_add]; exact em.nfE (k := 0) (Nat.zero_le _) h2.nf0⟩
  refine ⟨(el.lbE (k := 0) (Nat.zero_le _)).trans h1.first, el.nfE (k := 0) (Nat.zero_le _) h1.nf0, fun i x r hi => ?_⟩
  rcases Nat.lt_or_ge i L.length with hlt | hge
  · obtain ⟨y, hy⟩ : ∃ y, L[i]? = some y := ⟨_, List.getElem?_eq_getElem hlt⟩
    rw [seqL_l hy] at hi; cases hi
    have := el.good hy (h1.good i x r hy)
    rwa [Nat.zero_add, mv_zero] at this
  · obtain ⟨k, rfl⟩ : ∃ k, i = L.length + k := ⟨i - L.length, by omega⟩
    rw [seqL_r, Option.map_eq_some_iff] at hi
    obtain ⟨⟨x', r'⟩, hy, e⟩ := hi
    cases e
    exact em.good hy (h2.good k x' r' hy)
theorem OKp.w {L : List LIns} {s e : List Int} (h : OKp L s e) : OKw L s e := ⟨h.first, h.nf0, h.good⟩
theorem OKp.seq {L M : List LIns} {s t u : List Int} (h1 : OKp L s t) (h2 : OKp M t u) : OKp (seqL L M) s u := by
  have h := h1.w.seq h2.w
  refine ⟨h.first, h.nf0, h.good, fun y hy => ?_⟩
  unfold seqL at hy
  rcases List.mem_append.1 hy with hy | hy
  · exact h1.small y hy
  · obtain ⟨z, hz, rfl⟩ := List.mem_map.1 hy
    exact small_mv (h2.small z hz)
end Go.Proofs.Ytifhhfeibnpaoaa
