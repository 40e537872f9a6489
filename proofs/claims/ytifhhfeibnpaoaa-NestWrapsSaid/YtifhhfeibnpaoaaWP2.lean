/- Methods that are drawn are right: pieces. -/
import Derived.Test.YtifhhfeibnpaoaaWP1
namespace Go.Proofs.Ytifhhfeibnpaoaa
open Go.SL
set_option maxRecDepth 100000
theorem opsOf_append (L M : List LIns) : opsOf (L ++ M) = opsOf L ++ opsOf M := by simp [opsOf]
theorem opsOf_mv (o : Nat) (L : List LIns) : opsOf (L.map (mvL o)) = (opsOf L).map (mv o) := by simp [opsOf, mvL, Function.comp_def]
theorem opsOf_length (L : List LIns) : (opsOf L).length = L.length := by simp [opsOf]
def testL (v : Int) (s : List Int) (A B : List LIns) : List LIns := [((0, v, 0), s), ((7, ((A.length + 3 : Nat) : Int), 0), s)] ++ (A.map (mvL 2) ++ (((6, ((A.length + 3 + B.length : Nat) : Int), 0), s) :: B.map (mvL (A.length + 3))))
theorem testL_ops (v : Int) (s : List Int) (A B : List LIns) : opsOf (testL v s A B) = joinF 0 [[(0, v, 0)], [(7, ((opsOf A).length : Int) + 2, 0)], opsOf A, [(6, ((opsOf B).length : Int) + 1, 0)], opsOf B] := by
  simp only [testL, opsOf_append, opsOf_mv, joinF, opsOf_length, List.map_cons, List.map_nil, List.length_cons, List.length_nil]
  rw [mv_no (by decide), mv_jmp (by decide), mv_jmp (by decide)]
  simp only [opsOf, List.map_cons, List.map_nil, List.map_map, List.cons_append, List.nil_append, List.append_nil, Nat.zero_add, Nat.reduceAdd]
  have e1 : ((A.length + 3 : Nat) : Int) = (A.length : Int) + 2 + ((1 : Nat) : Int) := by omega
  have e2 : ((A.length + 3 + B.length : Nat) : Int) = (B.length : Int) + 1 + ((2 + A.length : Nat) : Int) := by omega
  rw [e1, e2, show 2 + A.length + 1 = A.length + 3 by omega]
  congr 5
theorem testL_ok {v : Int} {s : List Int} {A B : List LIns} (hs : s.length ≤ 6) (hv : 0 ≤ v ∧ v < 7) (h1 : OKp A s s) (h2 : OKp B s s) : OKp (testL v s A B) s s := by
  obtain ⟨M, hM⟩ : ∃ M, M = testL v s A B := ⟨_, rfl⟩
  have hl : M.length = A.length + 3 + B.length := by rw [hM]; simp [testL]; omega
  have g0 : M[0]? = some ((0, v, 0), s) := by rw [hM]; rfl
  have g1 : M[1]? = some ((7, ((A.length + 3 : Nat) : Int), 0), s) := by rw [hM]; rfl
  have ga : ∀ k, k < A.length → M[2 + k]? = (A[k]?).map (mvL 2) := fun k hk => by
    rw [hM]; unfold testL
    rw [List.getElem?_append_right (by simp), List.getElem?_append_left (by simp; omega), List.getElem?_map]
    congr 2; simp
  have gj : M[2 + A.length]? = some ((6, ((A.length + 3 + B.length : Nat) : Int), 0), s) := by
    rw [hM]; unfold testL
    rw [List.getElem?_append_right (by simp), List.getElem?_append_right (by simp)]
    simp
  have gb : ∀ k, M[A.length + 3 + k]? = (B[k]?).map (mvL (A.length + 3)) := fun k => by
    rw [hM]; unfold testL
    rw [List.getElem?_append_right (by simp; omega), List.getElem?_append_right (by simp; omega)]
    refine Eq.trans (congrArg (fun q => (((6, ((A.length + 3 + B.length : Nat) : Int), 0), s) :: B.map (mvL (A.length + 3)) : List LIns)[q]?) (show _ = k + 1 by simp; omega)) ?_
    rw [List.getElem?_cons_succ, List.getElem?_map]
  have em : ∀ y ∈ M, y.2.length ≤ 6 ∧ (jmp y.1.1 ∨ (0 ≤ y.1.2.1 ∧ y.1.2.1 < 7)) := fun y hy => by
    rw [hM] at hy; unfold testL at hy
    simp only [List.mem_append, List.mem_cons, List.not_mem_nil, or_false, List.mem_map] at hy
    rcases hy with (rfl | rfl) | ⟨z, hz, rfl⟩ | rfl | ⟨z, hz, rfl⟩
    · exact ⟨hs, .inr hv⟩
    · exact ⟨hs, .inl (show jmp 7 by decide)⟩
    · exact small_mv (h1.small z hz)
    · exact ⟨hs, .inl (show jmp 6 by decide)⟩
    · exact small_mv (h2.small z hz)
  rw [← hM]
  clear hM
  have eb : Emb M s (A.length + 3) B s := ⟨fun k y hy => by rw [gb, hy]; rfl, by omega, lb_out (by omega), nf_out (by omega)⟩
  have ea : Emb M s 2 A s := ⟨fun k y hy => by rw [ga k (List.getElem?_eq_some_iff.1 hy).1, hy]; rfl, by omega, lb_at gj, nf_at gj (show ¬ five 6 by decide)⟩
  have n2 : nf M 2 := ea.nfE (k := 0) (Nat.zero_le _) h1.nf0
  have l2 : lb M s 2 = s := (ea.lbE (k := 0) (Nat.zero_le _)).trans h1.first
  have n3 : nf M (A.length + 3) := eb.nfE (k := 0) (Nat.zero_le _) h2.nf0
  have l3 : lb M s (A.length + 3) = s := (eb.lbE (k := 0) (Nat.zero_le _)).trans h2.first
  refine ⟨lb_at g0, nf_at g0 (show ¬ five 0 by decide), fun i x t hi => ?_, em⟩
  have hlt := (List.getElem?_eq_some_iff.1 hi).1
  have hc : i = 0 ∨ i = 1 ∨ (∃ k, i = 2 + k ∧ k < A.length) ∨ i = 2 + A.length ∨ ∃ k, i = A.length + 3 + k := by
    rcases (by omega : i = 0 ∨ i = 1 ∨ (2 ≤ i ∧ i < 2 + A.length) ∨ i = 2 + A.length ∨ A.length + 3 ≤ i) with h | h | h | h | h
    · exact .inl h
    · exact .inr (.inl h)
    · exact .inr (.inr (.inl ⟨i - 2, by omega, by omega⟩))
    · exact .inr (.inr (.inr (.inl h)))
    · exact .inr (.inr (.inr (.inr ⟨i - (A.length + 3), by omega⟩)))
  rcases hc with rfl | rfl | ⟨k, rfl, hk⟩ | rfl | ⟨k, rfl⟩
  · rw [g0] at hi; cases hi
    exact .plain (.inl rfl) (lb_at g1)
  · rw [g1] at hi; cases hi
    exact .zero (by omega) l3 n3 n2 l2
  · rw [ga k hk, Option.map_eq_some_iff] at hi
    obtain ⟨⟨x', t'⟩, hy, e⟩ := hi
    cases e
    exact ea.good hy (h1.good k x' t' hy)
  · rw [gj] at hi; cases hi
    exact .jump (by omega) (lb_out (by omega)) (nf_out (by omega)) (by rw [show 2 + A.length + 1 = A.length + 3 by omega]; exact n3)
  · rw [gb, Option.map_eq_some_iff] at hi
    obtain ⟨⟨x', t'⟩, hy, e⟩ := hi
    cases e
    exact eb.good hy (h2.good k x' t' hy)
def loopL (v : Int) (s : List Int) (A : List LIns) : List LIns := A ++ [((0, v, 0), s), ((7, ((0 : Nat) : Int), 0), s)]
theorem loopL_ops (v : Int) (s : List Int) (A : List LIns) : opsOf (loopL v s A) = joinF 0 [opsOf A, [(0, v, 0)], [(7, -((opsOf A).length : Int) - 1, 0)]] := by
  simp only [loopL, opsOf_append, joinF, opsOf_length, List.map_cons, List.map_nil, List.length_cons, List.length_nil]
  rw [mv_no (by decide), mv_jmp (by decide), show -(A.length : Int) - 1 + ((0 + A.length + (0 + 1) : Nat) : Int) = ((0 : Nat) : Int) by omega]
  simp [opsOf, mv_zero]
theorem loopL_ok {v : Int} {s : List Int} {A : List LIns} (hs : s.length ≤ 6) (hv : 0 ≤ v ∧ v < 7) (h1 : OKp A s s) : OKp (loopL v s A) s s := by
  obtain ⟨M, hM⟩ : ∃ M, M = loopL v s A := ⟨_, rfl⟩
  have hl : M.length = A.length + 2 := by rw [hM]; simp [loopL]
  have ga : ∀ k, k < A.length → M[0 + k]? = A[k]? := fun k hk => by
    rw [hM, Nat.zero_add]; unfold loopL
    rw [List.getElem?_append_left hk]
  have g0 : M[A.length]? = some ((0, v, 0), s) := by
    rw [hM]; unfold loopL; rw [List.getElem?_append_right (Nat.le_refl _)]; simp
  have g1 : M[A.length + 1]? = some ((7, ((0 : Nat) : Int), 0), s) := by
    rw [hM]; unfold loopL; rw [List.getElem?_append_right (by omega)]; simp
  have em : ∀ y ∈ M, y.2.length ≤ 6 ∧ (jmp y.1.1 ∨ (0 ≤ y.1.2.1 ∧ y.1.2.1 < 7)) := fun y hy => by
    rw [hM] at hy; unfold loopL at hy
    simp only [List.mem_append, List.mem_cons, List.not_mem_nil, or_false] at hy
    rcases hy with hy | rfl | rfl
    · exact h1.small y hy
    · exact ⟨hs, .inr hv⟩
    · exact ⟨hs, .inl (show jmp 7 by decide)⟩
  rw [← hM]
  clear hM
  have ea : Emb M s 0 A s := ⟨fun k y hy => by rw [ga k (List.getElem?_eq_some_iff.1 hy).1, hy, mvL_zero], by omega, by rw [Nat.zero_add]; exact lb_at g0, by rw [Nat.zero_add]; exact nf_at g0 (show ¬ five 0 by decide)⟩
  have n0 : nf M 0 := ea.nfE (k := 0) (Nat.zero_le _) h1.nf0
  have l0 : lb M s 0 = s := (ea.lbE (k := 0) (Nat.zero_le _)).trans h1.first
  refine ⟨l0, n0, fun i x t hi => ?_, em⟩
  have hlt := (List.getElem?_eq_some_iff.1 hi).1
  rcases (by omega : i < A.length ∨ i = A.length ∨ i = A.length + 1) with hk | rfl | rfl
  · have := ga i hk
    rw [Nat.zero_add, hi] at this
    have := ea.good this.symm (h1.good i x t this.symm)
    rwa [Nat.zero_add, mv_zero] at this
  · rw [g0] at hi; cases hi
    exact .plain (.inl rfl) (lb_at g1)
  · rw [g1] at hi; cases hi
    exact .zero (by omega) l0 n0 (nf_out (by omega)) (lb_out (by omega))
/-- A list of a few instructions. -/
theorem OKp.of {L : List LIns} {s e : List Int} (h0 : lb L e 0 = s) (h1 : nf L 0) (h2 : ∀ i, i < L.length → ∀ x t, L[i]? = some (x, t) → Good L e i x t) (h3 : ∀ y ∈ L, y.2.length ≤ 6 ∧ (jmp y.1.1 ∨ (0 ≤ y.1.2.1 ∧ y.1.2.1 < 7))) : OKp L s e :=
  ⟨h0, h1, fun i x t hi => h2 i (List.getElem?_eq_some_iff.1 hi).1 x t hi, h3⟩
/-- The locals that are locked. -/
def S (n : Nat) : List Int := (List.range n).map fun (i : Nat) => (i : Int)
theorem S_length (n : Nat) : (S n).length = n := by simp [S]
theorem S_succ (n : Nat) : S (n + 1) = S n ++ [(n : Int)] := by simp [S, List.range_succ]
theorem S_mem {n : Nat} {k : Int} : k ∈ S n ↔ 0 ≤ k ∧ k < n := by
  simp only [S, List.mem_map, List.mem_range]
  constructor
  · rintro ⟨i, hi, rfl⟩; omega
  · rintro ⟨h1, h2⟩; exact ⟨k.toNat, by omega, by omega⟩
def lockL (n : Nat) : List LIns := [((2, (n : Int), 0), S n), ((12, 0, 0), S n)]
def unlockL (n : Nat) : List LIns := [((2, (n : Int), 0), S (n + 1)), ((13, 0, 0), S (n + 1))]
theorem lockL_ok {n : Nat} (hn : n ≤ 5) : OKp (lockL n) (S n) (S (n + 1)) := by
  have hl := S_length n
  refine .of rfl (nf_at (y := ((2, (n : Int), 0), S n)) rfl (by dsimp only; decide)) (fun i hi x t h => ?_) (fun y hy => ?_)
  · rcases (by simp [lockL] at hi; omega : i = 0 ∨ i = 1) with rfl | rfl
    · cases h; exact .plain (by decide) rfl
    · cases h
      refine .ask (k := (n : Int)) (kb := 0) (s0 := S n) (s' := S (n + 1)) (j := 0) (by decide) rfl rfl ?_ rfl
      unfold doF
      rw [if_pos rfl, if_pos ⟨by omega, fun h => by have := (S_mem.1 h).2; omega⟩, S_succ]
  · simp only [lockL, List.mem_cons, List.not_mem_nil, or_false] at hy
    rcases hy with rfl | rfl
    · exact ⟨by dsimp only; omega, .inr (by dsimp only; omega)⟩
    · exact ⟨by dsimp only; omega, .inr (by dsimp only; omega)⟩
theorem unlockL_ok {n : Nat} (hn : n ≤ 5) : OKp (unlockL n) (S (n + 1)) (S n) := by
  have hl := S_length (n + 1)
  refine .of rfl (nf_at (y := ((2, (n : Int), 0), S (n + 1))) rfl (by dsimp only; decide)) (fun i hi x t h => ?_) (fun y hy => ?_)
  · rcases (by simp [unlockL] at hi; omega : i = 0 ∨ i = 1) with rfl | rfl
    · cases h; exact .plain (by decide) rfl
    · cases h
      refine .ask (k := (n : Int)) (kb := 0) (s0 := S (n + 1)) (s' := S n) (j := 0) (by decide) rfl rfl ?_ rfl
      unfold doF
      rw [if_neg (by decide), if_pos rfl, if_pos (by rw [S_succ]; simp), S_succ]
      simp
  · simp only [unlockL, List.mem_cons, List.not_mem_nil, or_false] at hy
    rcases hy with rfl | rfl
    · exact ⟨by dsimp only; omega, .inr (by dsimp only; omega)⟩
    · exact ⟨by dsimp only; omega, .inr (by dsimp only; omega)⟩
def plainL (l : List Ins) (s : List Int) : List LIns := l.map fun x => (x, s)
theorem plainL_ops (l : List Ins) (s : List Int) : opsOf (plainL l s) = l := by simp [opsOf, plainL, Function.comp_def]
theorem out_ok {v : Int} {s : List Int} (hs : s.length ≤ 6) (hv : 0 ≤ v ∧ v < 7) : OKp (plainL [(0, v, 0), (19, 0, 0)] s) s s := by
  refine .of rfl (nf_at (y := ((0, v, 0), s)) rfl (by dsimp only; decide)) (fun i hi x t h => ?_) (fun y hy => ?_)
  · rcases (by simp [plainL] at hi; omega : i = 0 ∨ i = 1) with rfl | rfl
    · cases h; exact .plain (by decide) rfl
    · cases h; exact .plain (by decide) rfl
  · simp only [plainL, List.map_cons, List.map_nil, List.mem_cons, List.not_mem_nil, or_false] at hy
    rcases hy with rfl | rfl
    · exact ⟨hs, .inr hv⟩
    · exact ⟨hs, .inr (by dsimp only; decide)⟩
theorem none_ok {s : List Int} (hs : s.length ≤ 6) : OKp (plainL [(0, 1, 0)] s) s s := by
  refine .of rfl (nf_at (y := ((0, 1, 0), s)) rfl (by dsimp only; decide)) (fun i hi x t h => ?_) (fun y hy => ?_)
  · obtain rfl : i = 0 := by simp [plainL] at hi; omega
    cases h; exact .plain (by decide) rfl
  · simp only [plainL, List.map_cons, List.map_nil, List.mem_cons, List.not_mem_nil, or_false] at hy
    subst hy
    exact ⟨hs, .inr (by dsimp only; decide)⟩
theorem store_ok {v : Int} {s : List Int} (hs : s.length ≤ 6) (hv : 0 ≤ v ∧ v < 7) (hn : v ∉ s) : OKp (plainL [(1, 0, 0), (3, v, 0)] s) s s := by
  refine .of rfl (nf_at (y := ((1, 0, 0), s)) rfl (by dsimp only; decide)) (fun i hi x t h => ?_) (fun y hy => ?_)
  · rcases (by simp [plainL] at hi; omega : i = 0 ∨ i = 1) with rfl | rfl
    · cases h; exact .plain (by decide) rfl
    · cases h; exact .store hn rfl
  · simp only [plainL, List.map_cons, List.map_nil, List.mem_cons, List.not_mem_nil, or_false] at hy
    rcases hy with rfl | rfl
    · exact ⟨hs, .inr (by dsimp only; decide)⟩
    · exact ⟨hs, .inr hv⟩
theorem wait_ok {k w : Int} {s : List Int} (hs : s.length ≤ 6) (hk : 0 ≤ k ∧ k < 7) (hm : k ∈ s) (hw : w = 15 ∨ w = 16) : OKp (plainL [(2, k, 0), (14, 0, 0), (19, 0, 0), (2, k, 0), (w, 0, 0)] s) s s := by
  have d : ∀ op, op = 14 ∨ op = 15 ∨ op = 16 → doF op k s = some s := fun op h => by
    unfold doF
    rw [if_neg (by omega), if_neg (by omega), if_pos h, if_pos hm]
  refine .of rfl (nf_at (y := ((2, k, 0), s)) rfl (by dsimp only; decide)) (fun i hi x t h => ?_) (fun y hy => ?_)
  · rcases (by simp [plainL] at hi; omega : i = 0 ∨ i = 1 ∨ i = 2 ∨ i = 3 ∨ i = 4) with rfl | rfl | rfl | rfl | rfl
    · cases h; exact .plain (by decide) rfl
    · cases h; exact .ask (k := k) (kb := 0) (s0 := s) (s' := s) (j := 0) (by decide) rfl rfl (d _ (by decide)) rfl
    · cases h; exact .plain (by decide) rfl
    · cases h; exact .plain (by decide) rfl
    · cases h; exact .ask (k := k) (kb := 0) (s0 := s) (s' := s) (j := 3) (five_iff.2 (by rcases hw with rfl | rfl <;> simp)) rfl rfl (d _ (by omega)) rfl
  · simp only [plainL, List.map_cons, List.map_nil, List.mem_cons, List.not_mem_nil, or_false] at hy
    rcases hy with rfl | rfl | rfl | rfl | rfl
    · exact ⟨hs, .inr hk⟩
    · exact ⟨hs, .inr (by dsimp only; decide)⟩
    · exact ⟨hs, .inr (by dsimp only; decide)⟩
    · exact ⟨hs, .inr hk⟩
    · exact ⟨hs, .inr (by dsimp only; decide)⟩
theorem piece_ok {B : List Int} (hB : ∀ x ∈ B, 0 ≤ x ∧ x ≤ 255) : ∀ (d : Nat) (a : Int) (n : Nat), n + d ≤ 5 → ∃ L, opsOf L = (pieceF B d a (n : Int)).1 ∧ OKp L (S n) (S n)
  | 0, a, n, hn => by
    have hs := S_length n
    exact ⟨_, plainL_ops _ _, out_ok (v := nextV B a % 3) (by omega) (by omega)⟩
  | d + 1, a, n, hn => by
    have hs := S_length n
    have hs6 : (S n).length ≤ 6 := by omega
    have ih := fun (a' : Int) (n' : Nat) (h : n' + d ≤ 5) => piece_ok hB d a' n' h
    have hx0 : 0 ≤ nextV B a % 7 := Int.emod_nonneg _ (by omega)
    have hx7 : nextV B a % 7 < 7 := Int.emod_lt_of_pos _ (by omega)
    by_cases h01 : nextV B a % 7 = 0 ∨ nextV B a % 7 = 1
    · obtain ⟨L, h1, h2⟩ := ih (a + 1) (n + 1) (by omega)
      refine ⟨seqL (seqL (lockL n) L) (unlockL n), ?_, ((lockL_ok (by omega)).seq h2).seq (unlockL_ok (by omega))⟩
      unfold pieceF
      dsimp only
      rw [if_pos h01, seqL_ops, seqL_ops, h1, show ((n + 1 : Nat) : Int) = (n : Int) + 1 by omega, seqL_length]
      simp [joinF, lockL, unlockL, opsOf, mv_zero, mv_no (show ¬ jmp 2 by decide), mv_no (show ¬ jmp 12 by decide), mv_no (show ¬ jmp 13 by decide)]
    · by_cases h2 : nextV B a % 7 = 2
      · obtain ⟨L, h3, h4⟩ := ih (a + 1) n (by omega)
        obtain ⟨M, h5, h6⟩ := ih (pieceF B d (a + 1) n).2 n (by omega)
        refine ⟨seqL L M, ?_, h4.seq h6⟩
        unfold pieceF
        dsimp only
        rw [if_neg h01, if_pos h2, seqL_ops, h3, h5, ← opsOf_length, h3]
        simp [joinF, show mv 0 = id from funext mv_zero]
      · by_cases h3 : nextV B a % 7 = 3
        · obtain ⟨L, g3, g4⟩ := ih (a + 1) n (by omega)
          obtain ⟨M, g5, g6⟩ := ih (pieceF B d (a + 1) n).2 n (by omega)
          refine ⟨testL (nextV B (pieceF B d (pieceF B d (a + 1) n).2 n).2 % 2) (S n) L M, ?_, testL_ok hs6 (by omega) g4 g6⟩
          rw [testL_ops, g3, g5]
          conv => rhs; unfold pieceF
          dsimp only
          rw [if_neg h01, if_neg h2, if_pos h3]
        · by_cases h4 : nextV B a % 7 = 4
          · obtain ⟨L, g3, g4⟩ := ih (a + 1) n (by omega)
            refine ⟨loopL (nextV B (pieceF B d (a + 1) n).2 % 2) (S n) L, ?_, loopL_ok hs6 (by omega) g4⟩
            rw [loopL_ops, g3]
            conv => rhs; unfold pieceF
            dsimp only
            rw [if_neg h01, if_neg h2, if_neg h3, if_pos h4]
          · by_cases h5 : nextV B a % 7 = 5
            · by_cases hf : (0 : Int) < n
              · have k0 := Int.emod_nonneg (nextV B (a + 1)) (show (n : Int) ≠ 0 by omega)
                have k1 := Int.emod_lt_of_pos (nextV B (a + 1)) hf
                refine ⟨plainL [(2, nextV B (a + 1) % n, 0), (14, 0, 0), (19, 0, 0), (2, nextV B (a + 1) % n, 0), (15 + nextV B (a + 2) % 2, 0, 0)] (S n), ?_, wait_ok hs6 (by omega) (S_mem.2 (by omega)) (by omega)⟩
                rw [plainL_ops]
                have hw : ¬ jmp (15 + nextV B (a + 2) % 2) := five_no (five_iff.2 (by omega))
                unfold pieceF
                dsimp only
                rw [if_neg h01, if_neg h2, if_neg h3, if_neg h4, if_pos h5, if_pos hf]
                simp [joinF, mv_no (show ¬ jmp 2 by decide), mv_no (show ¬ jmp 14 by decide), mv_no (show ¬ jmp 19 by decide), mv_no hw]
              · refine ⟨plainL [(0, 1, 0)] (S n), ?_, none_ok hs6⟩
                rw [plainL_ops]
                unfold pieceF
                dsimp only
                rw [if_neg h01, if_neg h2, if_neg h3, if_neg h4, if_pos h5, if_neg hf]
            · refine ⟨plainL [(1, 0, 0), (3, (n : Int) + nextV B (a + 1) % 2, 0)] (S n), ?_, store_ok hs6 (by omega) (fun h => by have := (S_mem.1 h).2; omega)⟩
              rw [plainL_ops]
              unfold pieceF
              dsimp only
              rw [if_neg h01, if_neg h2, if_neg h3, if_neg h4, if_neg h5]
              simp [joinF, mv_no (show ¬ jmp 1 by decide), mv_no (show ¬ jmp 3 by decide)]
theorem end_ok : OKp (plainL [(0, 0, 0), (20, 0, 0)] []) [] [] := by
  refine .of rfl (nf_at (y := ((0, 0, 0), [])) rfl (by dsimp only; decide)) (fun i hi x t h => ?_) (fun y hy => ?_)
  · rcases (by simp [plainL] at hi; omega : i = 0 ∨ i = 1) with rfl | rfl
    · cases h; exact .plain (by decide) rfl
    · cases h; exact .ret (nf_out (by simp [plainL]))
  · simp only [plainL, List.map_cons, List.map_nil, List.mem_cons, List.not_mem_nil, or_false] at hy
    rcases hy with rfl | rfl
    · exact ⟨by simp, .inr (by decide)⟩
    · exact ⟨by simp, .inr (by decide)⟩
/-- A draft, with the stacks ahead of its places. -/
theorem drawF_ok {B : List Int} (hB : ∀ x ∈ B, 0 ≤ x ∧ x ≤ 255) : ∃ L, opsOf (seqL L (plainL [(0, 0, 0), (20, 0, 0)] [])) = drawF B ∧ OKp L [] [] := by
  have hd := deepF hB
  obtain ⟨L, h1, h2⟩ := piece_ok hB (1 + nextV B 0 % 4).toNat 1 0 (by omega)
  refine ⟨L, ?_, h2⟩
  rw [seqL_ops, plainL_ops, h1, ← opsOf_length, h1]
  unfold drawF
  simp [joinF, show mv 0 = id from funext mv_zero, mv_no (show ¬ jmp 0 by decide), mv_no (show ¬ jmp 20 by decide)]
end Go.Proofs.Ytifhhfeibnpaoaa
