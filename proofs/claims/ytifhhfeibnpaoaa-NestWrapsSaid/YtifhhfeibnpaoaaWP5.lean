/- A method that is right, with a local locked around it. -/
import Derived.Test.YtifhhfeibnpaoaaWP3
import Derived.Test.YtifhhfeibnpaoaaWP4
namespace Go.Proofs.Ytifhhfeibnpaoaa
open Go.SL
set_option maxRecDepth 100000
/-- No return is within a piece. -/
theorem joinF_ops {p : Int → Prop} : ∀ {ls : List (List Ins)} {base : Nat}, (∀ l ∈ ls, ∀ x ∈ l, p x.1) → ∀ x ∈ joinF base ls, p x.1
  | [], _, _, x, hx => by simp [joinF] at hx
  | l :: r, base, h, x, hx => by
    simp only [joinF, List.mem_append, List.mem_map] at hx
    rcases hx with ⟨y, hy, rfl⟩ | hx
    · rw [mv_op]; exact h l (List.mem_cons_self ..) y hy
    · exact joinF_ops (fun m hm => h m (List.mem_cons_of_mem _ hm)) x hx
theorem piece_noret {B : List Int} (hB : ∀ x ∈ B, 0 ≤ x ∧ x ≤ 255) : ∀ (d : Nat) (a fr : Int), ∀ x ∈ (pieceF B d a fr).1, x.1 ≠ 20
  | 0, a, fr, x, hx => by
    have e : (pieceF B 0 a fr).1 = joinF 0 [[(0, nextV B a % 3, 0)], [(19, 0, 0)]] := rfl
    rw [e] at hx
    refine joinF_ops (p := (· ≠ 20)) (fun l hl y hy => ?_) x hx
    simp only [List.mem_cons, List.not_mem_nil, or_false] at hl
    rcases hl with rfl | rfl <;> (rw [List.mem_singleton.1 hy]; simp)
  | d + 1, a, fr, x, hx => by
    have ih := fun a' fr' => piece_noret hB d a' fr'
    unfold pieceF at hx
    dsimp only at hx
    split at hx
    · refine joinF_ops (p := (· ≠ 20)) (fun l hl y hy => ?_) x hx
      simp only [List.mem_cons, List.not_mem_nil, or_false] at hl
      rcases hl with rfl | rfl | rfl | rfl | rfl
      · rw [List.mem_singleton.1 hy]; simp
      · rw [List.mem_singleton.1 hy]; simp
      · exact ih _ _ y hy
      · rw [List.mem_singleton.1 hy]; simp
      · rw [List.mem_singleton.1 hy]; simp
    · split at hx
      · refine joinF_ops (p := (· ≠ 20)) (fun l hl y hy => ?_) x hx
        simp only [List.mem_cons, List.not_mem_nil, or_false] at hl
        rcases hl with rfl | rfl <;> exact ih _ _ y hy
      · split at hx
        · refine joinF_ops (p := (· ≠ 20)) (fun l hl y hy => ?_) x hx
          simp only [List.mem_cons, List.not_mem_nil, or_false] at hl
          rcases hl with rfl | rfl | rfl | rfl | rfl
          · rw [List.mem_singleton.1 hy]; simp
          · rw [List.mem_singleton.1 hy]; simp
          · exact ih _ _ y hy
          · rw [List.mem_singleton.1 hy]; simp
          · exact ih _ _ y hy
        · split at hx
          · refine joinF_ops (p := (· ≠ 20)) (fun l hl y hy => ?_) x hx
            simp only [List.mem_cons, List.not_mem_nil, or_false] at hl
            rcases hl with rfl | rfl | rfl
            · exact ih _ _ y hy
            · rw [List.mem_singleton.1 hy]; simp
            · rw [List.mem_singleton.1 hy]; simp
          · split at hx
            · split at hx
              · refine joinF_ops (p := (· ≠ 20)) (fun l hl y hy => ?_) x hx
                simp only [List.mem_cons, List.not_mem_nil, or_false] at hl
                rcases hl with rfl | rfl | rfl | rfl | rfl <;> (rw [List.mem_singleton.1 hy]; first | (dsimp only; omega) | simp)
              · rw [List.mem_singleton.1 hx]; simp
            · refine joinF_ops (p := (· ≠ 20)) (fun l hl y hy => ?_) x hx
              simp only [List.mem_cons, List.not_mem_nil, or_false] at hl
              rcases hl with rfl | rfl <;> (rw [List.mem_singleton.1 hy]; simp)
/-- With a local locked around it. -/
def up (y : LIns) : LIns := (y.1, 7 :: y.2)
theorem up_nf {L : List LIns} {t : Nat} (h : nf L t) : nf (L.map up) t := fun y hy => by
  rw [List.getElem?_map, Option.map_eq_some_iff] at hy
  obtain ⟨z, hz, rfl⟩ := hy
  exact h z hz
theorem up_lb {L : List LIns} {e : List Int} {t : Nat} : lb (L.map up) (7 :: e) t = 7 :: lb L e t := by
  unfold lb
  rw [List.getElem?_map]
  cases L[t]? <;> rfl
theorem up_doF {op k : Int} {s s' : List Int} (h5 : five op) (hk : k ≠ 7) (hs : s.length ≤ 6) (h : doF op k s = some s') : doF op k (7 :: s) = some (7 :: s') := by
  rcases five_iff.1 h5 with rfl | rfl | rfl | rfl | rfl
  · unfold doF at h ⊢
    rw [if_pos rfl] at h ⊢
    split at h
    · rename_i hc
      cases h
      rw [if_pos ⟨by simp; omega, by simp [hk, hc.2]⟩]; rfl
    · cases h
  · unfold doF at h ⊢
    rw [if_neg (by decide), if_pos rfl] at h ⊢
    split at h
    · rename_i hc
      cases h
      cases s with
      | nil => cases hc
      | cons a r => rw [if_pos (by simpa using hc)]; rfl
    · cases h
  all_goals
    unfold doF at h ⊢
    rw [if_neg (by decide), if_neg (by decide), if_pos (by decide)] at h ⊢
    split at h
    · rename_i hc
      cases h
      rw [if_pos (List.mem_cons_of_mem _ hc)]
    · cases h
theorem up_ok {L : List LIns} {s e : List Int} (h : OKp L s e) (hn : ∀ y ∈ L, y.1.1 ≠ 20) : OKw (L.map up) (7 :: s) (7 :: e) := by
  refine ⟨by rw [up_lb, h.first], up_nf h.nf0, fun i x t hi => ?_⟩
  rw [List.getElem?_map, Option.map_eq_some_iff] at hi
  obtain ⟨⟨x', t'⟩, hy, e'⟩ := hi
  cases e'
  have hg := h.good i x' t' hy
  have hm := h.small _ (List.mem_of_getElem? hy)
  have hl : lb (L.map up) (7 :: e) (i + 1) = 7 :: lb L e (i + 1) := up_lb
  cases hg with
  | @ask op a b k kb _ s0 s' j h5 hj hp hd hnl =>
    have hk := (h.small _ (List.mem_of_getElem? hp)).2
    have hk7 : k ≠ 7 := by
      rcases hk with hk | hk
      · exact absurd hk (show ¬ jmp 2 by decide)
      · dsimp only at hk; omega
    refine .ask (k := k) (kb := kb) (s0 := 7 :: s0) (s' := 7 :: s') (j := j) h5 hj (by rw [List.getElem?_map, hp]; rfl) (up_doF h5 hk7 hm.1 hd) (by rw [hl, hnl])
  | @store a b _ h2 hnl =>
    have ha := hm.2
    have ha7 : a ≠ 7 := by
      rcases ha with ha | ha
      · exact absurd ha (show ¬ jmp 3 by decide)
      · dsimp only at ha; omega
    exact .store (by simp [ha7, h2]) (by rw [hl, hnl])
  | @jump a b _ ha ht h2 h3 => exact .jump (by simpa using ha) (by rw [up_lb, ht]) (up_nf h2) (up_nf h3)
  | @zero a b _ ha ht h2 h3 hnl => exact .zero (by simpa using ha) (by rw [up_lb, ht]) (up_nf h2) (up_nf h3) (by rw [hl, hnl])
  | @plain op a b _ h2 hnl => exact .plain h2 (by rw [hl, hnl])
  | ret h2 => exact absurd rfl (hn _ (List.mem_of_getElem? hy))
theorem lock7 : OKw [((2, 7, 0), []), ((12, 0, 0), [])] [] [7] := by
  refine ⟨rfl, nf_at (y := ((2, 7, 0), [])) rfl (by decide), fun i x t h => ?_⟩
  have hi := (List.getElem?_eq_some_iff.1 h).1
  rcases (by simp at hi; omega : i = 0 ∨ i = 1) with rfl | rfl
  · cases h; exact .plain (by decide) rfl
  · cases h; exact .ask (k := 7) (kb := 0) (s0 := []) (s' := [7]) (j := 0) (by decide) rfl rfl rfl rfl
theorem unlock7 : OKw [((2, 7, 0), [7]), ((13, 0, 0), [7])] [7] [] := by
  refine ⟨rfl, nf_at (y := ((2, 7, 0), [7])) rfl (by decide), fun i x t h => ?_⟩
  have hi := (List.getElem?_eq_some_iff.1 h).1
  rcases (by simp at hi; omega : i = 0 ∨ i = 1) with rfl | rfl
  · cases h; exact .plain (by decide) rfl
  · cases h; exact .ask (k := 7) (kb := 0) (s0 := [7]) (s' := []) (j := 0) (by decide) rfl rfl rfl rfl
/-- The method with a local locked around it. -/
def wrapF (l : List Ins) : List Ins := [(2, 7, 0), (12, 0, 0)] ++ l.map (mv 2) ++ [(2, 7, 0), (13, 0, 0), (0, 0, 0), (20, 0, 0)]
def wrapL (L : List LIns) : List LIns := seqL (seqL (seqL [((2, 7, 0), []), ((12, 0, 0), [])] (L.map up)) [((2, 7, 0), [7]), ((13, 0, 0), [7])]) (plainL [(0, 0, 0), (20, 0, 0)] [])
theorem opsOf_up (L : List LIns) : opsOf (L.map up) = opsOf L := by simp [opsOf, up, Function.comp_def]
theorem wrapL_ops (L : List LIns) : opsOf (wrapL L) = wrapF (opsOf L) := by
  unfold wrapL wrapF
  rw [seqL_ops, seqL_ops, seqL_ops, opsOf_up, plainL_ops]
  simp [opsOf, mv_no (show ¬ jmp 2 by decide), mv_no (show ¬ jmp 13 by decide), mv_no (show ¬ jmp 0 by decide), mv_no (show ¬ jmp 20 by decide)]
theorem wrapL_ok {L : List LIns} (h : OKp L [] []) (hn : ∀ y ∈ L, y.1.1 ≠ 20) : OKw (wrapL L) [] [] :=
  ((lock7.seq (up_ok h hn)).seq unlock7).seq end_ok.w
theorem wrapL_lb {L : List LIns} {i : Nat} (hi : i < L.length) : lb (wrapL L) [] (2 + i) = 7 :: lb L [] i := by
  obtain ⟨y, hy⟩ : ∃ y, L[i]? = some y := ⟨_, List.getElem?_eq_getElem hi⟩
  have h1 : (seqL [((2, 7, 0), []), ((12, 0, 0), [])] (L.map up))[2 + i]? = some (mvL 2 (up y)) := by
    have := seqL_r (L := [((2, 7, 0), []), ((12, 0, 0), [])]) (M := L.map up) (k := i)
    rw [List.getElem?_map, hy] at this
    exact this
  have h2 : (wrapL L)[2 + i]? = some (mvL 2 (up y)) := seqL_l (seqL_l h1)
  rw [lb_at h2, lb_at hy]; rfl
theorem wrapF_at {l : List Ins} {i : Nat} {x : Ins} (h : l[i]? = some x) : (wrapF l)[i + 2]? = some (mv 2 x) := by
  have hi := (List.getElem?_eq_some_iff.1 h).1
  unfold wrapF
  rw [List.append_assoc, List.getElem?_append_right (by simp), List.getElem?_append_left (by simpa using hi), List.getElem?_map]
  simp [h]
theorem wrapF_length (l : List Ins) : (wrapF l).length = l.length + 6 := by simp [wrapF]
theorem wrapF_end {l : List Ins} {q : Nat} : (wrapF l)[l.length + 2 + q]? = [((2 : Int), (7 : Int), (0 : Int)), (13, 0, 0), (0, 0, 0), (20, 0, 0)][q]? := by
  unfold wrapF
  rw [List.getElem?_append_right (by simp)]
  congr 1
  simp
/-- Places are come to in both. -/
theorem wrap_in {l : List Ins} {t : Int} (h : Rch (l ++ [(0, 0, 0), (20, 0, 0)]) t) : t < l.length → Rch (wrapF l) (t + 2) := by
  have hl := wrapF_length l
  have r0 : Rch (wrapF l) 0 := .zero
  have x0 : (wrapF l)[0]? = some (2, 7, 0) := rfl
  have x1 : (wrapF l)[1]? = some (12, 0, 0) := rfl
  have r1 : Rch (wrapF l) 1 := .step r0 (by rw [show (0 : Int) = ((0 : Nat) : Int) from rfl, nxt_yes x0]; exact mem_nextL.2 (.inr ⟨⟨by decide, by decide⟩, rfl⟩)) (by omega) (by omega)
  have r2 : Rch (wrapF l) 2 := .step r1 (by rw [show (1 : Int) = ((1 : Nat) : Int) from rfl, nxt_yes x1]; exact mem_nextL.2 (.inr ⟨⟨by decide, by decide⟩, rfl⟩)) (by omega) (by omega)
  induction h with
  | zero => intro _; exact r2
  | @step u t _ ht h0 h1 ih =>
    intro htl
    by_cases hu : 0 ≤ u ∧ u < ((l ++ [(0, 0, 0), (20, 0, 0)] : List Ins).length : Int)
    · obtain ⟨un, rfl⟩ := Int.eq_ofNat_of_zero_le hu.1
      obtain ⟨x, hx⟩ : ∃ x, (l ++ [(0, 0, 0), (20, 0, 0)] : List Ins)[un]? = some x := ⟨_, List.getElem?_eq_getElem (by omega)⟩
      rw [nxt_yes hx] at ht
      rcases Nat.lt_or_ge un l.length with hlt | hge
      · rw [List.getElem?_append_left hlt] at hx
        have r := ih (by omega)
        have hw := wrapF_at hx
        refine .step r ?_ (by omega) (by omega)
        rw [show (un : Int) + 2 = ((un + 2 : Nat) : Int) by omega, nxt_yes hw]
        obtain ⟨op, a, b⟩ := x
        rcases mem_nextL.1 ht with ⟨hj, e⟩ | ⟨hj, e⟩
        · refine mem_nextL.2 (.inl ⟨by rw [mv_op]; exact hj, ?_⟩)
          rw [mv_jmp hj]; dsimp only at e ⊢; omega
        · refine mem_nextL.2 (.inr ⟨by rw [mv_op]; exact hj, ?_⟩)
          omega
      · rw [List.getElem?_append_right hge] at hx
        simp only [List.length_append, List.length_cons, List.length_nil] at hu
        rcases (by omega : un - l.length = 0 ∨ un - l.length = 1) with e | e
        · rw [e] at hx
          cases hx
          rcases mem_nextL.1 ht with ⟨hj, -⟩ | ⟨-, e2⟩
          · exact absurd hj (by decide)
          · omega
        · rw [e] at hx
          cases hx
          rcases mem_nextL.1 ht with ⟨hj, -⟩ | ⟨hj, -⟩
          · exact absurd hj (by decide)
          · exact absurd rfl hj.2
    · rw [nxt_no hu] at ht; cases ht
theorem wrap_out {l : List Ins} (hA : ∀ x ∈ l, jmp x.1 → 0 ≤ x.2.1) {j : Int} (h : Rch (wrapF l) j) : 2 ≤ j → j < (l.length : Int) + 2 → Rch (l ++ [(0, 0, 0), (20, 0, 0)]) (j - 2) := by
  have hl := wrapF_length l
  have x0 : (wrapF l)[0]? = some (2, 7, 0) := rfl
  have x1 : (wrapF l)[1]? = some (12, 0, 0) := rfl
  induction h with
  | zero => intro h; omega
  | @step u t _ ht h0 h1 ih =>
    intro ht2 htl
    by_cases hu : 0 ≤ u ∧ u < ((wrapF l).length : Int)
    · obtain ⟨un, rfl⟩ := Int.eq_ofNat_of_zero_le hu.1
      rcases (by omega : un = 0 ∨ un = 1 ∨ (2 ≤ un ∧ un < l.length + 2) ∨ l.length + 2 ≤ un) with rfl | rfl | hm | hm
      · rw [nxt_yes x0] at ht
        rcases mem_nextL.1 ht with ⟨hj, -⟩ | ⟨-, e⟩
        · exact absurd hj (by decide)
        · omega
      · rw [nxt_yes x1] at ht
        rcases mem_nextL.1 ht with ⟨hj, -⟩ | ⟨-, e⟩
        · exact absurd hj (by decide)
        · rw [show t - 2 = 0 by omega]; exact .zero
      · obtain ⟨q, rfl⟩ : ∃ q, un = q + 2 := ⟨un - 2, by omega⟩
        obtain ⟨x, hx⟩ : ∃ x, l[q]? = some x := ⟨_, List.getElem?_eq_getElem (by omega)⟩
        rw [nxt_yes (wrapF_at hx)] at ht
        have r := ih (by omega) (by omega)
        rw [show ((q + 2 : Nat) : Int) - 2 = (q : Int) by omega] at r
        have hx' : (l ++ [(0, 0, 0), (20, 0, 0)] : List Ins)[q]? = some x := by rw [List.getElem?_append_left (by omega)]; exact hx
        refine .step r ?_ (by omega) (by simp; omega)
        rw [nxt_yes hx']
        obtain ⟨op, a, b⟩ := x
        rcases mem_nextL.1 ht with ⟨hj, e⟩ | ⟨hj, e⟩
        · rw [mv_op] at hj
          rw [mv_jmp hj] at e
          exact mem_nextL.2 (.inl ⟨hj, by dsimp only at e ⊢; omega⟩)
        · rw [mv_op] at hj
          exact mem_nextL.2 (.inr ⟨hj, by omega⟩)
      · obtain ⟨q, rfl⟩ : ∃ q, un = l.length + 2 + q := ⟨un - (l.length + 2), by omega⟩
        obtain ⟨x, hx⟩ : ∃ x, (wrapF l)[l.length + 2 + q]? = some x := ⟨_, List.getElem?_eq_getElem (by omega)⟩
        have he := wrapF_end (l := l) (q := q)
        rw [hx] at he
        rw [nxt_yes hx] at ht
        rcases (by omega : q = 0 ∨ q = 1 ∨ q = 2 ∨ q = 3) with rfl | rfl | rfl | rfl <;> cases he <;> rcases mem_nextL.1 ht with ⟨hj, -⟩ | ⟨-, e⟩ <;> first | exact absurd hj (by decide) | omega
    · rw [nxt_no hu] at ht; cases ht
/-- What the law asks of stacks. -/
theorem wrap_law {B : List Int} (hB : ∀ x ∈ B, 0 ≤ x ∧ x ≤ 255) {n : Nat} (hn : (drawF B).length = n + 2) (he : (endG (drawF B)).res = some (wrG (drawF B))) (hw : (endG (wrapF ((drawF B).take n))).res = some (wrG (wrapF ((drawF B).take n)))) :
    wrG (drawF B) = -1 ∧ wrG (wrapF ((drawF B).take n)) = -1 ∧ ∀ i : Nat, i < n → ((endG (drawF B)).stk (i : Int)).length ≤ 6 ∧
      ((endG (wrapF ((drawF B).take n))).stk ((i + 2 : Nat) : Int) = 7 :: (endG (drawF B)).stk (i : Int) ∨ ((endG (wrapF ((drawF B).take n))).stk ((i + 2 : Nat) : Int) = [] ∧ (endG (drawF B)).stk (i : Int) = [])) := by
  have hd := deepF hB
  have h4 : (1 + nextV B 0 % 4).toNat ≤ 5 := by omega
  obtain ⟨L, hL, hok⟩ := piece_ok hB (1 + nextV B 0 % 4).toNat 1 0 (by omega)
  have hok : OKp L [] [] := hok
  have hcs : drawF B = opsOf L ++ [(0, 0, 0), (20, 0, 0)] := by
    rw [hL]
    unfold drawF
    simp [joinF, show mv 0 = id from funext mv_zero, mv_no (show ¬ jmp 0 by decide), mv_no (show ¬ jmp 20 by decide)]
  have hnl : L.length = n := by
    rw [hcs] at hn; simp [opsOf_length] at hn; exact hn
  have htk : (drawF B).take n = opsOf L := by
    rw [hcs, List.take_left']; rw [opsOf_length]; exact hnl
  rw [htk] at hw ⊢
  have hnr : ∀ y ∈ L, y.1.1 ≠ 20 := fun y hy => piece_noret hB _ 1 0 y.1 (by
    have : y.1 ∈ opsOf L := List.mem_map_of_mem hy
    rw [hL] at this; exact this)
  have hfull : OKp (seqL L (plainL [(0, 0, 0), (20, 0, 0)] [])) [] [] := hok.seq end_ok
  have hfo : opsOf (seqL L (plainL [(0, 0, 0), (20, 0, 0)] [])) = drawF B := by
    rw [seqL_ops, plainL_ops, hcs]
    simp [mv_no (show ¬ jmp 0 by decide), mv_no (show ¬ jmp 20 by decide)]
  have hlabs := okp_labs hfull
  rw [hfo] at hlabs
  have hwl := okw_labs (wrapL_ok hok hnr)
  rw [wrapL_ops] at hwl
  obtain ⟨m1, m2⟩ := labs_right hlabs (by omega) he
  obtain ⟨w1, w2⟩ := labs_right hwl (by rw [wrapF_length]; omega) hw
  have rm := right_end (cs := drawF B) (by omega) (by rw [he, m1])
  have rw' := right_end (cs := wrapF (opsOf L)) (by rw [wrapF_length]; omega) (by rw [hw, w1])
  have hA : ∀ x ∈ opsOf L, jmp x.1 → 0 ≤ x.2.1 := fun x hx hj => by
    obtain ⟨⟨x', s⟩, hy, e⟩ := List.mem_map.1 hx
    dsimp only at e
    subst e
    obtain ⟨i, hi⟩ := List.mem_iff_getElem?.1 hy
    have hg := hok.good i _ s hi
    cases hg with
    | ask h5 => exact absurd hj (five_no h5)
    | store => exact absurd hj (show ¬ jmp 3 by decide)
    | jump ha => dsimp only; omega
    | zero ha => dsimp only; omega
    | plain h' => exact absurd hj (plain_no h').1
    | ret => exact absurd hj (show ¬ jmp 20 by decide)
  refine ⟨m1, w1, fun i hi => ?_⟩
  have hil : i < L.length := by omega
  obtain ⟨y, hy⟩ : ∃ y, L[i]? = some y := ⟨_, List.getElem?_eq_getElem hil⟩
  have hsm := (hok.small y (List.mem_of_getElem? hy)).1
  have hlb : lb (seqL L (plainL [(0, 0, 0), (20, 0, 0)] [])) [] i = lb L [] i := by rw [lb_at (seqL_l hy), lb_at hy]
  have hly : (lb L [] i).length ≤ 6 := by rw [lb_at hy]; exact hsm
  have hll : (opsOf L).length = n := by rw [opsOf_length, hnl]
  by_cases hv : (i : Int) ∈ (endG (drawF B)).V
  · have hr := rm.rch _ hv
    rw [hcs] at hr
    have hr2 := rw'.all (wrap_in hr (by omega))
    have e1 := m2 _ hv
    rw [show ((i + 2 : Nat) : Int) = (i : Int) + 2 by omega]
    have e2 := w2 _ hr2
    rw [show ((i : Int)).toNat = i by omega, hlb] at e1
    rw [show ((i : Int) + 2).toNat = 2 + i by omega, wrapL_lb hil] at e2
    rw [e1, e2]
    exact ⟨hly, .inl rfl⟩
  · have hv2 : ((i + 2 : Nat) : Int) ∉ (endG (wrapF (opsOf L))).V := fun hm => by
      have hr := wrap_out hA (rw'.rch _ hm) (by omega) (by omega)
      rw [show ((i + 2 : Nat) : Int) - 2 = (i : Int) by omega, ← hcs] at hr
      exact hv (rm.all hr)
    rw [end_out he _ hv, end_out hw _ hv2]
    exact ⟨by simp, .inr ⟨rfl, rfl⟩⟩
theorem draw_len {B : List Int} (hB : ∀ x ∈ B, 0 ≤ x ∧ x ≤ 255) (he : (endG (drawF B)).res = some (wrG (drawF B))) (i : Nat) : ((endG (drawF B)).stk (i : Int)).length ≤ 6 := by
  obtain ⟨L, h1, h2⟩ := draw_full hB
  rw [← h1] at he ⊢
  have hp : 0 < (opsOf L).length := by rw [h1]; exact drawF_pos B
  obtain ⟨m1, m2⟩ := labs_right (okp_labs h2) hp he
  by_cases hv : (i : Int) ∈ (endG (opsOf L)).V
  · have hr := (right_end hp (by rw [he, m1])).rng _ hv
    rw [m2 _ hv]
    obtain ⟨y, hy⟩ : ∃ y, L[((i : Nat) : Int).toNat]? = some y := ⟨_, List.getElem?_eq_getElem (by rw [opsOf_length] at hr; omega)⟩
    rw [lb_at hy]
    exact (h2.small y (List.mem_of_getElem? hy)).1
  · rw [end_out he _ hv]; simp
end Go.Proofs.Ytifhhfeibnpaoaa
