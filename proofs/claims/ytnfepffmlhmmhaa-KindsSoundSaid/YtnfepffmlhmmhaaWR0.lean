/- What the law gets, opened. -/
import Derived.Test.YtnfepffmlhmmhaaWI1
import Derived.Test.YtnfepffmlhmmhaaSlG3
namespace Go.Proofs.Ytnfepffmlhmmhaa
open Go Go.SL
open Go.ChangeShapes Go.WideShapes Go.ChangeAt Go.RowKit
theorem list_of {α : Type} {Q : Nat → α → Prop} : ∀ (n : Nat), (∀ i, i < n → ∃ x, Q i x) → ∃ l : List α, l.length = n ∧ ∀ (i : Nat) (x : α), l[i]? = some x → Q i x
  | 0, _ => ⟨[], rfl, fun i x h => by simp at h⟩
  | n + 1, h => by
    obtain ⟨l, h1, h2⟩ := list_of n fun i hi => h i (by omega)
    obtain ⟨x, hx⟩ := h n (by omega)
    refine ⟨l ++ [x], by simp [h1], fun i y hy => ?_⟩
    by_cases hi : i < l.length
    · rw [List.getElem?_append_left hi] at hy; exact h2 i y hy
    · have hi2 : i = n := by
        have := (List.getElem?_eq_some_iff.1 hy).1
        simp at this; omega
      subst hi2
      rw [List.getElem?_append_right (by omega), h1, Nat.sub_self] at hy
      simp at hy; subst hy; exact hx
theorem take_at {cs : List Value} {i k : Nat} (h : i + k ≤ cs.length) {vs : List Value} (hv : (cs.drop i).take k = vs) : ∀ j v, vs[j]? = some v → cs[i + j]? = some v := by
  intro j v hj
  subst hv
  rw [List.getElem?_take] at hj
  split at hj
  · rwa [List.getElem?_drop] at hj
  · cases hj
theorem flat_of : ∀ (n : Nat) {zs : List Int}, zs.length = n * 3 → ∃ ls : List Ins, ls.length = n ∧ flatI ls = zs.map i64
  | 0, zs, h => ⟨[], rfl, by obtain rfl : zs = [] := List.length_eq_zero_iff.1 (by omega); rfl⟩
  | n + 1, zs, h => by
    match zs, h with
    | a :: b :: c :: r, h =>
      obtain ⟨ls, h1, h2⟩ := flat_of n (zs := r) (by simp at h; omega)
      exact ⟨⟨a, b, c⟩ :: ls, by simp [h1], by simp [flatI, h2]⟩
    | [], h => simp at h
    | [_], h => simp at h; omega
    | [_, _], h => simp at h; omega
theorem slice_of {H : Type} {enc : TypeId × Value → H} {w : World} {sp : Nat → Bool} {held : Bool} {fuel : Nat} {t e : TypeId} {a : Value} {y : DataW H × List MemPlace} (ht : Try.prog.underlying t = some (.slice e)) (h : DataW.trod enc Try.prog w 0 sp held fuel t [a] = some y) :
    ∃ (b : Option Addr) (l c : Nat), a = .slice b l c := by
  rcases DataW.trod_slice ht h with ⟨e0, -⟩ | ⟨ad, len, cap, _, _, _, _, e0, -⟩
  · simp only [List.cons.injEq, and_true] at e0; exact ⟨_, _, _, e0⟩
  · simp only [List.cons.injEq, and_true] at e0; exact ⟨_, _, _, e0⟩
theorem list_ten {α : Type} {l : List α} (h : l.length = 10) : ∃ a b c d e f g h' i j, l = [a, b, c, d, e, f, g, h', i, j] := by
  match l, h with
  | [a, b, c, d, e, f, g, h', i, j], _ => exact ⟨a, b, c, d, e, f, g, h', i, j, rfl⟩
theorem k23 : Try.prog.cellsOf 23 = 1 := by kernel_rfl
theorem k27 : Try.prog.cellsOf 27 = 1 := by kernel_rfl
theorem k34 : Try.prog.cellsOf 34 = 1 := by kernel_rfl
theorem k35 : Try.prog.cellsOf 35 = 1 := by kernel_rfl
theorem k37 : Try.prog.cellsOf 37 = 2 := by kernel_rfl
theorem k39 : Try.prog.cellsOf 39 = 3 := by kernel_rfl
theorem k47 : Try.prog.cellsOf 47 = 1 := by kernel_rfl
theorem k49 : Try.prog.cellsOf 49 = 4 := by kernel_rfl
theorem k52 : Try.prog.cellsOf 52 = 1 := by kernel_rfl
theorem k3 : Try.prog.cellsOf 3 = 1 := by kernel_rfl
theorem k5 : Try.prog.cellsOf 5 = 1 := by kernel_rfl
theorem cls_open {H : Type} {enc : TypeId × Value → H} {w : World} {sp : Nat → Bool} {held : Bool} {fuel : Nat} {b : Option Addr} {n c : Nat} {x : DataW H × List MemPlace}
    (h : DataW.trod enc Try.prog w 0 sp held fuel 34 [.slice b n c] = some x) : ∃ cls, ClsIn (wh w) cls b n := by
  obtain ⟨cs, h1, h2, h3, h4, m, h5⟩ := sl_open Try.underlying34 k52 (Nat.succ_pos 0) h
  have hq : ∀ i, i < n → ∃ f : List Int, ∃ fb fn fc, cs[i]? = some (.slice fb fn fc) ∧ Sl (wh w) fb (f.map i64) ∧ f.length = fn ∧ fn ≤ 9223372036854775807 := fun i hi => by
    obtain ⟨y, hy⟩ := h5 i hi
    obtain ⟨v, hv⟩ : ∃ v, cs[i]? = some v := ⟨_, List.getElem?_eq_getElem (by omega)⟩
    have e : (cs.drop (i * 1)).take 1 = [v] := by
      rw [Nat.mul_one, List.drop_eq_getElem_cons (by omega)]
      simp [(List.getElem?_eq_some_iff.1 hv).2]
    rw [e] at hy
    obtain ⟨hl, k, hf⟩ := struct_open (m := 1) Try.underlying52 k52 hy
    obtain ⟨z, hz⟩ := hf _ (List.mem_of_getElem? (i := 0) rfl)
    simp only [k23] at hz
    replace hz : DataW.trod enc Try.prog w 0 sp held k 23 [v] = some z := hz
    obtain ⟨fb, fn, fc, rfl⟩ := slice_of Try.underlying23 hz
    obtain ⟨f, g1, g2, g3, g4, g5⟩ := sl_open_ints Try.underlying23 Try.underlying27 k27 hz
    exact ⟨f, fb, fn, fc, hv, g2, g1, by unfold maxLen at g3; omega⟩
  obtain ⟨cls, l1, l2⟩ := list_of n hq
  exact ⟨cls, cs, h2, by omega, l1, by unfold maxLen at h3; omega, l2⟩
theorem ms_open {H : Type} {enc : TypeId × Value → H} {w : World} {sp : Nat → Bool} {held : Bool} {fuel : Nat} {b : Option Addr} {n c : Nat} {x : DataW H × List MemPlace}
    (h : DataW.trod enc Try.prog w 0 sp held fuel 35 [.slice b n c] = some x) : ∃ ms, MsIn (wh w) ms b n := by
  obtain ⟨cs, h1, h2, h3, h4, m, h5⟩ := sl_open Try.underlying35 k49 (Nat.succ_pos 3) h
  have hq : ∀ i, i < n → ∃ f : Me, ∃ pb pn pc cb cn cc, cs[i * 4]? = some (.slice pb pn pc) ∧ cs[i * 4 + 1]? = some (i64 f.lo) ∧ cs[i * 4 + 2]? = some (i64 f.st) ∧ cs[i * 4 + 3]? = some (.slice cb cn cc) ∧
      Sl (wh w) pb (f.params.map i64) ∧ f.params.length = pn ∧ pn ≤ 9223372036854775807 ∧ Sl (wh w) cb (flatI f.code) ∧ f.code.length = cn ∧ cn ≤ cc ∧ cn ≤ 9223372036854775807 := fun i hi => by
    obtain ⟨y, hy⟩ := h5 i hi
    have hb : i * 4 + 4 ≤ cs.length := by omega
    have hl4 : ((cs.drop (i * 4)).take 4).length = 4 := by simp; omega
    obtain ⟨vs, hvs⟩ : ∃ vs, (cs.drop (i * 4)).take 4 = vs := ⟨_, rfl⟩
    have hat := take_at hb hvs
    rw [hvs] at hy hl4
    match vs, hl4 with
    | [v0, v1, v2, v3], _ =>
      obtain ⟨hl, k, hf⟩ := struct_open (m := 4) Try.underlying49 k49 hy
      obtain ⟨z0, q0⟩ := hf _ (List.mem_of_getElem? (i := 0) rfl)
      obtain ⟨z1, q1⟩ := hf _ (List.mem_of_getElem? (i := 1) rfl)
      obtain ⟨z2, q2⟩ := hf _ (List.mem_of_getElem? (i := 2) rfl)
      obtain ⟨z3, q3⟩ := hf _ (List.mem_of_getElem? (i := 3) rfl)
      simp only [k23] at q0
      simp only [k3] at q1 q2
      simp only [k47] at q3
      replace q0 : DataW.trod enc Try.prog w 0 sp held k 23 [v0] = some z0 := q0
      replace q1 : DataW.trod enc Try.prog w 0 sp held k 3 [v1] = some z1 := q1
      replace q2 : DataW.trod enc Try.prog w 0 sp held k 3 [v2] = some z2 := q2
      replace q3 : DataW.trod enc Try.prog w 0 sp held k 47 [v3] = some z3 := q3
      obtain ⟨lo, e1, -, -⟩ := DataW.trod_int Try.underlying3 q1
      obtain ⟨st, e2, -, -⟩ := DataW.trod_int Try.underlying3 q2
      simp only [List.cons.injEq, and_true] at e1 e2
      subst e1 e2
      obtain ⟨pb, pn, pc, rfl⟩ := slice_of Try.underlying23 q0
      obtain ⟨cb, cn, cc, rfl⟩ := slice_of Try.underlying47 q3
      obtain ⟨f, g1, g2, g3, g4, g5⟩ := sl_open_ints Try.underlying23 Try.underlying27 k27 q0
      obtain ⟨zs, r1, r2, r3, r4, r5⟩ := sl_open_structs Try.underlying47 Try.underlying39 (by kernel_rfl) k39 (Nat.succ_pos 2) q3
      obtain ⟨code, c1, c2⟩ := flat_of cn r1
      refine ⟨⟨f, lo, st, code⟩, pb, pn, pc, cb, cn, cc, hat 0 _ rfl, hat 1 _ rfl, hat 2 _ rfl, hat 3 _ rfl, g2, g1, by unfold maxLen at g3; omega, ?_, c1, r4, by unfold maxLen at r3; omega⟩
      show Sl (wh w) cb (flatI code)
      rw [c2]; exact r2
  obtain ⟨ms, l1, l2⟩ := list_of n hq
  exact ⟨ms, cs, h2, by omega, l1, by unfold maxLen at h3; omega, l2⟩
theorem drawn_open {H : Type} {enc : TypeId × Value → H} {w : World} {sp : Nat → Bool} {held : Bool} {fuel : Nat} {cs : List Value} {x : DataW H × List MemPlace}
    (h : DataW.trod enc Try.prog w 0 sp held fuel 41 cs = some x) :
    ∃ (clb mb ab bb sb : Option Addr) (cln clc mn mc an ac bn bc sn sc : Nat) (M A op a b : Int) (cls : List (List Int)) (ms : List Me) (za zb zs : List Int),
      cs = [.slice clb cln clc, .slice mb mn mc, .int .u8 M, .int .u8 A, .slice ab an ac, .slice bb bn bc, .slice sb sn sc, i64 op, i64 a, i64 b] ∧ ClsIn (wh w) cls clb cln ∧ MsIn (wh w) ms mb mn ∧ (0 ≤ M ∧ M ≤ 255) ∧ (0 ≤ A ∧ A ≤ 255) ∧
      Sl (wh w) ab (za.map i64) ∧ Sl (wh w) bb (zb.map i64) ∧ Sl (wh w) sb (zs.map i64) ∧ za.length = an ∧ zb.length = bn ∧ zs.length = sn ∧ an ≤ 9223372036854775807 ∧ bn ≤ 9223372036854775807 ∧ sn ≤ 9223372036854775807 := by
  obtain ⟨hl, n, hf⟩ := struct_open (m := 10) Try.underlying41 (by kernel_rfl) h
  obtain ⟨v0, v1, v2, v3, v4, v5, v6, v7, v8, v9, rfl⟩ := list_ten hl
  obtain ⟨y0, h0⟩ := hf _ (List.mem_of_getElem? (i := 0) rfl)
  obtain ⟨y1, h1⟩ := hf _ (List.mem_of_getElem? (i := 1) rfl)
  obtain ⟨y2, h2⟩ := hf _ (List.mem_of_getElem? (i := 2) rfl)
  obtain ⟨y3, h3⟩ := hf _ (List.mem_of_getElem? (i := 3) rfl)
  obtain ⟨y4, h4⟩ := hf _ (List.mem_of_getElem? (i := 4) rfl)
  obtain ⟨y5, h5⟩ := hf _ (List.mem_of_getElem? (i := 5) rfl)
  obtain ⟨y6, h6⟩ := hf _ (List.mem_of_getElem? (i := 6) rfl)
  simp only [k37] at h0
  simp only [k5] at h1 h2
  simp only [k23] at h3 h4 h5
  simp only [k39] at h6
  replace h0 : DataW.trod enc Try.prog w 0 sp held n 37 [v0, v1] = some y0 := h0
  replace h1 : DataW.trod enc Try.prog w 0 sp held n 5 [v2] = some y1 := h1
  replace h2 : DataW.trod enc Try.prog w 0 sp held n 5 [v3] = some y2 := h2
  replace h3 : DataW.trod enc Try.prog w 0 sp held n 23 [v4] = some y3 := h3
  replace h4 : DataW.trod enc Try.prog w 0 sp held n 23 [v5] = some y4 := h4
  replace h5 : DataW.trod enc Try.prog w 0 sp held n 23 [v6] = some y5 := h5
  replace h6 : DataW.trod enc Try.prog w 0 sp held n 39 [v7, v8, v9] = some y6 := h6
  obtain ⟨hl2, k, hg⟩ := struct_open (m := 2) Try.underlying37 k37 h0
  obtain ⟨w0, g0⟩ := hg _ (List.mem_of_getElem? (i := 0) rfl)
  obtain ⟨w1, g1⟩ := hg _ (List.mem_of_getElem? (i := 1) rfl)
  simp only [k34] at g0
  simp only [k35] at g1
  replace g0 : DataW.trod enc Try.prog w 0 sp held k 34 [v0] = some w0 := g0
  replace g1 : DataW.trod enc Try.prog w 0 sp held k 35 [v1] = some w1 := g1
  obtain ⟨clb, cln, clc, rfl⟩ := slice_of Try.underlying34 g0
  obtain ⟨mb, mn, mc, rfl⟩ := slice_of Try.underlying35 g1
  obtain ⟨cls, hcls⟩ := cls_open g0
  obtain ⟨ms, hms⟩ := ms_open g1
  obtain ⟨M, e1, -, w1'⟩ := DataW.trod_int Try.underlying5 h1
  obtain ⟨A, e2, -, w2'⟩ := DataW.trod_int Try.underlying5 h2
  obtain ⟨ab, an, ac, rfl⟩ := slice_of Try.underlying23 h3
  obtain ⟨bb, bn, bc, rfl⟩ := slice_of Try.underlying23 h4
  obtain ⟨sb, sn, sc, rfl⟩ := slice_of Try.underlying23 h5
  obtain ⟨za, a1, a2, a3, a4, a5⟩ := sl_open_ints Try.underlying23 Try.underlying27 k27 h3
  obtain ⟨zb, b1, b2, b3, b4, b5⟩ := sl_open_ints Try.underlying23 Try.underlying27 k27 h4
  obtain ⟨zs, c1, c2, c3, c4, c5⟩ := sl_open_ints Try.underlying23 Try.underlying27 k27 h5
  obtain ⟨zy, d1, d2, d3⟩ := struct_open_ints (k := .i64) Try.underlying39 k39 (by kernel_rfl) h6
  obtain ⟨op, a, b, rfl⟩ := list_three d1
  simp only [List.map_cons, List.map_nil, List.cons.injEq, and_true] at d2
  obtain ⟨rfl, rfl, rfl⟩ := d2
  simp only [List.cons.injEq, and_true] at e1 e2
  subst e1 e2
  have byte : ∀ z : Int, (Lit.int .u8 z).wf = true → 0 ≤ z ∧ z ≤ 255 := fun z hz => by
    obtain ⟨n, rfl, hn⟩ := wf_u8 hz; omega
  unfold maxLen at a3 b3 c3
  exact ⟨clb, mb, ab, bb, sb, cln, clc, mn, mc, an, ac, bn, bc, sn, sc, M, A, op, a, b, cls, ms, za, zb, zs, rfl, hcls, hms, byte _ w1', byte _ w2', a2, b2, c2, a1, b1, c1, by omega, by omega, by omega⟩
end Go.Proofs.Ytnfepffmlhmmhaa
