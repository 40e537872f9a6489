/- What the law gets, opened. -/
import Derived.Test.YtjdjkcebflablaaDoorWN3
import Derived.Test.YtjdjkcebflablaaDoorSlG3
import Derived.Test.YtjdjkcebflablaaDoorRows
import Derived.ChangeSame
import Derived.ChangeVars
import Derived.JoinedOf
import Derived.RowKit
import Derived.RowKitTokens
import Derived.LaidLaws
import Derived.LaidHandle
import Derived.Stop.Joined
set_option linter.unusedVariables false
set_option linter.unusedSimpArgs false
set_option linter.unusedSectionVars false
namespace Go.Proofs.YtjdjkcebflablaaDoor
open Go Go.SL
set_option maxRecDepth 1000000
open Go.ChangeShapes Go.WideShapes Go.ChangeAt Go.RowKit
theorem list_of {α : Type} {Q : Nat → α → Prop} : ∀ (n : Nat), (∀ i, i < n → ∃ x, Q i x) → ∃ l : List α, l.length = n ∧ ∀ (i : Nat) (x : α), l[i]? = some x → Q i x
  | 0, _ => ⟨[], rfl, fun i x h => by simp at h⟩
  | n + 1, h => by
    obtain ⟨l, h1, h2⟩ := list_of n fun i hi => h i (by omega)
    obtain ⟨x, hx⟩ := h n (by omega)
    refine ⟨l ++ [x], by simp [h1], fun i y hy => ?_⟩
    by_cases hi : i < l.length
    · rw [List.getElem?_append_left hi] at hy; exact h2 i y hy
    · have hi2 : i = n := by
        have := (List.getElem?_eq_some_iff.1 hy).1
        simp at this; omega
      subst hi2
      rw [List.getElem?_append_right (by omega), h1, Nat.sub_self] at hy
      simp at hy; subst hy; exact hx
theorem take_at {cs : List Value} {i k : Nat} (h : i + k ≤ cs.length) {vs : List Value} (hv : (cs.drop i).take k = vs) : ∀ j v, vs[j]? = some v → cs[i + j]? = some v := by
  intro j v hj
  subst hv
  rw [List.getElem?_take] at hj
  split at hj
  · rwa [List.getElem?_drop] at hj
  · cases hj
theorem flat_of : ∀ (n : Nat) {zs : List Int}, zs.length = n * 3 → ∃ ls : List Ins, ls.length = n ∧ flatI ls = zs.map i64 ∧ ∀ y ∈ ls, y.a ∈ zs ∧ y.b ∈ zs
  | 0, zs, h => ⟨[], rfl, by obtain rfl : zs = [] := List.length_eq_zero_iff.1 (by omega); rfl, fun y hy => by simp at hy⟩
  | n + 1, zs, h => by
    match zs, h with
    | a :: b :: c :: r, h =>
      obtain ⟨ls, h1, h2, h3⟩ := flat_of n (zs := r) (by simp at h; omega)
      refine ⟨⟨a, b, c⟩ :: ls, by simp [h1], by simp [flatI, h2], fun y hy => ?_⟩
      rcases List.mem_cons.1 hy with rfl | hy
      · exact ⟨by simp, by simp⟩
      · have := h3 y hy
        exact ⟨by simp [this.1], by simp [this.2]⟩
    | [], h => simp at h
    | [_], h => simp at h; omega
    | [_, _], h => simp at h; omega
theorem slice_of {H : Type} {enc : TypeId × Value → H} {w : World} {sp : Nat → Bool} {held : Bool} {fuel : Nat} {t e : TypeId} {a : Value} {y : DataW H × List MemPlace} (ht : Tryd.prog.underlying t = some (.slice e)) (h : DataW.trod enc Tryd.prog w 0 sp held fuel t [a] = some y) :
    ∃ (b : Option Addr) (l c : Nat), a = .slice b l c := by
  rcases DataW.trod_slice ht h with ⟨e0, -⟩ | ⟨ad, len, cap, _, _, _, _, e0, -⟩
  · simp only [List.cons.injEq, and_true] at e0; exact ⟨_, _, _, e0⟩
  · simp only [List.cons.injEq, and_true] at e0; exact ⟨_, _, _, e0⟩
theorem k25 : Tryd.prog.cellsOf 25 = 2 := by kernel_rfl
theorem k22 : Tryd.prog.cellsOf 22 = 1 := by kernel_rfl
theorem k23 : Tryd.prog.cellsOf 23 = 1 := by kernel_rfl
theorem k53 : Tryd.prog.cellsOf 53 = 1 := by kernel_rfl
theorem k56 : Tryd.prog.cellsOf 56 = 4 := by kernel_rfl
theorem k51 : Tryd.prog.cellsOf 51 = 1 := by kernel_rfl
theorem k54 : Tryd.prog.cellsOf 54 = 1 := by kernel_rfl
theorem k58 : Tryd.prog.cellsOf 58 = 3 := by kernel_rfl
theorem k3 : Tryd.prog.cellsOf 3 = 1 := by kernel_rfl
theorem k50 : Tryd.prog.cellsOf 50 = 1 := by kernel_rfl
theorem cls_open {H : Type} {enc : TypeId × Value → H} {w : World} {sp : Nat → Bool} {held : Bool} {fuel : Nat} {b : Option Addr} {n c : Nat} {x : DataW H × List MemPlace}
    (h : DataW.trod enc Tryd.prog w 0 sp held fuel 22 [.slice b n c] = some x) : ∃ cls, ClsIn (wh w) cls b n ∧ n ≤ c := by
  obtain ⟨cs, h1, h2, h3, h4, m, h5⟩ := sl_open Tryd.underlying22 k53 (Nat.succ_pos 0) h
  have hq : ∀ i, i < n → ∃ f : List Int, ∃ fb fn fc, cs[i]? = some (.slice fb fn fc) ∧ Sl (wh w) fb (f.map i64) ∧ f.length = fn ∧ fn ≤ 9223372036854775807 := fun i hi => by
    obtain ⟨y, hy⟩ := h5 i hi
    obtain ⟨v, hv⟩ : ∃ v, cs[i]? = some v := ⟨_, List.getElem?_eq_getElem (by omega)⟩
    have e : (cs.drop (i * 1)).take 1 = [v] := by
      rw [Nat.mul_one, List.drop_eq_getElem_cons (by omega)]
      simp [(List.getElem?_eq_some_iff.1 hv).2]
    rw [e] at hy
    obtain ⟨hl, k, hf⟩ := struct_open (m := 1) Tryd.underlying53 k53 hy
    obtain ⟨z, hz⟩ := hf _ (List.mem_of_getElem? (i := 0) rfl)
    simp only [k51] at hz
    replace hz : DataW.trod enc Tryd.prog w 0 sp held k 51 [v] = some z := hz
    obtain ⟨fb, fn, fc, rfl⟩ := slice_of Tryd.underlying51 hz
    obtain ⟨f, g1, g2, g3, g4, g5⟩ := sl_open_ints Tryd.underlying51 Tryd.underlying50 k50 hz
    exact ⟨f, fb, fn, fc, hv, g2, g1, by unfold maxLen at g3; omega⟩
  obtain ⟨cls, l1, l2⟩ := list_of n hq
  exact ⟨cls, ⟨cs, h2, by omega, l1, by unfold maxLen at h3; omega, l2⟩, h4⟩
theorem ms_open {H : Type} {enc : TypeId × Value → H} {w : World} {sp : Nat → Bool} {held : Bool} {fuel : Nat} {b : Option Addr} {n c : Nat} {x : DataW H × List MemPlace}
    (h : DataW.trod enc Tryd.prog w 0 sp held fuel 23 [.slice b n c] = some x) : ∃ ms, MsIn (wh w) ms b n ∧ n ≤ c ∧ ∀ m ∈ ms, ∀ y ∈ m.code, I64 y.a ∧ I64 y.b := by
  obtain ⟨cs, h1, h2, h3, h4, m, h5⟩ := sl_open Tryd.underlying23 k56 (Nat.succ_pos 3) h
  have hq : ∀ i, i < n → ∃ f : Me, (∃ pb pn pc cb cn cc, cs[i * 4]? = some (.slice pb pn pc) ∧ cs[i * 4 + 1]? = some (i64 f.lo) ∧ cs[i * 4 + 2]? = some (i64 f.st) ∧ cs[i * 4 + 3]? = some (.slice cb cn cc) ∧
      Sl (wh w) pb (f.params.map i64) ∧ f.params.length = pn ∧ pn ≤ 9223372036854775807 ∧ Sl (wh w) cb (flatI f.code) ∧ f.code.length = cn ∧ cn ≤ cc ∧ cn ≤ 9223372036854775807) ∧ ∀ y ∈ f.code, I64 y.a ∧ I64 y.b := fun i hi => by
    obtain ⟨y, hy⟩ := h5 i hi
    have hb : i * 4 + 4 ≤ cs.length := by omega
    have hl4 : ((cs.drop (i * 4)).take 4).length = 4 := by simp; omega
    obtain ⟨vs, hvs⟩ : ∃ vs, (cs.drop (i * 4)).take 4 = vs := ⟨_, rfl⟩
    have hat := take_at hb hvs
    rw [hvs] at hy hl4
    match vs, hl4 with
    | [v0, v1, v2, v3], _ =>
      obtain ⟨hl, k, hf⟩ := struct_open (m := 4) Tryd.underlying56 k56 hy
      obtain ⟨z0, q0⟩ := hf _ (List.mem_of_getElem? (i := 0) rfl)
      obtain ⟨z1, q1⟩ := hf _ (List.mem_of_getElem? (i := 1) rfl)
      obtain ⟨z2, q2⟩ := hf _ (List.mem_of_getElem? (i := 2) rfl)
      obtain ⟨z3, q3⟩ := hf _ (List.mem_of_getElem? (i := 3) rfl)
      simp only [k51] at q0
      simp only [k3] at q1 q2
      simp only [k54] at q3
      replace q0 : DataW.trod enc Tryd.prog w 0 sp held k 51 [v0] = some z0 := q0
      replace q1 : DataW.trod enc Tryd.prog w 0 sp held k 3 [v1] = some z1 := q1
      replace q2 : DataW.trod enc Tryd.prog w 0 sp held k 3 [v2] = some z2 := q2
      replace q3 : DataW.trod enc Tryd.prog w 0 sp held k 54 [v3] = some z3 := q3
      obtain ⟨lo, e1, -, -⟩ := DataW.trod_int Tryd.underlying3 q1
      obtain ⟨st, e2, -, -⟩ := DataW.trod_int Tryd.underlying3 q2
      simp only [List.cons.injEq, and_true] at e1 e2
      subst e1 e2
      obtain ⟨pb, pn, pc, rfl⟩ := slice_of Tryd.underlying51 q0
      obtain ⟨cb, cn, cc, rfl⟩ := slice_of Tryd.underlying54 q3
      obtain ⟨f, g1, g2, g3, g4, g5⟩ := sl_open_ints Tryd.underlying51 Tryd.underlying50 k50 q0
      obtain ⟨zs, r1, r2, r3, r4, r5⟩ := sl_open_structs Tryd.underlying54 Tryd.underlying58 (by kernel_rfl) k58 (Nat.succ_pos 2) q3
      obtain ⟨code, c1, c2, c3⟩ := flat_of cn r1
      refine ⟨⟨f, lo, st, code⟩, ⟨pb, pn, pc, cb, cn, cc, hat 0 _ rfl, hat 1 _ rfl, hat 2 _ rfl, hat 3 _ rfl, g2, g1, by unfold maxLen at g3; omega, ?_, c1, r4, by unfold maxLen at r3; omega⟩, fun y hy => ⟨wf_i64 (r5 _ (c3 y hy).1), wf_i64 (r5 _ (c3 y hy).2)⟩⟩
      show Sl (wh w) cb (flatI code)
      rw [c2]; exact r2
  obtain ⟨ms, l1, l2⟩ := list_of n hq
  refine ⟨ms, ⟨cs, h2, by omega, l1, by unfold maxLen at h3; omega, fun i m hm => (l2 i m hm).1⟩, h4, fun m hm => ?_⟩
  obtain ⟨i, hi⟩ := List.mem_iff_getElem?.1 hm
  exact (l2 i m hi).2
theorem img_open {H : Type} {enc : TypeId × Value → H} {w : World} {sp : Nat → Bool} {held : Bool} {fuel : Nat} {cs : List Value} {x : DataW H × List MemPlace}
    (h : DataW.trod enc Tryd.prog w 0 sp held fuel 25 cs = some x) : ∃ y : Im, ImIn (wh w) y (.agg ⟨cs⟩) ∧ AllI y := by
  obtain ⟨hl, n, hf⟩ := struct_open (m := 2) Tryd.underlying25 k25 h
  match cs, hl with
  | [v0, v1], _ =>
    obtain ⟨y0, h0⟩ := hf _ (List.mem_of_getElem? (i := 0) rfl)
    obtain ⟨y1, h1⟩ := hf _ (List.mem_of_getElem? (i := 1) rfl)
    simp only [k22] at h0
    simp only [k23] at h1
    replace h0 : DataW.trod enc Tryd.prog w 0 sp held n 22 [v0] = some y0 := h0
    replace h1 : DataW.trod enc Tryd.prog w 0 sp held n 23 [v1] = some y1 := h1
    obtain ⟨clb, cln, clc, rfl⟩ := slice_of Tryd.underlying22 h0
    obtain ⟨mb, mn, mc, rfl⟩ := slice_of Tryd.underlying23 h1
    obtain ⟨cls, c1, c2⟩ := cls_open h0
    obtain ⟨ms, m1, m2, m3⟩ := ms_open h1
    exact ⟨⟨cls, ms⟩, ⟨clb, cln, clc, mb, mn, mc, rfl, c1, m1, c2, m2⟩, m3⟩
/-! The laid variable. -/
set_option maxRecDepth 100000
theorem et_ : Tryd.prog.globalNamed "errors.errorType" = some 0 := by kernel_rfl
theorem rt_ : (Tryd.prog.cutTypes.find? (·.1 == "internal/reflectlite.rtype")).map (·.2) = some 134 := by kernel_rfl
theorem sizeT : Tryd.prog.types.size = 178 := by kernel_rfl
theorem oneRow : ((List.range 178).filter fun t => Tryd.prog.rowNamed t [101, 114, 114, 111, 114]) = [38] := by kernel_rfl
abbrev laidL {H : Type} : List (String × DataW H) := [("errors.errorType", Rows.laid_errors_errorType)]
theorem handle_of_laid {W : World} (h : laidMetH Tryd.prog laidL W) : W.cell? ⟨0, 0, none⟩ = some (.iface 134 (.agg #[.pointer (some ⟨1, 38, none⟩)])) := by
  have h' : laidMet Tryd.prog [] W ∧ handlesMet Tryd.prog laidL W := h
  obtain ⟨name, u, ty, e1, e2, e3, e4, e5⟩ := h'.2 _ (List.mem_singleton.2 rfl)
  have en : name = [101, 114, 114, 111, 114] := (Option.some.inj e1).symm
  subst en
  obtain rfl := Option.some.inj (rt_.symm.trans e2)
  have hm : ty ∈ (List.range 178).filter fun t => Tryd.prog.rowNamed t [101, 114, 114, 111, 114] := List.mem_filter.2 ⟨List.mem_range.2 (by rw [← sizeT]; exact e3), e4⟩
  rw [oneRow] at hm
  obtain rfl := List.mem_singleton.1 hm
  have hh : typeHandle Tryd.prog 38 = .pointer (some ⟨1, 38, none⟩) := by kernel_rfl
  rw [hh] at e5
  simpa using World.var?_cell et_ e5 0
theorem ges_of {W : World} (h : laidMetH Tryd.prog laidL W) : Ges (wh W) := by
  have hc := handle_of_laid h
  refine ⟨fun k v hk => ?_⟩
  have hk0 : k = 0 := by
    have := (List.getElem?_eq_some_iff.1 hk).1
    simp at this; exact this
  subst hk0
  simp only [List.getElem?_cons_zero, Option.some.injEq] at hk
  subst hk
  simp only [World.cell?] at hc
  split at hc
  · rename_i c T fz he
    exact ⟨⟨0, 0, none⟩, c, T, fz, rfl, rfl, wh_b.2 he, by simpa using hc⟩
  · cases hc
noncomputable def laidWorld (os : Os) : World :=
  let w0 := World.holding Tryd.prog os ⟨#[], #[], []⟩
  { w0 with heap := w0.heap.modify 0 fun
      | .cells _ t frozen => .cells #[.iface 134 (.agg #[.pointer (some ⟨1, 38, none⟩)])] t frozen
      | o => o }
theorem laidWorld_met (os : Os) (args : Array Value) : laidMetH Tryd.prog laidL ((laidWorld os).forCall (fun _ _ => 0) ⟨#[], args, []⟩).memory :=
  laidMetH_of_parts (laidMet_nil _ _) (by kernel_rfl)
end Go.Proofs.YtjdjkcebflablaaDoor
