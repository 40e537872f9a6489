/- Seven threads and one object: what their events make. -/
import Derived.Test.YtimmclibnfdjhaaWB18
namespace Go.Proofs.Ytimmclibnfdjhaa
open Go.SL
/-- Seven threads and an object. -/
def S7 (f : Nat → Th) (p : Int × Int) (r : Int) : St := ⟨(List.range 7).map f, [p], r⟩
def up (f : Nat → Th) (t : Nat) (x : Th) : Nat → Th := fun u => if u = t then x else f u
theorem up_self (f : Nat → Th) (t : Nat) (x : Th) : up f t x t = x := if_pos rfl
theorem up_ne {f : Nat → Th} {t u : Nat} {x : Th} (h : u ≠ t) : up f t x u = f u := if_neg h
theorem up_up (f : Nat → Th) (t : Nat) (x y : Th) : up (up f t x) t y = up f t y := by
  funext u
  by_cases h : u = t
  · subst h; rw [up_self, up_self]
  · rw [up_ne h, up_ne h, up_ne h]
theorem S7_len (f : Nat → Th) (p : Int × Int) (r : Int) : (S7 f p r).th.length = 7 := by simp [S7]
theorem S7_at {f : Nat → Th} {p : Int × Int} {r : Int} {u : Nat} (h : u < 7) : (S7 f p r).th[u]? = some (f u) := by
  simp [S7, List.getElem?_map, List.getElem?_range h]
theorem S7_congr {f g : Nat → Th} {p : Int × Int} {r : Int} (h : ∀ u, u < 7 → f u = g u) : S7 f p r = S7 g p r := by
  unfold S7
  rw [List.map_congr_left fun u hu => h u (List.mem_range.1 hu)]
theorem modify_range (f : Nat → Th) (g : Th → Th) (t n : Nat) : ((List.range n).map f).modify t g = (List.range n).map (up f t (g (f t))) := by
  apply List.ext_getElem?
  intro u
  rw [List.getElem?_modify]
  simp only [List.getElem?_map]
  by_cases hu : u < n
  · rw [List.getElem?_range hu]
    by_cases e : t = u
    · subst e; simp [up]
    · simp [up, e, Ne.symm e]
  · rw [List.getElem?_eq_none (by simp; omega)]; rfl
section
variable {f : Nat → Th} {p : Int × Int} {r : Int} {t : Nat} {c : Int} {fl : Bool} {o : Opn} {x : Option Opn}
theorem S7_opn (h : f t = ⟨x, c, fl⟩) : (S7 f p r).opn t o = S7 (up f t ⟨some o, c, fl⟩) p r := by
  unfold St.opn S7 opnT
  dsimp only
  rw [modify_range, h]
theorem S7_cls (h : f t = ⟨x, c, fl⟩) (c' : Int) : (S7 f p r).cls t c' = S7 (up f t ⟨x, c', fl⟩) p r := by
  unfold St.cls S7 callsT
  dsimp only
  rw [modify_range, h]
theorem S7_shut (h : f t = ⟨x, c, fl⟩) : (S7 f p r).shut t = S7 (up f t ⟨none, c, fl⟩) p r := by
  unfold St.shut S7 opnT
  dsimp only
  rw [modify_range, h]
theorem S7_obj (q : Int × Int) : (S7 f p r).obj 0 q = S7 f q r := rfl
theorem take_call (ht : t < 7) (h : f t = ⟨none, c, fl⟩) (op arg : Int) : takeF (S7 f p r) (Ev.call t c op arg) = (true, S7 (up f t ⟨some ⟨op, 0, arg, 0, 0, 0, 0, 0⟩, inc c, fl⟩) p r) := by
  unfold takeF
  rw [if_neg (by rw [S7_len]; simp [Ev.call]; omega)]
  have e : (Ev.call t c op arg).thread.toNat = t := by simp [Ev.call]
  rw [e, S7_at ht, h]
  dsimp only
  rw [if_pos (show (Ev.call t c op arg).kind = 0 from rfl), if_neg (by simp [callNo, Ev.call])]
  rw [S7_cls h, S7_opn (x := none) (c := inc c) (fl := fl) (by rw [up_self]), up_up]
  rfl
theorem take_act (ht : t < 7) (h : f t = ⟨some o, c, fl⟩) (ho : o.obj = 0) (h1 : 0 ≤ o.op) (h2 : o.op < 9) (h3 : o.op ≠ 6) (hf : o.far ≠ 5) (a b : Int) :
    takeF (S7 f p r) (Ev.act' t a b) = stepF (S7 f p r) t 0 o p.1 p.2 fl (Ev.act' t a b) (decide (p.1 = (t : Int))) := by
  unfold takeF
  rw [if_neg (by rw [S7_len]; simp [Ev.act']; omega)]
  have e : (Ev.act' t a b).thread.toNat = t := by simp [Ev.act']
  rw [e, S7_at ht, h]
  dsimp only
  rw [if_neg (by simp [Ev.act']), if_pos (show (Ev.act' t a b).kind = 1 from rfl)]
  unfold actF
  rw [e, S7_at ht, h]
  dsimp only
  rw [if_neg]
  · rfl
  · unfold actNo wrongB
    rw [S7_len]
    simp only [Ev.act', S7, List.length_singleton, ho]
    simp only [not_or]
    refine ⟨⟨by omega, by omega, by omega, by omega, fun hh => h3 hh.1⟩, fun hh => hh rfl, hf, fun hh => hh rfl, fun hh => hh rfl, fun hh => hh rfl⟩
theorem take_back (ht : t < 7) (h : f t = ⟨some o, c, fl⟩) (ho : o.obj = 0) (h1 : 0 ≤ o.op) (h2 : o.op < 9) (h3 : o.op ≠ 6) (hf : o.far = 5) (i code val : Int) (hi : i = dec c) :
    takeF (S7 f p r) (Ev.back t i code val) = if code = o.code ∧ val = o.val then (true, S7 (up f t ⟨none, c, fl⟩) p r) else (false, S7 f p r) := by
  unfold takeF
  rw [if_neg (by rw [S7_len]; simp [Ev.back]; omega)]
  have e : (Ev.back t i code val).thread.toNat = t := by simp [Ev.back]
  rw [e, S7_at ht, h]
  dsimp only
  have hw : ¬ wrongB (S7 f p r).th.length (S7 f p r).ob.length o.op o.obj o.arg := by
    unfold wrongB
    rw [S7_len]
    simp only [S7, List.length_singleton, ho]
    simp only [not_or]
    exact ⟨by omega, by omega, by omega, by omega, fun hh => h3 hh.1⟩
  rw [if_neg (by simp [Ev.back]), if_neg (by simp [Ev.back]), if_pos (show (Ev.back t i code val).kind = 2 from rfl)]
  by_cases hc : code = o.code ∧ val = o.val
  · rw [if_pos hc, if_neg, S7_shut h]
    unfold ansNo wantC mayB
    rw [if_neg hw]
    simp [Ev.back, hi, hf, hc.1, hc.2]
  · rw [if_neg hc, if_pos]
    unfold ansNo wantC mayB
    rw [if_neg hw]
    simp only [Ev.back]
    by_cases h : code = o.code
    · exact .inr (.inr (.inr (.inr (.inr (.inr fun h' => hc ⟨h, h'⟩)))))
    · exact .inr (.inr (.inr (.inr (.inr (.inl h)))))
theorem takes_cons {σ σ' : St} {e : Ev} {es : List Ev} (h : takeF σ e = (true, σ')) : takesF σ (e :: es) = takesF σ' es := by
  rw [takesF, h, if_pos rfl]
theorem inc_id {c : Int} (h0 : -1000 ≤ c) (h1 : c ≤ 1000) : inc c = c + 1 := wrap64_id (by omega) (by omega)
theorem dec_id {c : Int} (h0 : -1000 ≤ c) (h1 : c ≤ 1000) : dec c = c - 1 := wrap64_id (by omega) (by omega)
/-- Entering. -/
theorem takes_enter (ht : t < 7) (h : f t = ⟨none, c, fl⟩) (hc0 : 0 ≤ c) (hc1 : c ≤ 100) {ow dp : Int} (ho : ow = t ∨ ow < 0) (hd0 : 0 ≤ dp) (hd1 : dp ≤ 100) (es : List Ev) :
    takesF (S7 f (ow, dp) r) (Ev.call t c 0 0 :: Ev.act' t 0 0 :: Ev.back t c 0 0 :: es) = takesF (S7 (up f t ⟨none, c + 1, fl⟩) ((t : Int), dp + 1) r) es := by
  have e1 := inc_id (c := c) (by omega) (by omega)
  rw [takes_cons (take_call ht h 0 0), e1]
  have hs : takeF (S7 (up f t ⟨some ⟨0, 0, 0, 0, 0, 0, 0, 0⟩, c + 1, fl⟩) (ow, dp) r) (Ev.act' t 0 0) = (true, S7 (up f t ⟨some ⟨0, 0, 0, 5, 0, 0, 0, 0⟩, c + 1, fl⟩) ((t : Int), dp + 1) r) := by
    rw [take_act ht (up_self ..) rfl (by decide) (by decide) (by decide) (by decide)]
    unfold stepF
    rw [if_pos rfl]
    unfold enterF
    rw [if_pos, inc_id (by omega) (by omega), S7_obj, S7_opn (up_self ..), up_up]
    · rfl
    · rcases ho with rfl | h <;> simp [Ev.act', *]
  rw [takes_cons hs]
  rw [takes_cons (σ' := S7 (up f t ⟨none, c + 1, fl⟩) ((t : Int), dp + 1) r)]
  rw [take_back ht (up_self ..) rfl (by decide) (by decide) (by decide) rfl c 0 0 (by rw [dec_id (by omega) (by omega)]; omega), if_pos ⟨rfl, rfl⟩, up_up]
/-- Going away. -/
theorem takes_exit (ht : t < 7) (h : f t = ⟨none, c, fl⟩) (hc0 : 0 ≤ c) (hc1 : c ≤ 100) {dp : Int} (hd0 : 0 < dp) (hd1 : dp ≤ 100) (es : List Ev) :
    takesF (S7 f ((t : Int), dp) r) (Ev.call t c 1 0 :: Ev.act' t 1 0 :: Ev.back t c 0 0 :: es) = takesF (S7 (up f t ⟨none, c + 1, fl⟩) (if dp - 1 = 0 then -1 else (t : Int), dp - 1) r) es := by
  have e1 := inc_id (c := c) (by omega) (by omega)
  rw [takes_cons (take_call ht h 1 0), e1]
  have hs : takeF (S7 (up f t ⟨some ⟨1, 0, 0, 0, 0, 0, 0, 0⟩, c + 1, fl⟩) ((t : Int), dp) r) (Ev.act' t 1 0) = (true, S7 (up f t ⟨some ⟨1, 0, 0, 5, 0, 0, 0, 0⟩, c + 1, fl⟩) (if dp - 1 = 0 then -1 else (t : Int), dp - 1) r) := by
    rw [take_act ht (up_self ..) rfl (by decide) (by decide) (by decide) (by decide)]
    unfold stepF
    rw [if_neg (by decide), if_pos rfl]
    unfold exitF
    rw [if_pos, dec_id (by omega) (by omega), S7_obj, S7_opn (up_self ..), up_up]
    · simp [Ev.act']
  rw [takes_cons hs]
  rw [takes_cons (σ' := S7 (up f t ⟨none, c + 1, fl⟩) (if dp - 1 = 0 then -1 else (t : Int), dp - 1) r)]
  rw [take_back ht (up_self ..) rfl (by decide) (by decide) (by decide) rfl c 0 0 (by rw [dec_id (by omega) (by omega)]; omega), if_pos ⟨rfl, rfl⟩, up_up]
/-- A call that waits. -/
abbrev waitO (far saved since : Int) : Opn := ⟨2, 0, 0, far, saved, since, 0, 0⟩
theorem takes_wait (ht : t < 7) (h : f t = ⟨none, c, false⟩) (hc0 : 0 ≤ c) (hc1 : c ≤ 100) (hr0 : 0 ≤ r) (hr1 : r ≤ 100) {dp : Int} (es : List Ev) :
    takesF (S7 f ((t : Int), dp) r) (Ev.call t c 2 0 :: Ev.act' t 2 0 :: es) = takesF (S7 (up f t ⟨some (waitO 2 dp (r + 1)), c + 1, false⟩) (-1, 0) (r + 1)) es := by
  have e1 := inc_id (c := c) (by omega) (by omega)
  rw [takes_cons (take_call ht h 2 0), e1]
  have hs : takeF (S7 (up f t ⟨some ⟨2, 0, 0, 0, 0, 0, 0, 0⟩, c + 1, false⟩) ((t : Int), dp) r) (Ev.act' t 2 0) = (true, S7 (up f t ⟨some (waitO 2 dp (r + 1)), c + 1, false⟩) (-1, 0) (r + 1)) := by
    rw [take_act ht (up_self ..) rfl (by decide) (by decide) (by decide) (by decide)]
    unfold stepF
    rw [if_neg (by decide), if_neg (by decide), if_pos (.inl rfl)]
    unfold waitF
    rw [if_neg (by simp [Ev.act']), if_neg (by simp [Ev.act']), if_pos (by simp [Ev.act'])]
    have e2 : inc (S7 (up f t ⟨some ⟨2, 0, 0, 0, 0, 0, 0, 0⟩, c + 1, false⟩) ((t : Int), dp) r).rel = r + 1 := inc_id (c := r) (by omega) (by omega)
    rw [e2]
    refine congrArg (Prod.mk true) ?_
    show ((S7 (up f t ⟨some ⟨2, 0, 0, 0, 0, 0, 0, 0⟩, c + 1, false⟩) ((t : Int), dp) (r + 1)).opn t _).obj 0 _ = _
    rw [S7_opn (up_self ..), up_up, S7_obj]
  rw [takes_cons hs]
end
end Go.Proofs.Ytimmclibnfdjhaa
