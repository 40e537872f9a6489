/- Seven threads and one object: what their events make. -/
import Derived.Test.YtimmclibnfdjhaaWB18
import Derived.Test.YtimmclibnfdjhaaWB20
import Derived.Test.YtimmclibnfdjhaaSlG9
set_option linter.unusedVariables false
set_option linter.unusedSimpArgs false
set_option linter.unusedSectionVars false
section
namespace Go.Proofs.Ytimmclibnfdjhaa
open Go.SL
/-- Seven threads and an object. -/
def S7 (f : Nat → Th) (p : Int × Int) (r : Int) : St := ⟨(List.range 7).map f, [p], r⟩
def up (f : Nat → Th) (t : Nat) (x : Th) : Nat → Th := fun u => if u = t then x else f u
theorem up_self (f : Nat → Th) (t : Nat) (x : Th) : up f t x t = x := if_pos rfl
theorem up_ne {f : Nat → Th} {t u : Nat} {x : Th} (h : u ≠ t) : up f t x u = f u := if_neg h
theorem up_up (f : Nat → Th) (t : Nat) (x y : Th) : up (up f t x) t y = up f t y := by
  funext u
  by_cases h : u = t
  · subst h; rw [up_self, up_self]
  · rw [up_ne h, up_ne h, up_ne h]
theorem S7_len (f : Nat → Th) (p : Int × Int) (r : Int) : (S7 f p r).th.length = 7 := by simp [S7]
theorem S7_at {f : Nat → Th} {p : Int × Int} {r : Int} {u : Nat} (h : u < 7) : (S7 f p r).th[u]? = some (f u) := by
  simp [S7, List.getElem?_map, List.getElem?_range h]
theorem S7_congr {f g : Nat → Th} {p : Int × Int} {r : Int} (h : ∀ u, u < 7 → f u = g u) : S7 f p r = S7 g p r := by
  unfold S7
  rw [List.map_congr_left fun u hu => h u (List.mem_range.1 hu)]
theorem modify_range (f : Nat → Th) (g : Th → Th) (t n : Nat) : ((List.range n).map f).modify t g = (List.range n).map (up f t (g (f t))) := by
  apply List.ext_getElem?
  intro u
  rw [List.getElem?_modify]
  simp only [List.getElem?_map]
  by_cases hu : u < n
  · rw [List.getElem?_range hu]
    by_cases e : t = u
    · subst e; simp [up]
    · simp [up, e, Ne.symm e]
  · rw [List.getElem?_eq_none (by simp; omega)]; rfl
section
variable {f : Nat → Th} {p : Int × Int} {r : Int} {t : Nat} {c : Int} {fl : Bool} {o : Opn} {x : Option Opn}
theorem S7_opn (h : f t = ⟨x, c, fl⟩) : (S7 f p r).opn t o = S7 (up f t ⟨some o, c, fl⟩) p r := by
  unfold St.opn S7 opnT
  dsimp only
  rw [modify_range, h]
theorem S7_cls (h : f t = ⟨x, c, fl⟩) (c' : Int) : (S7 f p r).cls t c' = S7 (up f t ⟨x, c', fl⟩) p r := by
  unfold St.cls S7 callsT
  dsimp only
  rw [modify_range, h]
theorem S7_shut (h : f t = ⟨x, c, fl⟩) : (S7 f p r).shut t = S7 (up f t ⟨none, c, fl⟩) p r := by
  unfold St.shut S7 opnT
  dsimp only
  rw [modify_range, h]
theorem S7_obj (q : Int × Int) : (S7 f p r).obj 0 q = S7 f q r := rfl
theorem take_call (ht : t < 7) (h : f t = ⟨none, c, fl⟩) (op arg : Int) : takeF (S7 f p r) (Ev.call t c op arg) = (true, S7 (up f t ⟨some ⟨op, 0, arg, 0, 0, 0, 0, 0⟩, inc c, fl⟩) p r) := by
  unfold takeF
  rw [if_neg (by rw [S7_len]; simp [Ev.call]; omega)]
  have e : (Ev.call t c op arg).thread.toNat = t := by simp [Ev.call]
  rw [e, S7_at ht, h]
  dsimp only
  rw [if_pos (show (Ev.call t c op arg).kind = 0 from rfl), if_neg (by simp [callNo, Ev.call])]
  rw [S7_cls h, S7_opn (x := none) (c := inc c) (fl := fl) (by rw [up_self]), up_up]
  rfl
theorem take_act (ht : t < 7) (h : f t = ⟨some o, c, fl⟩) (ho : o.obj = 0) (h1 : 0 ≤ o.op) (h2 : o.op < 9) (h3 : o.op ≠ 6) (hf : o.far ≠ 5) (a b : Int) :
    takeF (S7 f p r) (Ev.act' t a b) = stepF (S7 f p r) t 0 o p.1 p.2 fl (Ev.act' t a b) (decide (p.1 = (t : Int))) := by
  unfold takeF
  rw [if_neg (by rw [S7_len]; simp [Ev.act']; omega)]
  have e : (Ev.act' t a b).thread.toNat = t := by simp [Ev.act']
  rw [e, S7_at ht, h]
  dsimp only
  rw [if_neg (by simp [Ev.act']), if_pos (show (Ev.act' t a b).kind = 1 from rfl)]
  unfold actF
  rw [e, S7_at ht, h]
  dsimp only
  rw [if_neg]
  · rfl
  · unfold actNo wrongB
    rw [S7_len]
    simp only [Ev.act', S7, List.length_singleton, ho]
    simp only [not_or]
    refine ⟨⟨by omega, by omega, by omega, by omega, fun hh => h3 hh.1⟩, fun hh => hh rfl, hf, fun hh => hh rfl, fun hh => hh rfl, fun hh => hh rfl⟩
theorem take_back (ht : t < 7) (h : f t = ⟨some o, c, fl⟩) (ho : o.obj = 0) (h1 : 0 ≤ o.op) (h2 : o.op < 9) (h3 : o.op ≠ 6) (hf : o.far = 5) (i code val : Int) (hi : i = dec c) :
    takeF (S7 f p r) (Ev.back t i code val) = if code = o.code ∧ val = o.val then (true, S7 (up f t ⟨none, c, fl⟩) p r) else (false, S7 f p r) := by
  unfold takeF
  rw [if_neg (by rw [S7_len]; simp [Ev.back]; omega)]
  have e : (Ev.back t i code val).thread.toNat = t := by simp [Ev.back]
  rw [e, S7_at ht, h]
  dsimp only
  have hw : ¬ wrongB (S7 f p r).th.length (S7 f p r).ob.length o.op o.obj o.arg := by
    unfold wrongB
    rw [S7_len]
    simp only [S7, List.length_singleton, ho]
    simp only [not_or]
    exact ⟨by omega, by omega, by omega, by omega, fun hh => h3 hh.1⟩
  rw [if_neg (by simp [Ev.back]), if_neg (by simp [Ev.back]), if_pos (show (Ev.back t i code val).kind = 2 from rfl)]
  by_cases hc : code = o.code ∧ val = o.val
  · rw [if_pos hc, if_neg, S7_shut h]
    unfold ansNo wantC mayB
    rw [if_neg hw]
    simp [Ev.back, hi, hf, hc.1, hc.2]
  · rw [if_neg hc, if_pos]
    unfold ansNo wantC mayB
    rw [if_neg hw]
    simp only [Ev.back]
    by_cases h : code = o.code
    · exact .inr (.inr (.inr (.inr (.inr (.inr fun h' => hc ⟨h, h'⟩)))))
    · exact .inr (.inr (.inr (.inr (.inr (.inl h)))))
theorem takes_cons {σ σ' : St} {e : Ev} {es : List Ev} (h : takeF σ e = (true, σ')) : takesF σ (e :: es) = takesF σ' es := by
  rw [takesF, h, if_pos rfl]
theorem inc_id {c : Int} (h0 : -1000 ≤ c) (h1 : c ≤ 1000) : inc c = c + 1 := wrap64_id (by omega) (by omega)
theorem dec_id {c : Int} (h0 : -1000 ≤ c) (h1 : c ≤ 1000) : dec c = c - 1 := wrap64_id (by omega) (by omega)
/-- Entering. -/
theorem takes_enter (ht : t < 7) (h : f t = ⟨none, c, fl⟩) (hc0 : 0 ≤ c) (hc1 : c ≤ 100) {ow dp : Int} (ho : ow = t ∨ ow < 0) (hd0 : 0 ≤ dp) (hd1 : dp ≤ 100) (es : List Ev) :
    takesF (S7 f (ow, dp) r) (Ev.call t c 0 0 :: Ev.act' t 0 0 :: Ev.back t c 0 0 :: es) = takesF (S7 (up f t ⟨none, c + 1, fl⟩) ((t : Int), dp + 1) r) es := by
  have e1 := inc_id (c := c) (by omega) (by omega)
  rw [takes_cons (take_call ht h 0 0), e1]
  have hs : takeF (S7 (up f t ⟨some ⟨0, 0, 0, 0, 0, 0, 0, 0⟩, c + 1, fl⟩) (ow, dp) r) (Ev.act' t 0 0) = (true, S7 (up f t ⟨some ⟨0, 0, 0, 5, 0, 0, 0, 0⟩, c + 1, fl⟩) ((t : Int), dp + 1) r) := by
    rw [take_act ht (up_self ..) rfl (by decide) (by decide) (by decide) (by decide)]
    unfold stepF
    rw [if_pos rfl]
    unfold enterF
    rw [if_pos, inc_id (by omega) (by omega), S7_obj, S7_opn (up_self ..), up_up]
    · rfl
    · rcases ho with rfl | h <;> simp [Ev.act', *]
  rw [takes_cons hs]
  rw [takes_cons (σ' := S7 (up f t ⟨none, c + 1, fl⟩) ((t : Int), dp + 1) r)]
  rw [take_back ht (up_self ..) rfl (by decide) (by decide) (by decide) rfl c 0 0 (by rw [dec_id (by omega) (by omega)]; omega), if_pos ⟨rfl, rfl⟩, up_up]
/-- Going away. -/
theorem takes_exit (ht : t < 7) (h : f t = ⟨none, c, fl⟩) (hc0 : 0 ≤ c) (hc1 : c ≤ 100) {dp : Int} (hd0 : 0 < dp) (hd1 : dp ≤ 100) (es : List Ev) :
    takesF (S7 f ((t : Int), dp) r) (Ev.call t c 1 0 :: Ev.act' t 1 0 :: Ev.back t c 0 0 :: es) = takesF (S7 (up f t ⟨none, c + 1, fl⟩) (if dp - 1 = 0 then -1 else (t : Int), dp - 1) r) es := by
  have e1 := inc_id (c := c) (by omega) (by omega)
  rw [takes_cons (take_call ht h 1 0), e1]
  have hs : takeF (S7 (up f t ⟨some ⟨1, 0, 0, 0, 0, 0, 0, 0⟩, c + 1, fl⟩) ((t : Int), dp) r) (Ev.act' t 1 0) = (true, S7 (up f t ⟨some ⟨1, 0, 0, 5, 0, 0, 0, 0⟩, c + 1, fl⟩) (if dp - 1 = 0 then -1 else (t : Int), dp - 1) r) := by
    rw [take_act ht (up_self ..) rfl (by decide) (by decide) (by decide) (by decide)]
    unfold stepF
    rw [if_neg (by decide), if_pos rfl]
    unfold exitF
    rw [if_pos, dec_id (by omega) (by omega), S7_obj, S7_opn (up_self ..), up_up]
    · simp [Ev.act']
  rw [takes_cons hs]
  rw [takes_cons (σ' := S7 (up f t ⟨none, c + 1, fl⟩) (if dp - 1 = 0 then -1 else (t : Int), dp - 1) r)]
  rw [take_back ht (up_self ..) rfl (by decide) (by decide) (by decide) rfl c 0 0 (by rw [dec_id (by omega) (by omega)]; omega), if_pos ⟨rfl, rfl⟩, up_up]
/-- A call that waits. -/
abbrev waitO (far saved since : Int) : Opn := ⟨2, 0, 0, far, saved, since, 0, 0⟩
theorem takes_wait (ht : t < 7) (h : f t = ⟨none, c, false⟩) (hc0 : 0 ≤ c) (hc1 : c ≤ 100) (hr0 : 0 ≤ r) (hr1 : r ≤ 100) {dp : Int} (es : List Ev) :
    takesF (S7 f ((t : Int), dp) r) (Ev.call t c 2 0 :: Ev.act' t 2 0 :: es) = takesF (S7 (up f t ⟨some (waitO 2 dp (r + 1)), c + 1, false⟩) (-1, 0) (r + 1)) es := by
  have e1 := inc_id (c := c) (by omega) (by omega)
  rw [takes_cons (take_call ht h 2 0), e1]
  have hs : takeF (S7 (up f t ⟨some ⟨2, 0, 0, 0, 0, 0, 0, 0⟩, c + 1, false⟩) ((t : Int), dp) r) (Ev.act' t 2 0) = (true, S7 (up f t ⟨some (waitO 2 dp (r + 1)), c + 1, false⟩) (-1, 0) (r + 1)) := by
    rw [take_act ht (up_self ..) rfl (by decide) (by decide) (by decide) (by decide)]
    unfold stepF
    rw [if_neg (by decide), if_neg (by decide), if_pos (.inl rfl)]
    unfold waitF
    rw [if_neg (by simp [Ev.act']), if_neg (by simp [Ev.act']), if_pos (by simp [Ev.act'])]
    have e2 : inc (S7 (up f t ⟨some ⟨2, 0, 0, 0, 0, 0, 0, 0⟩, c + 1, false⟩) ((t : Int), dp) r).rel = r + 1 := inc_id (c := r) (by omega) (by omega)
    rw [e2]
    refine congrArg (Prod.mk true) ?_
    show ((S7 (up f t ⟨some ⟨2, 0, 0, 0, 0, 0, 0, 0⟩, c + 1, false⟩) ((t : Int), dp) (r + 1)).opn t _).obj 0 _ = _
    rw [S7_opn (up_self ..), up_up, S7_obj]
  rw [takes_cons hs]
end
end Go.Proofs.Ytimmclibnfdjhaa
end
section
/- The run of SpecWakes: what each step makes. -/
namespace Go.Proofs.Ytimmclibnfdjhaa
open Go.SL
theorem mem_wlist (fars : List Int) (o : Int) : ∀ (ts : List Th) (j u : Nat) (t : Th), ts[u]? = some t → waitsB fars o t = true → j + u ∈ wlist fars o j ts
  | [], _, _, _, h, _ => by simp at h
  | x :: ts, j, 0, t, h, hw => by
    simp at h; subst h
    simp only [wlist, hw, if_true, Nat.add_zero]
    exact List.mem_cons_self ..
  | x :: ts, j, u + 1, t, h, hw => by
    have ih := mem_wlist fars o ts (j + 1) u t (by simpa using h) hw
    rw [show j + (u + 1) = j + 1 + u by omega]
    simp only [wlist]
    split
    · exact List.mem_cons_of_mem _ ih
    · exact ih
theorem longG_min (th : List Th) (v : Nat) : ∀ (l : List Nat) (f : Int), (f < 0 ∨ f = (v : Int) ∨ (0 ≤ f ∧ sinceOf th v < sinceOf th f.toNat)) → (v ∈ l ∨ f = (v : Int)) → (∀ u ∈ l, u ≠ v → sinceOf th v < sinceOf th u) → longG th l f = (v : Int)
  | [], f, _, h, _ => by
    rcases h with h | h
    · cases h
    · exact h
  | w :: l, f, h1, h2, h3 => by
    simp only [longG]
    have h3' : ∀ u ∈ l, u ≠ v → sinceOf th v < sinceOf th u := fun u hu => h3 u (List.mem_cons_of_mem _ hu)
    by_cases hw : w = v
    · subst hw
      have e : (if f < 0 ∨ sinceOf th w < sinceOf th f.toNat then (w : Int) else f) = (w : Int) := by
        rcases h1 with h1 | rfl | ⟨h0, h1⟩
        · rw [if_pos (.inl h1)]
        · rw [if_neg (by rw [Int.toNat_natCast]; omega)]
        · rw [if_pos (.inr h1)]
      rw [e]
      exact longG_min th w l _ (.inr (.inl rfl)) (.inr rfl) h3'
    · have hv := h3 w (List.mem_cons_self ..) hw
      rcases h1 with h1 | rfl | ⟨h0, h1⟩
      · rw [if_pos (.inl h1)]
        refine longG_min th v l _ (.inr (.inr ⟨by omega, by rw [Int.toNat_natCast]; exact hv⟩)) ?_ h3'
        rcases h2 with h2 | rfl
        · rcases List.mem_cons.1 h2 with rfl | h2
          · exact (hw rfl).elim
          · exact .inl h2
        · omega
      · rw [if_neg (by rw [Int.toNat_natCast]; omega)]
        exact longG_min th v l _ (.inr (.inl rfl)) (.inr rfl) h3'
      · have hl : v ∈ l := by
          rcases h2 with h2 | rfl
          · rcases List.mem_cons.1 h2 with rfl | h2
            · exact (hw rfl).elim
            · exact h2
          · rw [Int.toNat_natCast] at h1; omega
        split
        · exact longG_min th v l _ (.inr (.inr ⟨by omega, by rw [Int.toNat_natCast]; exact hv⟩)) (.inl hl) h3'
        · exact longG_min th v l _ (.inr (.inr ⟨h0, h1⟩)) (.inl hl) h3'
theorem wlist_S7 {f : Nat → Th} {p : Int × Int} {r : Int} {fars : List Int} {o : Int} (h : ∀ u, u < 7 → waitsB fars o (f u) = false) : wlist fars o 0 (S7 f p r).th = [] := by
  cases hl : wlist fars o 0 (S7 f p r).th with
  | nil => rfl
  | cons u l =>
    obtain ⟨-, t, h1, h2⟩ := wlist_mem fars o (S7 f p r).th 0 u (by rw [hl]; exact List.mem_cons_self ..)
    rw [Nat.sub_zero] at h1
    by_cases hu : u < 7
    · rw [S7_at hu] at h1; cases h1
      rw [h u hu] at h2; cases h2
    · rw [List.getElem?_eq_none (by rw [S7_len]; omega)] at h1; cases h1
theorem longF_none {f : Nat → Th} {p : Int × Int} {r : Int} {o : Int} (h : ∀ u, u < 7 → waitsB [2] o (f u) = false) : longF (S7 f p r).th o = -1 := by
  unfold longF
  rw [wlist_S7 h]
  rfl
theorem sinceOf_S7 {f : Nat → Th} {p : Int × Int} {r : Int} {u : Nat} {c : Int} {b : Bool} {o : Opn} (hu : u < 7) (h : f u = ⟨some o, c, b⟩) : sinceOf (S7 f p r).th u = o.since := by
  unfold sinceOf
  rw [S7_at hu, h]
theorem longF_is {f : Nat → Th} {p : Int × Int} {r : Int} {o : Int} {v : Nat} (hv : v < 7) (hw : waitsB [2] o (f v) = true) (h : ∀ u, u < 7 → u ≠ v → waitsB [2] o (f u) = true → sinceOf (S7 f p r).th v < sinceOf (S7 f p r).th u) : longF (S7 f p r).th o = (v : Int) := by
  unfold longF
  refine longG_min _ v _ _ (.inl (by decide)) (.inl ?_) fun u hu hne => ?_
  · have := mem_wlist [2] o (S7 f p r).th 0 v _ (S7_at hv) hw
    rwa [Nat.zero_add] at this
  · obtain ⟨-, t, h1, h2⟩ := wlist_mem [2] o (S7 f p r).th 0 u hu
    rw [Nat.sub_zero] at h1
    by_cases hu : u < 7
    · rw [S7_at hu] at h1; cases h1
      exact h u hu hne h2
    · rw [List.getElem?_eq_none (by rw [S7_len]; omega)] at h1; cases h1
section
variable {D : Nat → Nat} {od : List Nat}
/-- While they come to wait. -/
def f1 (D : Nat → Nat) (od : List Nat) (u : Nat) : Th :=
  if u ∈ od then ⟨some (waitO 2 ((D u : Int) + 1) ((od.idxOf u : Int) + 1)), (D u : Int) + 2, false⟩ else ⟨none, 0, false⟩
def St1 (D : Nat → Nat) (od : List Nat) : St := S7 (f1 D od) (-1, 0) (od.length : Int)
def St1k (D : Nat → Nat) (od : List Nat) (t k : Nat) : St := S7 (up (f1 D od) t ⟨none, (k : Int), false⟩) (if k = 0 then -1 else (t : Int), (k : Int)) (od.length : Int)
theorem st1_0 {t : Nat} (h : t ∉ od) : St1k D od t 0 = St1 D od := by
  unfold St1k St1
  refine S7_congr fun u _ => ?_
  by_cases e : u = t
  · subst e; rw [up_self, f1, if_neg h]; rfl
  · rw [up_ne e]
theorem newF_S7 : newF 7 1 = St1 D [] := by
  unfold newF St1 S7
  have : (List.range 7).map (f1 D []) = List.replicate 7 ⟨none, 0, false⟩ := by rfl
  rw [this]; rfl
theorem p1_enter {t k : Nat} (ht : t < 6) (hk : k ≤ 10) : takesF (St1k D od t k) [Ev.call t k 0 0, Ev.act' t 0 0, Ev.back t k 0 0] = (true, St1k D od t (k + 1)) := by
  unfold St1k
  rw [takes_enter (by omega) (up_self ..) (by omega) (by omega) (by split <;> omega) (by omega) (by omega)]
  rw [up_up, takesF, if_neg (Nat.succ_ne_zero k)]
  rfl
theorem p1_wait {t : Nat} (ht : t < 6) (hd : D t ≤ 10) (hl : od.length ≤ 10) (hn : t ∉ od) : takesF (St1k D od t (D t + 1)) [Ev.call t ((D t : Int) + 1) 2 0, Ev.act' t 2 0] = (true, St1 D (od ++ [t])) := by
  unfold St1k St1
  rw [if_neg (Nat.succ_ne_zero _)]
  have e : ((D t + 1 : Nat) : Int) = (D t : Int) + 1 := rfl
  rw [e, takes_wait (by omega) (up_self ..) (by omega) (by omega) (by omega) (by omega), up_up, takesF]
  have e2 : ((od ++ [t]).length : Int) = (od.length : Int) + 1 := by simp
  rw [e2]
  refine congrArg (Prod.mk true) (S7_congr fun u _ => ?_)
  by_cases hu : u = t
  · subst hu
    rw [up_self, f1, if_pos (by simp), List.idxOf_append, if_neg hn]
    simp only [List.idxOf_cons_self, Nat.add_zero, Nat.zero_add, Int.add_assoc]
    rfl
  · rw [up_ne hu, f1, f1]
    by_cases hm : u ∈ od
    · rw [if_pos hm, if_pos (by simp [hm]), List.idxOf_append, if_pos hm]
    · rw [if_neg hm, if_neg (by simp [hm, hu])]
/-- While they are woken. -/
def f2 (D : Nat → Nat) (od : List Nat) (i u : Nat) : Th :=
  if u = 6 then ⟨some ⟨5, 0, 0, if i = 0 then 0 else 1, 0, 0, 0, 0⟩, 2, false⟩
  else if u ∈ od then ⟨some (waitO (if od.idxOf u < i then 4 else 2) ((D u : Int) + 1) ((od.idxOf u : Int) + 1)), (D u : Int) + 2, false⟩ else ⟨none, 0, false⟩
def St2 (D : Nat → Nat) (od : List Nat) (i : Nat) : St := S7 (f2 D od i) (6, 1) (od.length : Int)
theorem p2_start (h6 : 6 ∉ od) : takesF (St1 D od) [Ev.call 6 0 0 0, Ev.act' 6 0 0, Ev.back 6 0 0 0, Ev.call 6 1 5 0] = (true, St2 D od 0) := by
  unfold St1
  have hf : f1 D od 6 = ⟨none, 0, false⟩ := if_neg h6
  have e := takes_enter (f := f1 D od) (t := 6) (r := (od.length : Int)) (by decide) hf (by decide) (by decide) (ow := -1) (dp := 0) (.inr (by decide)) (by decide) (by decide) [Ev.call 6 1 5 0]
  refine e.trans ?_
  have e2 := take_call (f := up (f1 D od) 6 ⟨none, 0 + 1, false⟩) (t := 6) (p := (6, 0 + 1)) (r := (od.length : Int)) (by decide) (up_self ..) 5 0
  refine (takes_cons e2).trans ?_
  rw [up_up, takesF]
  unfold St2
  refine congrArg (Prod.mk true) (S7_congr fun u _ => ?_)
  by_cases hu : u = 6
  · subst hu; rw [up_self]; rfl
  · rw [up_ne hu, f1, f2, if_neg hu]
    simp
variable (hnd : od.Nodup) (hlt : ∀ u ∈ od, u < 6)
include hnd in
theorem idx_at {i v : Nat} (h : od[i]? = some v) : v ∈ od ∧ od.idxOf v = i := by
  obtain ⟨hi, rfl⟩ := List.getElem?_eq_some_iff.1 h
  exact ⟨List.getElem_mem hi, List.Nodup.idxOf_getElem hnd i hi⟩
include hnd hlt in
theorem long2 {i v : Nat} (h : od[i]? = some v) : longF (St2 D od i).th 0 = (v : Int) := by
  obtain ⟨hm, hi⟩ := idx_at hnd h
  have hv := hlt v hm
  have hfv : f2 D od i v = ⟨some (waitO 2 ((D v : Int) + 1) ((i : Int) + 1)), (D v : Int) + 2, false⟩ := by
    rw [f2, if_neg (by omega), if_pos hm, hi, if_neg (Nat.lt_irrefl i)]
  unfold St2
  refine longF_is (by omega) (by rw [hfv]; rfl) fun u hu hne hw => ?_
  rw [sinceOf_S7 (by omega) hfv]
  by_cases h6 : u = 6
  · subst h6
    rw [f2, if_pos rfl] at hw
    unfold waitsB at hw
    dsimp only at hw
    split at hw <;> cases hw
  · by_cases hmu : u ∈ od
    · have hfu : f2 D od i u = ⟨some (waitO (if od.idxOf u < i then 4 else 2) ((D u : Int) + 1) ((od.idxOf u : Int) + 1)), (D u : Int) + 2, false⟩ := by
        rw [f2, if_neg h6, if_pos hmu]
      rw [sinceOf_S7 hu hfu]
      rw [hfu] at hw
      have hge : ¬ od.idxOf u < i := fun hlt' => by
        rw [if_pos hlt'] at hw; cases hw
      have hneq : od.idxOf u ≠ i := fun he => by
        have h1 := List.getElem?_eq_some_iff.1 h
        obtain ⟨h1, h2⟩ := h1
        have h3 : od[od.idxOf u]'(List.idxOf_lt_length_of_mem hmu) = u := List.getElem_idxOf (List.idxOf_lt_length_of_mem hmu)
        apply hne
        rw [← h3, ← h2]
        congr 1
      dsimp only
      omega
    · rw [f2, if_neg h6, if_neg hmu] at hw; cases hw
theorem long2_none {i : Nat} (hall : ∀ u ∈ od, od.idxOf u < i) (hi : 0 < i) : longF (St2 D od i).th 0 = -1 := by
  unfold St2
  refine longF_none fun u hu => ?_
  by_cases h6 : u = 6
  · subst h6
    rw [f2, if_pos rfl, if_neg (by omega)]; rfl
  · by_cases hmu : u ∈ od
    · rw [f2, if_neg h6, if_pos hmu, if_pos (hall u hmu)]; rfl
    · rw [f2, if_neg h6, if_neg hmu]; rfl
include hnd hlt in
theorem p2_no {i v : Nat} {z : Int} (h : od[i]? = some v) (hz : z ≠ v) : takeF (St2 D od i) (Ev.act' 6 3 z) = (false, St2 D od i) := by
  have hl := long2 (D := D) hnd hlt h
  have hf : f2 D od i 6 = ⟨some ⟨5, 0, 0, if i = 0 then 0 else 1, 0, 0, 0, 0⟩, 2, false⟩ := if_pos rfl
  have e := take_act (f := f2 D od i) (p := (6, 1)) (r := (od.length : Int)) (t := 6) (by first | decide | (dsimp only; decide)) hf rfl (by first | decide | (dsimp only; decide)) (by first | decide | (dsimp only; decide)) (by first | decide | (dsimp only; decide)) (by dsimp only; split <;> decide) 3 z
  refine e.trans ?_
  unfold stepF
  rw [if_neg (by first | decide | (dsimp only; decide)), if_neg (by first | decide | (dsimp only; decide)), if_neg (by simp), if_pos (.inr rfl)]
  unfold notifyF
  rw [if_neg, if_neg]
  · rfl
  · unfold refB; simp [Ev.act']
  · rintro ⟨-, -, h3⟩
    exact hz (h3.trans hl)
include hnd hlt in
theorem p2_yes {i v : Nat} (h : od[i]? = some v) : takeF (St2 D od i) (Ev.act' 6 3 v) = (true, St2 D od (i + 1)) := by
  have hl := long2 (D := D) hnd hlt h
  obtain ⟨hm, hi⟩ := idx_at hnd h
  have hv := hlt v hm
  have hf : f2 D od i 6 = ⟨some ⟨5, 0, 0, if i = 0 then 0 else 1, 0, 0, 0, 0⟩, 2, false⟩ := if_pos rfl
  have hfv : f2 D od i v = ⟨some (waitO 2 ((D v : Int) + 1) ((i : Int) + 1)), (D v : Int) + 2, false⟩ := by
    rw [f2, if_neg (by omega), if_pos hm, hi, if_neg (Nat.lt_irrefl i)]
  have e := take_act (f := f2 D od i) (p := (6, 1)) (r := (od.length : Int)) (t := 6) (by first | decide | (dsimp only; decide)) hf rfl (by first | decide | (dsimp only; decide)) (by first | decide | (dsimp only; decide)) (by first | decide | (dsimp only; decide)) (by dsimp only; split <;> decide) 3 v
  refine e.trans ?_
  unfold stepF
  rw [if_neg (by first | decide | (dsimp only; decide)), if_neg (by first | decide | (dsimp only; decide)), if_neg (by simp), if_pos (.inr rfl)]
  unfold notifyF
  rw [if_pos ⟨rfl, by decide, hl.symm⟩, if_neg (by simp [Ev.act']), if_neg (by first | decide | (dsimp only; decide))]
  have e1 : (Ev.act' (6 : Int) 3 v).other.toNat = v := by simp [Ev.act']
  have e2 : (S7 (f2 D od i) (6, 1) (od.length : Int)).opnOf v = waitO 2 ((D v : Int) + 1) ((i : Int) + 1) := by
    unfold St.opnOf
    rw [S7_at (by omega), hfv]
    rfl
  have e3 : up (f2 D od i) v ⟨some (waitO 4 ((D v : Int) + 1) ((i : Int) + 1)), (D v : Int) + 2, false⟩ 6 = ⟨some ⟨5, 0, 0, if i = 0 then 0 else 1, 0, 0, 0, 0⟩, 2, false⟩ := by
    rw [up_ne (by omega), hf]
  refine congrArg (Prod.mk true) ?_
  show ((S7 (f2 D od i) (6, 1) (od.length : Int)).opn (Ev.act' (6 : Int) 3 v).other.toNat (woken ((S7 (f2 D od i) (6, 1) (od.length : Int)).opnOf (Ev.act' (6 : Int) 3 v).other.toNat))).opn 6 _ = _
  rw [e1, e2]
  have e4 := S7_opn (p := (6, 1)) (r := (od.length : Int)) (o := waitO 4 ((D v : Int) + 1) ((i : Int) + 1)) hfv
  refine (congrArg (fun s => St.opn s 6 _) e4).trans ?_
  refine (S7_opn e3).trans ?_
  unfold St2
  refine S7_congr fun u hu => ?_
  by_cases h6 : u = 6
  · subst h6
    rw [up_self, f2, if_pos rfl, if_neg (Nat.succ_ne_zero i)]
  · rw [up_ne h6]
    by_cases huv : u = v
    · subst huv
      rw [up_self, f2, if_neg h6, if_pos hm, hi, if_pos (Nat.lt_succ_self i)]
    · rw [up_ne huv, f2, f2, if_neg h6, if_neg h6]
      by_cases hmu : u ∈ od
      · rw [if_pos hmu, if_pos hmu]
        have hneq : od.idxOf u ≠ i := fun he => by
          obtain ⟨h1, h2⟩ := List.getElem?_eq_some_iff.1 h
          have h3 : od[od.idxOf u]'(List.idxOf_lt_length_of_mem hmu) = u := List.getElem_idxOf (List.idxOf_lt_length_of_mem hmu)
          apply huv
          rw [← h3, ← h2]
          congr 1
        by_cases hlt' : od.idxOf u < i
        · rw [if_pos hlt', if_pos (by omega)]
        · rw [if_neg hlt', if_neg (by omega)]
      · rw [if_neg hmu, if_neg hmu]
include hnd hlt in
theorem f2_woken {i v : Nat} (h : od[i]? = some v) : f2 D od (i + 1) v = ⟨some (waitO 4 ((D v : Int) + 1) ((i : Int) + 1)), (D v : Int) + 2, false⟩ := by
  obtain ⟨hm, hi⟩ := idx_at hnd h
  have hv := hlt v hm
  rw [f2, if_neg (by omega), if_pos hm, hi, if_pos (Nat.lt_succ_self i)]
include hnd hlt in
theorem p2_grant {i v : Nat} (h : od[i]? = some v) : takeF (St2 D od (i + 1)) (Ev.act' v 5 0) = (false, St2 D od (i + 1)) := by
  obtain ⟨hm, hi⟩ := idx_at hnd h
  have hv := hlt v hm
  have hne : ¬ ((6 : Int) = (v : Int)) := by omega
  have e := take_act (f := f2 D od (i + 1)) (p := (6, 1)) (r := (od.length : Int)) (t := v) (by omega) (f2_woken hnd hlt h) rfl (by first | decide | (dsimp only; decide)) (by first | decide | (dsimp only; decide)) (by first | decide | (dsimp only; decide)) (by first | decide | (dsimp only; decide)) 5 0
  refine e.trans ?_
  unfold stepF
  rw [if_neg (by first | decide | (dsimp only; decide)), if_neg (by first | decide | (dsimp only; decide)), if_pos (.inl rfl)]
  unfold waitF
  simp [Ev.act', refB, leavesB, hne, St2]
include hnd hlt in
theorem p2_leave {i v : Nat} (h : od[i]? = some v) : takeF (St2 D od (i + 1)) (Ev.act' v 4 3) = (false, St2 D od (i + 1)) := by
  obtain ⟨hm, hi⟩ := idx_at hnd h
  have hv := hlt v hm
  have hne : ¬ ((6 : Int) = (v : Int)) := by omega
  have e := take_act (f := f2 D od (i + 1)) (p := (6, 1)) (r := (od.length : Int)) (t := v) (by omega) (f2_woken hnd hlt h) rfl (by first | decide | (dsimp only; decide)) (by first | decide | (dsimp only; decide)) (by first | decide | (dsimp only; decide)) (by first | decide | (dsimp only; decide)) 4 3
  refine e.trans ?_
  unfold stepF
  rw [if_neg (by first | decide | (dsimp only; decide)), if_neg (by first | decide | (dsimp only; decide)), if_pos (.inl rfl)]
  unfold waitF
  simp [Ev.act', refB, leavesB, hne, St2]
end
end Go.Proofs.Ytimmclibnfdjhaa
end
section
/- The run of SpecWakes: the threads go on, the last woken first. -/
namespace Go.Proofs.Ytimmclibnfdjhaa
open Go.SL
section
variable {D : Nat → Nat} {od : List Nat}
def f3 (D : Nat → Nat) (od : List Nat) (j u : Nat) : Th :=
  if u = 6 then ⟨none, 3, false⟩
  else if od.idxOf u < j then ⟨some (waitO 4 ((D u : Int) + 1) ((od.idxOf u : Int) + 1)), (D u : Int) + 2, false⟩ else ⟨none, (D u : Int) + 2 + ((D u : Int) + 1), false⟩
def St3 (D : Nat → Nat) (od : List Nat) (j : Nat) : St := S7 (f3 D od j) (-1, 0) (od.length : Int)
def St3g (D : Nat → Nat) (od : List Nat) (j t : Nat) : St := S7 (up (f3 D od (j + 1)) t ⟨some (waitO 5 ((D t : Int) + 1) ((j : Int) + 1)), (D t : Int) + 2, false⟩) ((t : Int), (D t : Int) + 1) (od.length : Int)
def St3k (D : Nat → Nat) (od : List Nat) (j t k : Nat) : St := S7 (up (f3 D od (j + 1)) t ⟨none, (D t : Int) + 2 + (k : Int), false⟩) (if k = D t + 1 then -1 else (t : Int), (D t : Int) + 1 - (k : Int)) (od.length : Int)
theorem p3_start (hall : ∀ u, u < 6 → u ∈ od ∧ od.idxOf u < 6) (hlt : ∀ u ∈ od, u < 6) : takesF (St2 D od 6) [Ev.act' 6 3 (-1), Ev.back 6 1 0 0, Ev.call 6 2 1 0, Ev.act' 6 1 0, Ev.back 6 2 0 0] = (true, St3 D od 6) := by
  have hl := long2_none (D := D) (od := od) (i := 6) (fun u hu => (hall u (hlt u hu)).2) (by decide)
  have hf : f2 D od 6 6 = ⟨some ⟨5, 0, 0, 1, 0, 0, 0, 0⟩, 2, false⟩ := rfl
  have e1 : takeF (St2 D od 6) (Ev.act' 6 3 (-1)) = (true, S7 (up (f2 D od 6) 6 ⟨some ⟨5, 0, 0, 5, 0, 0, 0, 0⟩, 2, false⟩) (6, 1) (od.length : Int)) := by
    have e := take_act (f := f2 D od 6) (p := (6, 1)) (r := (od.length : Int)) (t := 6) (by decide) hf rfl (by decide) (by decide) (by decide) (by decide) 3 (-1)
    refine e.trans ?_
    unfold stepF
    rw [if_neg (by decide), if_neg (by decide), if_neg (by simp), if_pos (.inr rfl)]
    unfold notifyF
    rw [if_pos ⟨rfl, by decide, hl.symm⟩, if_pos (by decide)]
    refine congrArg (Prod.mk true) ?_
    exact S7_opn hf
  have e2 := take_back (f := up (f2 D od 6) 6 ⟨some ⟨5, 0, 0, 5, 0, 0, 0, 0⟩, 2, false⟩) (p := (6, 1)) (r := (od.length : Int)) (t := 6) (by decide) (up_self ..) rfl (by decide) (by decide) (by decide) rfl 1 0 0 (by decide)
  rw [if_pos ⟨rfl, rfl⟩, up_up] at e2
  refine (takes_cons e1).trans ((takes_cons e2).trans ?_)
  have e3 := takes_exit (f := up (f2 D od 6) 6 ⟨none, 2, false⟩) (t := 6) (r := (od.length : Int)) (by decide) (up_self ..) (by decide) (by decide) (dp := 1) (by decide) (by decide) []
  refine e3.trans ?_
  rw [up_up, takesF]
  unfold St3
  refine congrArg (Prod.mk true) (S7_congr fun u hu => ?_)
  by_cases h6 : u = 6
  · subst h6; rw [up_self]; rfl
  · rw [up_ne h6, f2, f3, if_neg h6, if_neg h6]
    obtain ⟨h1, h2⟩ := hall u (by omega)
    rw [if_pos h1, if_pos h2, if_pos h2]
variable {j t : Nat} (hnd : od.Nodup) (h : od[j]? = some t) (ht : t < 6) (hD : D t ≤ 10)
include hnd h ht in
theorem f3_at : f3 D od (j + 1) t = ⟨some (waitO 4 ((D t : Int) + 1) ((j : Int) + 1)), (D t : Int) + 2, false⟩ := by
  obtain ⟨hm, hi⟩ := idx_at hnd h
  rw [f3, if_neg (by omega), hi, if_pos (Nat.lt_succ_self j)]
include hnd h ht in
theorem p3_grant : takeF (St3 D od (j + 1)) (Ev.act' t 5 0) = (true, St3g D od j t) := by
  have e := take_act (f := f3 D od (j + 1)) (p := (-1, 0)) (r := (od.length : Int)) (t := t) (by omega) (f3_at hnd h ht) rfl (by dsimp only; decide) (by dsimp only; decide) (by dsimp only; decide) (by dsimp only; decide) 5 0
  refine e.trans ?_
  unfold stepF
  rw [if_neg (by dsimp only; decide), if_neg (by dsimp only; decide), if_pos (.inl rfl)]
  unfold waitF
  rw [if_neg (by simp [Ev.act']), if_neg (by simp [Ev.act']), if_neg (by simp [Ev.act']), if_neg (by simp [Ev.act']), if_pos (by simp [Ev.act'])]
  refine congrArg (Prod.mk true) ?_
  exact S7_opn (p := ((t : Int), (D t : Int) + 1)) (f3_at hnd h ht)
theorem waits3 {u k : Nat} : waitsB [2, 3] 0 (f3 D od k u) = false := by
  rw [f3]
  split
  · rfl
  split <;> rfl
theorem p3_seen : seenB (St3g D od j t) t (1 + (D t : Int)) [] = true := by
  refine decide_eq_true ⟨?_, ?_⟩
  · show some ((t : Int), (D t : Int) + 1) = _
    rw [Int.add_comm]
  · unfold St3g
    rw [wlist_S7]
    · rfl
    · intro u _
      by_cases hu : u = t
      · subst hu; rw [up_self]; rfl
      · rw [up_ne hu]; exact waits3
include ht hD in
theorem p3_timed : takeF (St3g D od j t) (Ev.back t ((D t : Int) + 1) 0 1) = (false, St3g D od j t) := by
  have e := take_back (f := up (f3 D od (j + 1)) t ⟨some (waitO 5 ((D t : Int) + 1) ((j : Int) + 1)), (D t : Int) + 2, false⟩) (p := ((t : Int), (D t : Int) + 1)) (r := (od.length : Int)) (t := t) (by omega) (up_self ..) rfl (by dsimp only; decide) (by dsimp only; decide) (by dsimp only; decide) rfl ((D t : Int) + 1) 0 1 (by rw [dec_id (by omega) (by omega)]; omega)
  rw [if_neg (by simp)] at e
  exact e
include ht hD in
theorem p3_back : takeF (St3g D od j t) (Ev.back t ((D t : Int) + 1) 0 0) = (true, St3k D od j t 0) := by
  have e := take_back (f := up (f3 D od (j + 1)) t ⟨some (waitO 5 ((D t : Int) + 1) ((j : Int) + 1)), (D t : Int) + 2, false⟩) (p := ((t : Int), (D t : Int) + 1)) (r := (od.length : Int)) (t := t) (by omega) (up_self ..) rfl (by dsimp only; decide) (by dsimp only; decide) (by dsimp only; decide) rfl ((D t : Int) + 1) 0 0 (by rw [dec_id (by omega) (by omega)]; omega)
  rw [if_pos ⟨rfl, rfl⟩, up_up] at e
  refine e.trans ?_
  unfold St3k
  rw [if_neg (by omega)]
  simp
include ht hD in
theorem p3_exit {k : Nat} (hk : k ≤ D t) : takesF (St3k D od j t k) [Ev.call t ((D t : Int) + 2 + (k : Int)) 1 0, Ev.act' t 1 0, Ev.back t ((D t : Int) + 2 + (k : Int)) 0 0] = (true, St3k D od j t (k + 1)) := by
  unfold St3k
  rw [if_neg (by omega)]
  have e := takes_exit (f := up (f3 D od (j + 1)) t ⟨none, (D t : Int) + 2 + (k : Int), false⟩) (t := t) (r := (od.length : Int)) (by omega) (up_self ..) (by omega) (by omega) (dp := (D t : Int) + 1 - (k : Int)) (by omega) (by omega) []
  refine e.trans ?_
  rw [up_up, takesF]
  have e1 : (D t : Int) + 2 + ((k + 1 : Nat) : Int) = (D t : Int) + 2 + (k : Int) + 1 := by omega
  have e2 : (D t : Int) + 1 - ((k + 1 : Nat) : Int) = (D t : Int) + 1 - (k : Int) - 1 := by omega
  rw [e1, e2]
  by_cases hk2 : k = D t
  · rw [if_pos (by omega), if_pos (by omega)]
  · rw [if_neg (by omega), if_neg (by omega)]
include hnd h ht in
theorem st3_next : St3k D od j t (D t + 1) = St3 D od j := by
  obtain ⟨hm, hi⟩ := idx_at hnd h
  unfold St3k St3
  rw [if_pos rfl]
  have e1 : (D t : Int) + 1 - ((D t + 1 : Nat) : Int) = 0 := by omega
  rw [e1]
  refine S7_congr fun u hu => ?_
  by_cases hut : u = t
  · subst hut
    rw [up_self, f3, if_neg (by omega), hi, if_neg (Nat.lt_irrefl j)]
    rfl
  · rw [up_ne hut, f3, f3]
    by_cases h6 : u = 6
    · rw [if_pos h6, if_pos h6]
    · rw [if_neg h6, if_neg h6]
      have hneq : od.idxOf u ≠ j := fun he => by
        obtain ⟨h1, h2⟩ := List.getElem?_eq_some_iff.1 h
        have hl : od.idxOf u < od.length := by omega
        have h3 : od[od.idxOf u]'hl = u := List.getElem_idxOf hl
        apply hut
        rw [← h3, ← h2]
        congr 1
      by_cases hlt' : od.idxOf u < j
      · rw [if_pos hlt', if_pos (by omega)]
      · rw [if_neg hlt', if_neg (by omega)]
theorem p3_end : seenB (St3 D od 0) (-1) 0 [] = true := by
  refine decide_eq_true ⟨rfl, ?_⟩
  unfold St3
  rw [wlist_S7 fun u _ => waits3]
  rfl
end
end Go.Proofs.Ytimmclibnfdjhaa
end
section
/- Rows of whole numbers; what loops of SpecWakes look for. -/
namespace Go.Proofs.Ytimmclibnfdjhaa
open Go.SL
def rowV (n : Nat) (g : Nat → Int) : List Value := (List.range n).map fun u => i64 (g u)
def upI (g : Nat → Int) (k : Nat) (x : Int) : Nat → Int := fun u => if u = k then x else g u
theorem rowV_length (n : Nat) (g : Nat → Int) : (rowV n g).length = n := by simp [rowV]
theorem rowV_at {n : Nat} {g : Nat → Int} {k : Nat} (h : k < n) : (rowV n g)[((k : Nat) : Int).toNat * 1]? = some (i64 (g k)) := by
  have e : ((k : Nat) : Int).toNat * 1 = k := by simp
  rw [e]
  simp [rowV, List.getElem?_map, List.getElem?_range h]
theorem rowV_congr {n : Nat} {g h : Nat → Int} (e : ∀ u, u < n → g u = h u) : rowV n g = rowV n h := by
  unfold rowV
  exact List.map_congr_left fun u hu => by rw [e u (List.mem_range.1 hu)]
theorem rowV_set {n : Nat} {g : Nat → Int} {k : Nat} {x : Int} (h : k < n) : (rowV n g).take (((k : Nat) : Int).toNat * 1) ++ [i64 x] ++ (rowV n g).drop (((k : Nat) : Int).toNat * 1 + [i64 x].length) = rowV n (upI g k x) := by
  have e : ((k : Nat) : Int).toNat * 1 = k := by simp
  rw [e]
  have e2 : (rowV n g).take k ++ [i64 x] ++ (rowV n g).drop (k + 1) = (rowV n g).set k (i64 x) := by
    rw [List.set_eq_take_append_cons_drop, if_pos (by rw [rowV_length]; exact h)]
    simp
  refine e2.trans ?_
  apply List.ext_getElem?
  intro u
  rw [List.getElem?_set]
  by_cases hu : u < n
  · by_cases hk : k = u
    · subst hk
      simp [rowV, hu, upI]
    · simp [rowV, hu, upI, hk, Ne.symm hk]
  · have : ¬ k = u := by omega
    simp [rowV, hu, this]
theorem rowV_new (n : Nat) : List.replicate n (i64 0) = rowV n fun _ => 0 := by
  apply List.ext_getElem?
  intro u
  by_cases hu : u < n <;> simp [rowV, hu, List.getElem?_replicate]
theorem upI_self (g : Nat → Int) (k : Nat) (x : Int) : upI g k x k = x := if_pos rfl
theorem upI_upI (g : Nat → Int) (k : Nat) (x y : Int) : upI (upI g k x) k y = upI g k y := by
  funext u
  by_cases h : u = k <;> simp [upI, h]
def u1 (od : List Nat) (u : Nat) : Int := if u ∈ od then 1 else 0
def c1 (D : Nat → Nat) (od : List Nat) (u : Nat) : Int := if u ∈ od then (D u : Int) + 1 else 0
def c3 (D : Nat → Nat) (od : List Nat) (j u : Nat) : Int := if u ∈ od then (if od.idxOf u < j then (D u : Int) + 1 else (D u : Int) + 2 + ((D u : Int) + 1)) else 0
theorem c1_snoc (D : Nat → Nat) {od : List Nat} {t : Nat} (h : t ∉ od) : upI (c1 D od) t ((D t : Int) + 1) = c1 D (od ++ [t]) := by
  funext u
  by_cases e : u = t
  · subst e; simp [upI, c1]
  · simp [upI, c1, e]
theorem u1_snoc {od : List Nat} {t : Nat} : upI (u1 od) t 1 = u1 (od ++ [t]) := by
  funext u
  by_cases e : u = t
  · subst e; simp [upI, u1]
  · simp [upI, u1, e]
theorem natV_snoc (od : List Nat) (t : Nat) : natV (od ++ [t]) = natV od ++ [i64 (t : Int)] := by simp [natV]
theorem natV_at {od : List Nat} {i t : Nat} (h : od[i]? = some t) : (natV od)[((i : Nat) : Int).toNat * 1]? = some (i64 (t : Int)) := by
  have e : ((i : Nat) : Int).toNat * 1 = i := by simp
  rw [e]
  simp [natV, h]
theorem natV_length (od : List Nat) : (natV od).length = od.length := by simp [natV]
theorem len_le : ∀ {l1 l2 : List Nat}, l1.Nodup → (∀ x ∈ l1, x ∈ l2) → l1.length ≤ l2.length
  | [], _, _, _ => Nat.zero_le _
  | x :: l1, l2, hd, hs => by
    have hx : x ∈ l2 := hs x (List.mem_cons_self ..)
    have hd' := List.nodup_cons.1 hd
    have ih := len_le (l1 := l1) (l2 := l2.erase x) hd'.2 fun y hy => by
      refine (List.mem_erase_of_ne ?_).2 (hs y (List.mem_cons_of_mem _ hy))
      intro e; subst e; exact hd'.1 hy
    rw [List.length_erase_of_mem hx] at ih
    have : 0 < l2.length := List.length_pos_of_mem hx
    simp only [List.length_cons]; omega
/-- Fewer than six numbers below six leave one out. -/
theorem free {od : List Nat} (hn : od.length < 6) : ∃ x, x < 6 ∧ x ∉ od := by
  by_cases h : ∀ x, x < 6 → x ∈ od
  · exfalso
    have := len_le (l1 := List.range 6) (l2 := od) List.nodup_range fun x hx => h x (List.mem_range.1 hx)
    simp at this; omega
  · exact Classical.byContradiction fun hc => h fun x hx => Classical.byContradiction fun hm => hc ⟨x, hx, hm⟩
theorem full {od : List Nat} (hn : od.length = 6) (hd : od.Nodup) (hl : ∀ u ∈ od, u < 6) : ∀ u, u < 6 → u ∈ od ∧ od.idxOf u < 6 := by
  intro u hu
  have hm : u ∈ od := Classical.byContradiction fun hc => by
    have := len_le (l1 := u :: od) (l2 := List.range 6) (List.nodup_cons.2 ⟨hc, hd⟩) fun x hx => by
      rcases List.mem_cons.1 hx with rfl | hx
      · exact List.mem_range.2 hu
      · exact List.mem_range.2 (hl x hx)
    simp [hn] at this
  exact ⟨hm, by rw [← hn]; exact List.idxOf_lt_length_of_mem hm⟩
theorem tm {a : Int} {k : Nat} (h : 0 ≤ a) : a.tmod (k : Int) = ((a.toNat % k : Nat) : Int) := by
  obtain ⟨n, rfl⟩ := Int.eq_ofNat_of_zero_le h
  simp [Int.tmod]
theorem wrapN {n : Nat} (h : n ≤ 1000) : IntKind.i64.wrap (n : Int) = (n : Int) := wrap64_id (by omega) (by omega)
theorem c3_6 {D : Nat → Nat} {od : List Nat} (h : ∀ u ∈ od, od.idxOf u < 6) : c1 D od = c3 D od 6 := by
  funext u
  by_cases hm : u ∈ od
  · simp [c1, c3, hm, h u hm]
  · simp [c1, c3, hm]
theorem c3_next {D : Nat → Nat} {od : List Nat} {j t : Nat} (hnd : od.Nodup) (h : od[j]? = some t) : upI (c3 D od (j + 1)) t ((D t : Int) + 2 + ((D t : Int) + 1)) = c3 D od j := by
  obtain ⟨hm, hi⟩ := idx_at hnd h
  funext u
  by_cases e : u = t
  · subst e; simp [upI, c3, hm, hi]
  · by_cases hmu : u ∈ od
    · have hneq : od.idxOf u ≠ j := fun he => by
        obtain ⟨h1, h2⟩ := List.getElem?_eq_some_iff.1 h
        have hl : od.idxOf u < od.length := by omega
        have h3 : od[od.idxOf u]'hl = u := List.getElem_idxOf hl
        apply e
        rw [← h3, ← h2]
        congr 1
      simp only [upI, c3, if_neg e, if_pos hmu]
      by_cases hlt' : od.idxOf u < j
      · rw [if_pos hlt', if_pos (by omega)]
      · rw [if_neg hlt', if_neg (by omega)]
    · simp [upI, c3, e, hmu]
theorem c3_at {D : Nat → Nat} {od : List Nat} {j t : Nat} (hnd : od.Nodup) (h : od[j]? = some t) : c3 D od (j + 1) t = (D t : Int) + 1 := by
  obtain ⟨hm, hi⟩ := idx_at hnd h
  simp [c3, hm, hi]
theorem getD_at {l : List Int} {i : Nat} (h : i < l.length) : nth (l.map fun a => Value.int .u8 a) (0 + ((i : Nat) : Int).toNat * 1) = some (.int .u8 (l.getD i 0)) := by
  rw [nth_eq]
  have e : 0 + ((i : Nat) : Int).toNat * 1 = i := by simp
  rw [e]
  simp [List.getD_eq_getElem?_getD, h]
end Go.Proofs.Ytimmclibnfdjhaa
end
