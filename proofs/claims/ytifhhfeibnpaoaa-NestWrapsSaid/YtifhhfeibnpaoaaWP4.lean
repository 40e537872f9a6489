/- A method that is right, gone through: what is locked is what the stacks say. -/
import Derived.Test.YtifhhfeibnpaoaaWP3
import Derived.Test.YtifhhfeibnpaoaaWA9
namespace Go.Proofs.Ytifhhfeibnpaoaa
open Go.SL
set_option maxRecDepth 100000
/-- Numbers that a method names. -/
def Lim (cs : List Ins) : Prop := ∀ x ∈ cs, 0 ≤ x.2.1 ∧ x.2.1 < 300
theorem draw_full {B : List Int} (hB : ∀ x ∈ B, 0 ≤ x ∧ x ≤ 255) : ∃ L, opsOf L = drawF B ∧ OKp L [] [] := by
  obtain ⟨L, h1, h2⟩ := drawF_ok hB
  exact ⟨_, h1, h2.seq end_ok⟩
theorem drawF_pos (B : List Int) : 0 < (drawF B).length := by rw [drawF_len]; omega
theorem drawF_right {B : List Int} (hB : ∀ x ∈ B, 0 ≤ x ∧ x ≤ 255) (he : (endG (drawF B)).res = some (wrG (drawF B))) : wrG (drawF B) = -1 := by
  obtain ⟨L, h1, h2⟩ := draw_full hB
  rw [← h1] at he ⊢
  exact (labs_right (okp_labs h2) (by rw [h1]; exact drawF_pos B) he).1
theorem drawF_lim {B : List Int} (hB : ∀ x ∈ B, 0 ≤ x ∧ x ≤ 255) : Lim (drawF B) := by
  obtain ⟨L, h1, h2⟩ := draw_full hB
  have hl := drawF_lt hB
  rw [← h1, opsOf_length] at hl
  intro x hx
  rw [← h1] at hx
  obtain ⟨y, hy, rfl⟩ := List.mem_map.1 hx
  obtain ⟨i, hi⟩ := List.mem_iff_getElem?.1 hy
  obtain ⟨x, s⟩ := y
  have hg := h2.good i x s hi
  have hs := (h2.small _ hy).2
  dsimp only at hs ⊢
  cases hg with
  | ask h5 => rcases hs with hj | hs
              · exact absurd hj (five_no h5)
              · dsimp only at hs ⊢; omega
  | store => rcases hs with hj | hs
             · exact absurd hj (show ¬ jmp 3 by decide)
             · dsimp only at hs ⊢; omega
  | jump ha => dsimp only; omega
  | zero ha => dsimp only; omega
  | plain h' => rcases hs with hj | hs
                · exact absurd hj (plain_no h').1
                · dsimp only at hs ⊢; omega
  | ret => rcases hs with hj | hs
           · exact absurd hj (show ¬ jmp 20 by decide)
           · dsimp only at hs ⊢; omega
theorem methF_lim {B : List Int} (hB : ∀ x ∈ B, 0 ≤ x ∧ x ≤ 255) (odd : Bool) (at8 x0 x1 : Int) (hx1 : 0 ≤ x1 ∧ x1 ≤ 255) : Lim (methF B odd at8 x0 x1) := by
  have h := drawF_lim hB
  have hl := drawF_lt hB
  unfold methF
  split
  · intro x hx
    unfold oddF at hx
    rcases List.mem_or_eq_of_mem_set hx with hx | rfl
    · exact h x hx
    · dsimp only
      have h0 : (0 : Int) < max 4 ((drawF B).length : Int) := by omega
      have := Int.emod_nonneg x1 (show max 4 ((drawF B).length : Int) ≠ 0 by omega)
      have := Int.emod_lt_of_pos x1 h0
      omega
  · exact h
/-- What is locked is what the stacks say. -/
structure Sim (cs : List Ins) (z last : Nat) (vals : List Int) (locked : List (Int × Int)) : Prop where
  mem : (z : Int) ∈ (endG cs).V
  stk : (endG cs).stk z = locked.map (·.1)
  val : ∀ p ∈ locked, (0 ≤ p.1 ∧ p.1 < 300) ∧ vals[p.1.toNat]? = some p.2
  last : (z : Int) ∉ leads cs → z = last + 1
theorem Sim.start {cs : List Ins} (h : Rgt cs) {vals : List Int} : Sim cs 0 0 vals [] :=
  ⟨h.zero.1, h.zero.2, fun p hp => absurd hp List.not_mem_nil, fun hn => absurd (mem_leads.2 ⟨⟨by omega, by have := h.rng 0 h.zero.1; omega⟩, mem_leadA.2 (.inl rfl)⟩) hn⟩
section
variable {cs : List Ins} {z last : Nat} {vals : List Int} {locked : List (Int × Int)}
theorem Sim.lt (h : Sim cs z last vals locked) (r : Rgt cs) : z < cs.length := by have := r.rng _ h.mem; omega
/-- The next place. -/
theorem Sim.next (h : Sim cs z last vals locked) (r : Rgt cs) {s : List Int} (hb : behF cs z ((endG cs).stk z) = some s) {vals' : List Int} {locked' : List (Int × Int)} (hs : s = locked'.map (·.1))
    (hv : ∀ p ∈ locked', (0 ≤ p.1 ∧ p.1 < 300) ∧ vals'[p.1.toNat]? = some p.2) {t : Int} (ht : t ∈ nxt cs (z : Int)) (h0 : 0 ≤ t) (h1 : t < cs.length) : Sim cs t.toNat z vals' locked' := by
  obtain ⟨s', e1, e2⟩ := r.done _ h.mem
  rw [show (z : Int).toNat = z by omega, hb] at e1
  cases e1
  obtain ⟨e3, e4⟩ := e2 t ht h0 h1
  have et : ((t.toNat : Nat) : Int) = t := by omega
  have hz := h.lt r
  obtain ⟨x, hx⟩ : ∃ x, cs[z]? = some x := ⟨_, List.getElem?_eq_getElem hz⟩
  refine ⟨by rw [et]; exact e3, by rw [et, e4, hs], hv, fun hn => ?_⟩
  rw [et] at hn
  rw [nxt_yes hx] at ht
  have := (lead_next hx ht h0 h1 hn).1
  omega
/-- An instruction that asks. -/
theorem Sim.asks (h : Sim cs z last vals locked) (r : Rgt cs) (hlim : Lim cs) (hvl : vals.length = 300) {op a b : Int} (hx : cs[z]? = some (op, a, b)) (h5 : five op) :
    ∃ (k kb : Int) (v : Int) (s : List Int), z = last + 1 ∧ cs[last]? = some (2, k, kb) ∧ (0 ≤ k ∧ k < 300) ∧ vals[k.toNat]? = some v ∧ behF cs z ((endG cs).stk z) = some s ∧ doF op k (locked.map (·.1)) = some s := by
  obtain ⟨s, e1, e2⟩ := r.done _ h.mem
  rw [show (z : Int).toNat = z by omega] at e1
  have e1' := e1
  rw [behF_at hx] at e1
  split at e1
  · cases e1
  · rename_i hn
    cases hao : askO cs z with
    | none => exact absurd ⟨h5, hao⟩ hn
    | some k =>
      rw [hao] at e1
      rw [if_neg (fun h3 => by rw [h3] at h5; exact absurd h5 (show ¬ five 3 by decide))] at e1
      unfold askO at hao
      split at hao
      · rename_i hc
        obtain ⟨c1, c2, -, c4, c5⟩ := hc
        have hz := h.last c4
        subst hz
        have e0 : ((((last + 1 : Nat) : Int)) - 1).toNat = last := by omega
        rw [e0] at c5 hao
        obtain ⟨⟨op0, a0, b0⟩, hy⟩ : ∃ y, cs[last]? = some y := ⟨_, List.getElem?_eq_getElem (by omega)⟩
        rw [List.getD_eq_getElem?_getD, hy] at c5 hao
        dsimp only [Option.getD_some] at c5 hao
        subst c5
        have hk : a0 = k := by injection hao
        subst hk
        have hla := hlim _ (List.mem_of_getElem? hy)
        dsimp only at hla
        obtain ⟨v, hv⟩ : ∃ v, vals[a0.toNat]? = some v := ⟨_, List.getElem?_eq_getElem (by omega)⟩
        refine ⟨a0, b0, v, s, rfl, hy, hla, hv, e1', ?_⟩
        rw [← h.stk]; exact e1
      · cases hao
theorem getLast_map {l : List (Int × Int)} {k : Int} (h : (l.map (·.1)).getLast? = some k) : ∃ p, l.getLast? = some p ∧ p.1 = k := by
  rw [List.getLast?_map, Option.map_eq_some_iff] at h
  exact h
theorem Sim.lock (h : Sim cs z last vals locked) {k v : Int} {s : List Int} (hk : 0 ≤ k ∧ k < 300) (hv : vals[k.toNat]? = some v) (hd : doF 12 k (locked.map (·.1)) = some s) :
    s = (locked ++ [(k, v)]).map (·.1) ∧ (∀ p ∈ locked ++ [(k, v)], (0 ≤ p.1 ∧ p.1 < 300) ∧ vals[p.1.toNat]? = some p.2) ∧ locked.length < 8 := by
  unfold doF at hd
  rw [if_pos rfl] at hd
  split at hd
  · rename_i hc
    cases hd
    refine ⟨by simp, fun p hp => ?_, by simpa using hc.1⟩
    rcases List.mem_append.1 hp with hp | hp
    · exact h.val p hp
    · rw [List.mem_singleton.1 hp]; exact ⟨hk, hv⟩
  · cases hd
theorem Sim.unlock (h : Sim cs z last vals locked) {k v : Int} {s : List Int} (hv : vals[k.toNat]? = some v) (hd : doF 13 k (locked.map (·.1)) = some s) :
    ∃ l, locked = l ++ [(k, v)] ∧ s = l.map (·.1) ∧ ∀ p ∈ l, (0 ≤ p.1 ∧ p.1 < 300) ∧ vals[p.1.toNat]? = some p.2 := by
  unfold doF at hd
  rw [if_neg (by decide), if_pos rfl] at hd
  split at hd
  · rename_i hc
    cases hd
    obtain ⟨p, hp, rfl⟩ := getLast_map hc
    have hne : locked ≠ [] := fun e => by rw [e] at hp; cases hp
    have e1 := List.dropLast_concat_getLast hne
    have e2 : locked.getLast hne = p := by
      rw [List.getLast?_eq_some_getLast hne] at hp
      cases hp; rfl
    rw [e2] at e1
    have hpm : p ∈ locked := by rw [← e1]; simp
    have hpv := (h.val p hpm).2
    rw [hv] at hpv
    cases hpv
    refine ⟨locked.dropLast, e1.symm, by rw [List.map_dropLast], fun q hq => h.val q (List.dropLast_subset _ hq)⟩
  · cases hd
theorem Sim.held (h : Sim cs z last vals locked) {op k v : Int} {s : List Int} (hop : op = 14 ∨ op = 15 ∨ op = 16) (hv : vals[k.toNat]? = some v) (hd : doF op k (locked.map (·.1)) = some s) :
    s = locked.map (·.1) ∧ (k, v) ∈ locked := by
  unfold doF at hd
  rw [if_neg (by omega), if_neg (by omega), if_pos hop] at hd
  split at hd
  · rename_i hc
    cases hd
    refine ⟨rfl, ?_⟩
    obtain ⟨⟨k', v'⟩, hp, e⟩ := List.mem_map.1 hc
    dsimp only at e
    subst e
    have hpv := (h.val _ hp).2
    dsimp only at hpv
    rw [hv] at hpv
    cases hpv
    exact hp
  · cases hd
theorem Sim.other (h : Sim cs z last vals locked) (r : Rgt cs) {op a b : Int} (hx : cs[z]? = some (op, a, b)) (h5 : ¬ five op) (h3 : op ≠ 3) :
    behF cs z ((endG cs).stk z) = some (locked.map (·.1)) ∧ (op = 20 → locked = []) := by
  obtain ⟨s, e1, e2⟩ := r.done _ h.mem
  rw [show (z : Int).toNat = z by omega] at e1
  have e1' := e1
  rw [behF_at hx, if_neg (fun hh => h5 hh.1), if_neg h3, h.stk] at e1
  rw [e1']
  by_cases h20 : op = 20
  · subst h20
    unfold doF at e1
    rw [if_neg (by decide), if_neg (by decide), if_neg (by decide), if_neg (by decide), if_pos rfl] at e1
    split at e1
    · rename_i hc
      cases e1
      exact ⟨rfl, fun _ => by simpa using hc⟩
    · cases e1
  · rw [doF_other h5 h3 h20] at e1
    cases e1
    exact ⟨rfl, fun e => absurd e h20⟩
theorem Sim.store (h : Sim cs z last vals locked) (r : Rgt cs) (hlim : Lim cs) (hvl : vals.length = 300) {a b : Int} (hx : cs[z]? = some (3, a, b)) (f : Int) :
    (0 ≤ a ∧ a < 300) ∧ behF cs z ((endG cs).stk z) = some (locked.map (·.1)) ∧ ∀ p ∈ locked, (0 ≤ p.1 ∧ p.1 < 300) ∧ (vals.set a.toNat f)[p.1.toNat]? = some p.2 := by
  have ha := hlim _ (List.mem_of_getElem? hx)
  dsimp only at ha
  obtain ⟨s, e1, e2⟩ := r.done _ h.mem
  rw [show (z : Int).toNat = z by omega] at e1
  have e1' := e1
  rw [behF_at hx, if_neg (fun hh => absurd hh.1 (show ¬ five 3 by decide)), if_pos rfl, h.stk] at e1
  rw [e1']
  unfold doF at e1
  rw [if_neg (by decide), if_neg (by decide), if_neg (by decide), if_pos rfl] at e1
  split at e1
  · rename_i hc
    cases e1
    refine ⟨ha, rfl, fun p hp => ?_⟩
    obtain ⟨g1, g2⟩ := h.val p hp
    refine ⟨g1, ?_⟩
    have hne : a ≠ p.1 := fun e => hc (e ▸ List.mem_map_of_mem hp)
    rw [List.getElem?_set_ne (by omega)]
    exact g2
  · cases e1
end
theorem nxt_nil {cs : List Ins} {z : Nat} {op a b : Int} (hx : cs[z]? = some (op, a, b)) : (nxt cs (z : Int)).length = 0 ↔ op = 20 := by
  rw [nxt_yes hx, List.length_eq_zero_iff]
  constructor
  · intro h
    refine Classical.byContradiction fun h20 => ?_
    by_cases h6 : op = 6
    · have : a ∈ nextL (op, a, b) z := mem_nextL.2 (.inl ⟨by rw [h6]; exact (show jmp 6 by decide), rfl⟩)
      rw [h] at this; cases this
    · have : (z : Int) + 1 ∈ nextL (op, a, b) z := mem_nextL.2 (.inr ⟨⟨h6, h20⟩, rfl⟩)
      rw [h] at this; cases this
  · rintro rfl
    rw [nextL_of (show ¬ jmp 20 by decide), if_pos rfl]
end Go.Proofs.Ytifhhfeibnpaoaa
