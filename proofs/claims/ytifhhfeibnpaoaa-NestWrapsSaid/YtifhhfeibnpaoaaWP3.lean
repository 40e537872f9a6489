/- Going through a method: what is so at its end; methods that have stacks ahead of their places are right. -/
import Derived.Test.YtifhhfeibnpaoaaWP2
import Derived.Test.YtifhhfeibnpaoaaWA14
namespace Go.Proofs.Ytifhhfeibnpaoaa
open Go.SL
set_option maxRecDepth 100000
/-- What may be come to. -/
inductive Rch (cs : List Ins) : Int → Prop
  | zero : Rch cs 0
  | step {u t : Int} (h : Rch cs u) (ht : t ∈ nxt cs u) (h0 : 0 ≤ t) (h1 : t < cs.length) : Rch cs t
structure Clo (cs : List Ins) (g : GS) : Prop where
  rng : ∀ z ∈ g.V, 0 ≤ z ∧ z < cs.length
  zero : (0 : Int) ∈ g.V ∧ g.stk 0 = []
  done : ∀ j z, g.V[j]? = some z → j < g.i → ∃ s, behF cs z.toNat (g.stk z) = some s ∧ ∀ t ∈ nxt cs z, 0 ≤ t → t < cs.length → t ∈ g.V ∧ g.stk t = s
  part : ∀ z, g.V[g.i]? = some z → ∀ s, behF cs z.toNat (g.stk z) = some s → ∀ q t, q < g.k → (nxt cs z)[q]? = some t → 0 ≤ t → t < cs.length → t ∈ g.V ∧ g.stk t = s
  res : g.res = some (-1) → g.V[g.i]? = none
  rch : ∀ z ∈ g.V, Rch cs z
theorem Clo.start {cs : List Ins} (h : 0 < cs.length) : Clo cs GS.start := by
  have e : ∀ z ∈ GS.start.V, z = 0 := fun z hz => List.mem_singleton.1 hz
  refine ⟨fun z hz => ?_, ⟨List.mem_singleton_self _, rfl⟩, fun j z _ hj => absurd hj (Nat.not_lt_zero _), fun z _ s _ q t hq => absurd hq (Nat.not_lt_zero _), (fun h => by cases h), fun z hz => ?_⟩
  · rw [e z hz]; omega
  · rw [e z hz]; exact .zero
theorem Clo.step {cs : List Ins} {g : GS} (h : Clo cs g) : Clo cs (g.step cs) := by
  unfold GS.step
  split
  · exact h
  · rename_i hres
    split
    · rename_i hv
      exact ⟨h.rng, h.zero, h.done, h.part, fun _ => hv, h.rch⟩
    · rename_i z hz
      have hzm := List.mem_of_getElem? hz
      have hzr := h.rng z hzm
      split
      · rename_i hb
        exact ⟨h.rng, h.zero, h.done, h.part, fun e => by cases e; omega, h.rch⟩
      · rename_i s hs
        have nores : ∀ V : List Int, g.res = some (-1) → V[g.i]? = none := fun V e => by rw [e] at hres; exact absurd rfl hres
        split
        · rename_i hn
          refine ⟨h.rng, h.zero, fun j z' hj hlt => ?_, fun z' _ s' _ q t hq => absurd hq (Nat.not_lt_zero _), fun e => by rw [e] at hres; exact absurd rfl hres, h.rch⟩
          dsimp only at hj hlt ⊢
          rcases (by omega : j < g.i ∨ j = g.i) with hl | rfl
          · exact h.done j z' hj hl
          · rw [hz] at hj; cases hj
            refine ⟨s, hs, fun t ht h0 h1 => ?_⟩
            obtain ⟨q, hq⟩ := List.mem_iff_getElem?.1 ht
            refine h.part z hz s hs q t ?_ hq h0 h1
            have := (List.getElem?_eq_some_iff.1 hq).1
            have := List.getElem?_eq_none_iff.1 hn
            omega
        · rename_i t ht
          split
          · rename_i hr
            split
            · rename_i hv
              split
              · rename_i hst
                refine ⟨h.rng, h.zero, h.done, fun z' hz' s' hs' q t' hq hqt h0 h1 => ?_, nores g.V, h.rch⟩
                dsimp only at hz' hq hs' ⊢
                rw [hz] at hz'; cases hz'
                rw [hs] at hs'; cases hs'
                rcases (by omega : q < g.k ∨ q = g.k) with hl | rfl
                · exact h.part z hz s hs q t' hl hqt h0 h1
                · rw [ht] at hqt; cases hqt
                  exact ⟨hv, hst⟩
              · exact ⟨h.rng, h.zero, h.done, h.part, fun e => by cases e; omega, h.rch⟩
            · rename_i hv
              have ne : ∀ u ∈ g.V, u ≠ t := fun u hu e => hv (e ▸ hu)
              refine ⟨fun u hu => ?_, ⟨List.mem_append_left _ h.zero.1, ?_⟩, fun j z' hj hlt => ?_, fun z' hz' s' hs' q t' hq hqt h0 h1 => ?_, nores _, fun u hu => ?_⟩
              · rcases List.mem_append.1 hu with hu | hu
                · exact h.rng u hu
                · rw [List.mem_singleton.1 hu]; exact hr
              · dsimp only; rw [if_neg (ne 0 h.zero.1)]; exact h.zero.2
              · dsimp only at hj hlt ⊢
                have hgi := (List.getElem?_eq_some_iff.1 hz).1
                rw [List.getElem?_append_left (by omega)] at hj
                obtain ⟨s', e1, e2⟩ := h.done j z' hj hlt
                have hz'm := List.mem_of_getElem? hj
                refine ⟨s', by rw [if_neg (ne z' hz'm)]; exact e1, fun t' ht' h0 h1 => ?_⟩
                obtain ⟨e3, e4⟩ := e2 t' ht' h0 h1
                exact ⟨List.mem_append_left _ e3, by rw [if_neg (ne t' e3)]; exact e4⟩
              · dsimp only at hz' hq hs' ⊢
                have hgi := (List.getElem?_eq_some_iff.1 hz).1
                rw [List.getElem?_append_left (by omega), hz] at hz'
                cases hz'
                rw [if_neg (ne z hzm), hs] at hs'
                cases hs'
                rcases (by omega : q < g.k ∨ q = g.k) with hl | rfl
                · obtain ⟨e3, e4⟩ := h.part z hz s hs q t' hl hqt h0 h1
                  exact ⟨List.mem_append_left _ e3, by rw [if_neg (ne t' e3)]; exact e4⟩
                · rw [ht] at hqt; cases hqt
                  exact ⟨List.mem_append_right _ (List.mem_singleton_self _), if_pos rfl⟩
              · rcases List.mem_append.1 hu with hu | hu
                · exact h.rch u hu
                · rw [List.mem_singleton.1 hu]
                  exact .step (h.rch z hzm) (List.mem_of_getElem? ht) hr.1 hr.2
          · rename_i hr
            refine ⟨h.rng, h.zero, h.done, fun z' hz' s' hs' q t' hq hqt h0 h1 => ?_, nores g.V, h.rch⟩
            dsimp only at hz' hq hs' ⊢
            rw [hz] at hz'; cases hz'
            rw [hs] at hs'; cases hs'
            rcases (by omega : q < g.k ∨ q = g.k) with hl | rfl
            · exact h.part z hz s hs q t' hl hqt h0 h1
            · rw [ht] at hqt; cases hqt
              exact absurd ⟨h0, h1⟩ hr
theorem Clo.run {cs : List Ins} (h : 0 < cs.length) : ∀ n, Clo cs (GS.run cs n)
  | 0 => Clo.start h
  | n + 1 => (Clo.run h n).step
/-- What is so of a method that is right. -/
structure Rgt (cs : List Ins) : Prop where
  rng : ∀ z ∈ (endG cs).V, 0 ≤ z ∧ z < cs.length
  zero : (0 : Int) ∈ (endG cs).V ∧ (endG cs).stk 0 = []
  done : ∀ z ∈ (endG cs).V, ∃ s, behF cs z.toNat ((endG cs).stk z) = some s ∧ ∀ t ∈ nxt cs z, 0 ≤ t → t < cs.length → t ∈ (endG cs).V ∧ (endG cs).stk t = s
  rch : ∀ z ∈ (endG cs).V, Rch cs z
theorem endG_run {cs : List Ins} {r : Int} (h : (endG cs).res = some r) : ∃ n, endG cs = GS.run cs n := by
  unfold endG at h ⊢
  split
  · exact ⟨_, rfl⟩
  · rename_i hn; rw [dif_neg hn] at h; cases h
theorem right_end {cs : List Ins} (h0 : 0 < cs.length) (h : (endG cs).res = some (-1)) : Rgt cs := by
  obtain ⟨n, e⟩ := endG_run h
  have c := Clo.run h0 n
  rw [← e] at c
  have hv := c.res h
  refine ⟨c.rng, c.zero, fun z hz => ?_, c.rch⟩
  obtain ⟨j, hj⟩ := List.mem_iff_getElem?.1 hz
  refine c.done j z hj ?_
  have := (List.getElem?_eq_some_iff.1 hj).1
  have := List.getElem?_eq_none_iff.1 hv
  omega
/-- Stacks ahead of places. -/
def Labs (cs : List Ins) (lab : Nat → List Int) : Prop :=
  lab 0 = [] ∧ ∀ z, z < cs.length → ∃ s, behF cs z (lab z) = some s ∧ ∀ t ∈ nxt cs (z : Int), 0 ≤ t → t < cs.length → lab t.toNat = s
theorem labs_run {cs : List Ins} {lab : Nat → List Int} (h : Labs cs lab) (hl : 0 < cs.length) : ∀ n, (∀ z ∈ (GS.run cs n).V, (0 ≤ z ∧ z < cs.length) ∧ (GS.run cs n).stk z = lab z.toNat) ∧ ∀ r, (GS.run cs n).res = some r → r = -1
  | 0 => ⟨fun z hz => by rw [List.mem_singleton.1 hz]; exact ⟨by omega, h.1.symm⟩, fun r hr => by cases hr⟩
  | n + 1 => by
    have ih := labs_run h hl n
    rw [GS.run, GS.step]
    generalize GS.run cs n = g at ih
    split
    · exact ih
    · rename_i hres
      split
      · exact ⟨ih.1, fun r hr => by cases hr; rfl⟩
      · rename_i z hz
        obtain ⟨hr, hs⟩ := ih.1 z (List.mem_of_getElem? hz)
        obtain ⟨s, e1, e2⟩ := h.2 z.toNat (by omega)
        rw [show ((z.toNat : Nat) : Int) = z by omega] at e2
        rw [hs, e1]
        dsimp only
        split
        · exact ih
        · rename_i t ht
          split
          · rename_i htr
            have e3 := e2 t (List.mem_of_getElem? ht) htr.1 htr.2
            split
            · rename_i hv
              rw [if_pos ((ih.1 t hv).2.trans e3)]
              exact ih
            · rename_i hv
              exact ⟨fun u hu => by
                dsimp only at hu ⊢
                rcases List.mem_append.1 hu with hu | hu
                · rw [if_neg (fun e : u = t => hv (e ▸ hu))]; exact ih.1 u hu
                · obtain rfl := List.mem_singleton.1 hu
                  exact ⟨htr, by rw [if_pos rfl, e3]⟩, ih.2⟩
          · exact ih
theorem labs_right {cs : List Ins} {lab : Nat → List Int} (h : Labs cs lab) (hl : 0 < cs.length) (he : (endG cs).res = some (wrG cs)) : wrG cs = -1 ∧ ∀ z ∈ (endG cs).V, (endG cs).stk z = lab z.toNat := by
  obtain ⟨n, e⟩ := endG_run he
  have := labs_run h hl n
  rw [← e] at this
  exact ⟨this.2 _ he, fun z hz => (this.1 z hz).2⟩
theorem plain_no {op : Int} (h : op = 0 ∨ op = 1 ∨ op = 2 ∨ op = 19) : ¬ jmp op ∧ ¬ five op ∧ op ≠ 20 := by
  rcases h with rfl | rfl | rfl | rfl <;> decide
theorem plain_doF {op k : Int} {s : List Int} (h : op = 0 ∨ op = 1 ∨ op = 2 ∨ op = 19) : doF op k s = some s := by
  rcases h with rfl | rfl | rfl | rfl <;> rfl
/-- Code that is put together has stacks ahead of its places. -/
theorem okw_labs {L : List LIns} {e : List Int} (h : OKw L [] e) : Labs (opsOf L) (fun z => lb L e z) := by
  refine ⟨h.first, fun z hz => ?_⟩
  rw [opsOf_length] at hz
  obtain ⟨⟨x, s⟩, hx⟩ : ∃ y, L[z]? = some y := ⟨_, List.getElem?_eq_getElem hz⟩
  have hg := h.good z x s hx
  have hs : lb L e z = s := lb_at hx
  have at_ : ∀ {k : Nat} {y : LIns}, L[k]? = some y → (opsOf L)[k]? = some y.1 := fun hy => by unfold opsOf; rw [List.getElem?_map, hy]; rfl
  have hxo := at_ hx
  have hn := nxt_yes hxo
  dsimp only at hxo hn
  dsimp only
  rw [hs]
  have plain : ∀ s', doF x.1 (if x.1 = 3 then x.2.1 else 0) s = some s' → ¬ five x.1 → behF (opsOf L) z s = some s' := fun s' hd h5 => by
    unfold behF
    rw [List.getD_eq_getElem?_getD, hxo]
    dsimp only [Option.getD_some]
    rw [if_neg (fun hh => h5 hh.1)]
    have : ∀ k, doF x.1 (if x.1 = 3 then x.2.1 else k) s = doF x.1 (if x.1 = 3 then x.2.1 else 0) s := fun k => by
      have h5' := mt five_iff.2 h5
      by_cases h3 : x.1 = 3
      · rw [if_pos h3, if_pos h3]
      · rw [if_neg h3, if_neg h3]
        have n12 : ¬ x.1 = 12 := fun e => h5' (by omega)
        have n13 : ¬ x.1 = 13 := fun e => h5' (by omega)
        have n14 : ¬ (x.1 = 14 ∨ x.1 = 15 ∨ x.1 = 16) := fun e => h5' (by omega)
        simp only [doF, n12, n13, n14, h3, if_false]
    rw [this]; exact hd
  have nj : ∀ t s', t ∈ nxt (opsOf L) (z : Int) → ¬ jmp x.1 → lb L e (z + 1) = s' → lb L e t.toNat = s' := fun t s' ht hj h1 => by
    rw [hn] at ht
    rcases mem_nextL.1 ht with ⟨h2, -⟩ | ⟨-, rfl⟩
    · exact absurd h2 hj
    · rw [show ((z : Int) + 1).toNat = z + 1 by omega]; exact h1
  cases hg with
  | @ask op a b k kb _ s0 s' j h5 hj hp hd hnl =>
    subst hj
    have hpo := at_ hp
    have hlead : ((j + 1 : Nat) : Int) ∉ leads (opsOf L) := fun hm => by
      obtain ⟨-, hA⟩ := mem_leads.1 hm
      rcases mem_leadA.1 hA with h0 | ⟨q, hq, hF⟩
      · omega
      · obtain ⟨⟨y, sy⟩, hy⟩ : ∃ y, L[q]? = some y := ⟨_, List.getElem?_eq_getElem (by rw [opsOf_length] at hq; exact hq)⟩
        have hyo := at_ hy
        rw [List.getD_eq_getElem?_getD, hyo] at hF
        dsimp only [Option.getD_some] at hF
        have gy := h.good q y sy hy
        have tgt : ∀ u : Nat, ((j + 1 : Nat) : Int) = (u : Int) → nf L u → False := fun u hu hnf => by
          obtain rfl : u = j + 1 := by omega
          exact hnf _ hx h5
        unfold leadF at hF
        rcases List.mem_append.1 hF with hF | hF
        · split at hF
          · rename_i hj
            cases gy with
            | ask h5' => exact absurd hj (five_no h5')
            | store => exact absurd hj (show ¬ jmp 3 by decide)
            | jump ha ht h1 h2 => exact tgt _ (List.mem_singleton.1 hF) h1
            | zero ha ht h1 h2 => exact tgt _ (List.mem_singleton.1 hF) h1
            | plain h' => exact (plain_no h').1 hj
            | ret => exact absurd hj (show ¬ jmp 20 by decide)
          · cases hF
        · split at hF
          · rename_i hj
            have e2 : ((j + 1 : Nat) : Int) = ((q + 1 : Nat) : Int) := by rw [List.mem_singleton.1 hF]; omega
            cases gy with
            | ask h5' => exact hj.elim (fun hj => five_no h5' hj) (fun hj => by dsimp only at hj; rw [hj] at h5'; exact absurd h5' (by decide))
            | store => exact absurd hj (show ¬ (jmp 3 ∨ (3 : Int) = 20) by decide)
            | jump ha ht h1 h2 => exact tgt _ e2 h2
            | zero ha ht h1 h2 => exact tgt _ e2 h2
            | plain h' => exact hj.elim (plain_no h').1 (plain_no h').2.2
            | ret h2 => exact tgt _ e2 h2
          · cases hF
    have hask : askO (opsOf L) ((j + 1 : Nat) : Int) = some k := by
      rw [askO_at (k := j) (op := op) (a := a) (b := b) (op0 := 2) (a0 := k) (b0 := kb) hxo hpo, if_pos ⟨h5, hlead, rfl⟩]
    refine ⟨s', ?_, fun t ht h0 h1 => nj t s' ht (five_no h5) hnl⟩
    unfold behF
    rw [List.getD_eq_getElem?_getD, hxo]
    dsimp only [Option.getD_some]
    rw [hask, if_neg (fun hh => by cases hh.2), if_neg (fun h3 => by rw [h3] at h5; exact absurd h5 (show ¬ five 3 by decide))]
    exact hd
  | @store a b _ h2 hnl =>
    refine ⟨s, plain s (by unfold doF; simp [h2]) (show ¬ five 3 by decide), fun t ht h0 h1 => nj t s ht (show ¬ jmp 3 by decide) hnl⟩
  | @jump a b _ ha ht h2 h3 =>
    refine ⟨s, plain s rfl (show ¬ five 6 by decide), fun t htm h0 h1 => ?_⟩
    rw [hn] at htm
    rcases mem_nextL.1 htm with ⟨-, rfl⟩ | ⟨hh, -⟩
    · exact ht
    · exact absurd rfl hh.1
  | @zero a b _ ha ht h2 h3 hnl =>
    refine ⟨s, plain s rfl (show ¬ five 7 by decide), fun t htm h0 h1 => ?_⟩
    rw [hn] at htm
    rcases mem_nextL.1 htm with ⟨-, rfl⟩ | ⟨-, rfl⟩
    · exact ht
    · rw [show ((z : Int) + 1).toNat = z + 1 by omega]; exact hnl
  | @plain op a b _ h2 hnl =>
    exact ⟨s, plain s (plain_doF h2) (plain_no h2).2.1, fun t ht h0 h1 => nj t s ht (plain_no h2).1 hnl⟩
  | ret h2 =>
    refine ⟨[], plain [] rfl (show ¬ five 20 by decide), fun t ht h0 h1 => ?_⟩
    rw [hn] at ht
    rcases mem_nextL.1 ht with ⟨hh, -⟩ | ⟨hh, -⟩
    · exact absurd hh (show ¬ jmp 20 by decide)
    · exact absurd rfl hh.2
theorem okp_labs {L : List LIns} {e : List Int} (h : OKp L [] e) : Labs (opsOf L) (fun z => lb L e z) := okw_labs h.w
/-- Places that are not come to have no stacks. -/
theorem step_none {cs : List Ins} {g : GS} (h : ∀ t, t ∉ g.V → g.stk t = []) : ∀ t, t ∉ (g.step cs).V → (g.step cs).stk t = [] := by
  unfold GS.step
  split
  · exact h
  · split
    · exact h
    · split
      · exact h
      · split
        · exact h
        · split
          · split
            · split
              · exact h
              · exact h
            · intro t ht
              dsimp only at ht ⊢
              rw [if_neg (fun e => ht (by rw [e]; simp))]
              exact h t (fun hm => ht (List.mem_append_left _ hm))
          · exact h
theorem run_out (cs : List Ins) : ∀ n t, t ∉ (GS.run cs n).V → (GS.run cs n).stk t = []
  | 0, t, _ => rfl
  | n + 1, t, ht => step_none (run_out cs n) t ht
theorem end_out {cs : List Ins} {r : Int} (h : (endG cs).res = some r) : ∀ t, t ∉ (endG cs).V → (endG cs).stk t = [] := by
  obtain ⟨n, e⟩ := endG_run h
  rw [e]; exact run_out cs n
/-- What may be come to is come to. -/
theorem Rgt.all {cs : List Ins} (h : Rgt cs) {z : Int} (hz : Rch cs z) : z ∈ (endG cs).V := by
  induction hz with
  | zero => exact h.zero.1
  | step _ ht h0 h1 ih =>
    obtain ⟨s, -, e⟩ := h.done _ ih
    exact (e _ ht h0 h1).1
end Go.Proofs.Ytifhhfeibnpaoaa
