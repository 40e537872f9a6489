/- What always holds of the automaton: owners, depths, and what is saved. -/
import Derived.Test.YtimmclibnfdjhaaWW3b
import Derived.Test.YtimmclibnfdjhaaWD7w
import Derived.Test.YtimmclibnfdjhaaWB17
set_option linter.unusedVariables false
set_option linter.unusedSimpArgs false
set_option linter.unusedSectionVars false
section
namespace Go.Proofs.Ytimmclibnfdjhaa
open Go.SL
def up2 (g : Nat → Nat → Int) (t o : Nat) (x : Int) : Nat → Nat → Int := fun a b => if a = t ∧ b = o then x else g a b
structure Ow (n kk : Nat) (N : Int) (σ : St) (g s : Nat → Nat → Int) : Prop where
  tl : σ.th.length = n
  ol : σ.ob.length = kk
  own : ∀ (o : Nat) (p : Int × Int), σ.ob[o]? = some p → -1 ≤ p.1 ∧ p.1 < n ∧ (0 ≤ p.1 ↔ 0 < p.2) ∧ 0 ≤ p.2 ∧ p.2 ≤ N
  dep : ∀ (o t : Nat) (p : Int × Int), σ.ob[o]? = some p → t < n → g t o = if p.1 = (t : Int) then p.2 else 0
  sav : ∀ (u : Nat) (x : Th) (q : Opn), σ.th[u]? = some x → x.opn = some q → 2 ≤ q.far → q.far ≤ 4 → 0 ≤ q.obj ∧ q.obj < kk ∧ s u q.obj.toNat = q.saved ∧ 0 < q.saved ∧ q.saved ≤ N ∧ ∀ p, σ.ob[q.obj.toNat]? = some p → p.1 ≠ (u : Int)
section
variable {n kk : Nat} {N : Int} {σ : St} {g s : Nat → Nat → Int}
theorem Ow.mono (h : Ow n kk N σ g s) {M : Int} (hM : N ≤ M) : Ow n kk M σ g s :=
  ⟨h.tl, h.ol, fun o p hp => by have := h.own o p hp; omega, h.dep, fun u x q hx hq h1 h2 => by
    obtain ⟨a, b, c, d, e, f⟩ := h.sav u x q hx hq h1 h2
    exact ⟨a, b, c, d, by omega, f⟩⟩
theorem Ow.opn (h : Ow n kk N σ g s) {t : Nat} {o' : Opn} (hq : 2 ≤ o'.far → o'.far ≤ 4 → 0 ≤ o'.obj ∧ o'.obj < kk ∧ s t o'.obj.toNat = o'.saved ∧ 0 < o'.saved ∧ o'.saved ≤ N ∧ ∀ p, σ.ob[o'.obj.toNat]? = some p → p.1 ≠ (t : Int)) : Ow n kk N (σ.opn t o') g s := by
  refine ⟨by simp [St.opn, opnT_length, h.tl], h.ol, h.own, h.dep, fun u x q hx hxo h1 h2 => ?_⟩
  simp only [St.opn, opnT_at] at hx
  cases hu : σ.th[u]? with
  | none => rw [hu] at hx; cases hx
  | some z =>
    rw [hu] at hx
    simp only [Option.map_some, Option.some.injEq] at hx
    by_cases e : u = t
    · subst e
      rw [if_pos rfl] at hx
      subst hx
      simp only [Option.some.injEq] at hxo
      subst hxo
      exact hq h1 h2
    · rw [if_neg e] at hx
      subst hx
      exact h.sav u _ q hu hxo h1 h2
theorem Ow.done (h : Ow n kk N σ g s) (t : Nat) (o : Opn) (c v : Int) : Ow n kk N (σ.opn t (doneO o c v)) g s :=
  h.opn fun _ h2 => by simp at h2
theorem Ow.flg (h : Ow n kk N σ g s) (t : Nat) (b : Bool) : Ow n kk N (σ.flg t b) g s := by
  refine ⟨by simp [St.flg, flagT_length, h.tl], h.ol, h.own, h.dep, fun u x q hx hxo h1 h2 => ?_⟩
  simp only [St.flg, flagT_at] at hx
  cases hu : σ.th[u]? with
  | none => rw [hu] at hx; cases hx
  | some z =>
    rw [hu] at hx
    simp only [Option.map_some, Option.some.injEq] at hx
    refine h.sav u z q hu ?_ h1 h2
    rw [← hxo, ← hx]
    by_cases e : u = t <;> simp [e]
theorem Ow.cls (h : Ow n kk N σ g s) (t : Nat) (c : Int) : Ow n kk N (σ.cls t c) g s := by
  refine ⟨by simp [St.cls, callsT_length, h.tl], h.ol, h.own, h.dep, fun u x q hx hxo h1 h2 => ?_⟩
  simp only [St.cls, callsT_at] at hx
  cases hu : σ.th[u]? with
  | none => rw [hu] at hx; cases hx
  | some z =>
    rw [hu] at hx
    simp only [Option.map_some, Option.some.injEq] at hx
    refine h.sav u z q hu ?_ h1 h2
    rw [← hxo, ← hx]
    by_cases e : u = t <;> simp [e]
theorem Ow.shut (h : Ow n kk N σ g s) (t : Nat) : Ow n kk N (σ.shut t) g s := by
  refine ⟨by simp [St.shut, opnT_length, h.tl], h.ol, h.own, h.dep, fun u x q hx hxo h1 h2 => ?_⟩
  simp only [St.shut, opnT_at] at hx
  cases hu : σ.th[u]? with
  | none => rw [hu] at hx; cases hx
  | some z =>
    rw [hu] at hx
    simp only [Option.map_some, Option.some.injEq] at hx
    by_cases e : u = t
    · rw [if_pos e] at hx; subst hx; cases hxo
    · rw [if_neg e] at hx; subst hx
      exact h.sav u _ q hu hxo h1 h2
theorem Ow.rel (h : Ow n kk N σ g s) (r : Int) : Ow n kk N { σ with rel := r } g s := ⟨h.tl, h.ol, h.own, h.dep, h.sav⟩
/-- An object changes hands, or depths. -/
theorem Ow.obj (h : Ow n kk N σ g s) {t k : Nat} {p p' : Int × Int} (hp : σ.ob[k]? = some p) (h1 : -1 ≤ p'.1 ∧ p'.1 < n ∧ (0 ≤ p'.1 ↔ 0 < p'.2) ∧ 0 ≤ p'.2 ∧ p'.2 ≤ N)
    (hd : ∀ t' : Nat, t' ≠ t → p'.1 ≠ (t' : Int) ∧ p.1 ≠ (t' : Int))
    (hsv : ∀ (u : Nat) (x : Th) (q : Opn), σ.th[u]? = some x → x.opn = some q → 2 ≤ q.far → q.far ≤ 4 → p'.1 ≠ (u : Int)) : Ow n kk N (σ.obj k p') (up2 g t k (if p'.1 = (t : Int) then p'.2 else 0)) s := by
  have hkl : k < σ.ob.length := (List.getElem?_eq_some_iff.1 hp).1
  have at_ : ∀ (o : Nat) (r : Int × Int), (σ.ob.set k p')[o]? = some r → (o = k ∧ r = p') ∨ (o ≠ k ∧ σ.ob[o]? = some r) := fun o r hr => by
    by_cases e : o = k
    · subst e
      rw [List.getElem?_set_self hkl] at hr
      exact .inl ⟨rfl, (Option.some.inj hr).symm⟩
    · rw [List.getElem?_set_ne (Ne.symm e)] at hr
      exact .inr ⟨e, hr⟩
  refine ⟨h.tl, by simp [St.obj, h.ol], fun o r hr => ?_, fun o t' r hr ht' => ?_, fun u x q hx hxo f1 f2 => ?_⟩
  · rcases at_ o r hr with ⟨-, rfl⟩ | ⟨-, hr⟩
    · exact h1
    · exact h.own o r hr
  · rcases at_ o r hr with ⟨rfl, rfl⟩ | ⟨e, hr⟩
    · by_cases et : t' = t
      · subst et; simp [up2]
      · obtain ⟨a, b⟩ := hd t' et
        have := h.dep o t' p hp ht'
        simp only [up2, et, false_and, if_false, this, if_neg b, if_neg a]
    · simp only [up2, e, and_false, if_false]
      exact h.dep o t' r hr ht'
  · obtain ⟨a, b, c, d, e, f⟩ := h.sav u x q hx hxo f1 f2
    refine ⟨a, b, c, d, e, fun r hr => ?_⟩
    rcases at_ _ r hr with ⟨-, rfl⟩ | ⟨-, hr⟩
    · exact hsv u x q hx hxo f1 f2
    · exact f r hr
/-- What is saved where nobody waits. -/
theorem Ow.save (h : Ow n kk N σ g s) {t k : Nat} {y : Int} (hn : ∀ (x : Th) (q : Opn), σ.th[t]? = some x → x.opn = some q → ¬ (2 ≤ q.far ∧ q.far ≤ 4)) : Ow n kk N σ g (up2 s t k y) := by
  refine ⟨h.tl, h.ol, h.own, h.dep, fun u x q hx hxo f1 f2 => ?_⟩
  obtain ⟨a, b, c, d, e, f⟩ := h.sav u x q hx hxo f1 f2
  refine ⟨a, b, ?_, d, e, f⟩
  have : u ≠ t := fun e => by subst e; exact hn x q hx hxo ⟨f1, f2⟩
  simp only [up2, this, false_and, if_false]
  exact c
def gE (e : Ev) (g s : Nat → Nat → Int) : Nat → Nat → Int :=
  if e.kind = 1 then
    if e.act = 0 then up2 g e.thread.toNat e.obj.toNat (g e.thread.toNat e.obj.toNat + 1)
    else if e.act = 1 then up2 g e.thread.toNat e.obj.toNat (g e.thread.toNat e.obj.toNat - 1)
    else if e.act = 2 then up2 g e.thread.toNat e.obj.toNat 0
    else if e.act = 5 then up2 g e.thread.toNat e.obj.toNat (s e.thread.toNat e.obj.toNat)
    else g
  else g
def sE (e : Ev) (g s : Nat → Nat → Int) : Nat → Nat → Int :=
  if e.kind = 1 ∧ e.act = 2 then up2 s e.thread.toNat e.obj.toNat (g e.thread.toNat e.obj.toNat) else s
end
end Go.Proofs.Ytimmclibnfdjhaa
end
section
/- What always holds of the automaton: every event. -/
namespace Go.Proofs.Ytimmclibnfdjhaa
open Go.SL
section
variable {n kk : Nat} {N : Int} {σ : St} {g s : Nat → Nat → Int} {t k : Nat} {x : Th} {o : Opn} {p : Int × Int} {e : Ev}
/-- What a step keeps. -/
def OwQ (n kk : Nat) (N : Int) (e : Ev) (g s : Nat → Nat → Int) (r : Bool × St) : Prop := r.1 = true → Ow n kk (N + 1) r.2 (gE e g s) (sE e g s)
theorem OwQ.no {σ : St} : OwQ n kk N e g s (false, σ) := fun h => by cases h
theorem gE_other (h0 : e.act ≠ 0) (h1 : e.act ≠ 1) (h2 : e.act ≠ 2) (h5 : e.act ≠ 5) : gE e g s = g ∧ sE e g s = s := by
  constructor
  · unfold gE; simp [h0, h1, h2, h5]
  · unfold sE; simp [h2]
theorem OwQ.same {σ' : St} (h : Ow n kk N σ' g s) (h0 : e.act ≠ 0) (h1 : e.act ≠ 1) (h2 : e.act ≠ 2) (h5 : e.act ≠ 5) : OwQ n kk N e g s (true, σ') := fun _ => by
  obtain ⟨a, b⟩ := gE_other (g := g) (s := s) h0 h1 h2 h5
  rw [a, b]
  exact h.mono (by omega)
theorem ref8 {o : Opn} {e : Ev} {c : Int} {b : Bool} (h : refB o e c b = true) : e.act = 8 := by
  unfold refB at h
  simp only [Bool.and_eq_true, decide_eq_true_eq] at h
  exact h.1
variable (h : Ow n kk N σ g s) (hN0 : 0 ≤ N) (hN : N ≤ 100000) (hk1 : e.kind = 1) (hx : σ.th[t]? = some x) (ho : x.opn = some o) (hp : σ.ob[k]? = some p) (ht : t = e.thread.toNat) (ht0 : 0 ≤ e.thread) (htn : e.thread < n) (hk : k = e.obj.toNat) (hob : o.obj = e.obj) (hob0 : 0 ≤ e.obj) (hobk : e.obj < kk)
include h hN0 hN hk1 hx ho hp ht ht0 htn hk in
theorem ow_enter (ho0 : ¬ (2 ≤ o.far ∧ o.far ≤ 4)) : OwQ n kk N e g s (enterF σ t k o p.1 p.2 e (decide (p.1 = e.thread))) := by
  have hth : (t : Int) = e.thread := by omega
  obtain ⟨w1, w2, w3, w4, w5⟩ := h.own k p hp
  unfold enterF
  split
  · rename_i hc
    simp only [Bool.and_eq_true, Bool.or_eq_true, decide_eq_true_eq] at hc
    obtain ⟨c1, c2, c3⟩ := hc
    have hi : inc p.2 = p.2 + 1 := wrap64_id (by omega) (by omega)
    rw [hi]
    intro _
    have hg : gE e g s = up2 g t k (g t k + 1) := by unfold gE; rw [if_pos hk1, if_pos c1, ← ht, ← hk]
    have hs : sE e g s = s := by unfold sE; rw [if_neg (by omega)]
    have hgt : g t k = p.2 := by
      rw [h.dep k t p hp (by omega)]
      split
      · rfl
      · rename_i q; omega
    rw [hg, hs, hgt]
    have hO := (h.mono (M := N + 1) (by omega)).obj (t := t) (p' := (e.thread, p.2 + 1)) hp ⟨by dsimp only; omega, htn, by dsimp only; omega, by dsimp only; omega, by dsimp only; omega⟩ (fun t' ht' => ⟨by dsimp only; omega, by omega⟩) (fun u y q hy hyo f1 f2 => by
      dsimp only
      intro eq
      have : u = t := by omega
      subst this
      rw [hx] at hy; cases hy
      rw [ho] at hyo; cases hyo
      exact ho0 ⟨f1, f2⟩)
    rw [if_pos hth.symm] at hO
    exact hO.done t o 0 0
  split
  · rename_i hc
    have := ref8 hc
    exact OwQ.same (h.done ..) (by omega) (by omega) (by omega) (by omega)
  split
  · rename_i hc
    have := ref8 hc
    exact OwQ.same (h.done ..) (by omega) (by omega) (by omega) (by omega)
  · exact OwQ.no
include h hN0 hN hk1 hx ho hp ht ht0 htn hk in
theorem ow_exit (ho0 : ¬ (2 ≤ o.far ∧ o.far ≤ 4)) : OwQ n kk N e g s (exitF σ t k o p.1 p.2 e (decide (p.1 = e.thread))) := by
  have hth : (t : Int) = e.thread := by omega
  obtain ⟨w1, w2, w3, w4, w5⟩ := h.own k p hp
  unfold exitF
  split
  · rename_i hc
    simp only [Bool.and_eq_true, decide_eq_true_eq] at hc
    obtain ⟨c1, c2, c3⟩ := hc
    have hi : dec p.2 = p.2 - 1 := wrap64_id (by omega) (by omega)
    rw [hi]
    intro _
    have hg : gE e g s = up2 g t k (g t k - 1) := by unfold gE; rw [if_pos hk1, if_neg (by omega), if_pos c1, ← ht, ← hk]
    have hs : sE e g s = s := by unfold sE; rw [if_neg (by omega)]
    have hgt : g t k = p.2 := by
      rw [h.dep k t p hp (by omega), if_pos (by omega)]
    rw [hg, hs, hgt]
    have hO := (h.mono (M := N + 1) (by omega)).obj (t := t) (p' := (if p.2 - 1 = 0 then -1 else p.1, p.2 - 1)) hp ⟨by dsimp only; split <;> omega, by dsimp only; split <;> omega, by dsimp only; split <;> omega, by dsimp only; omega, by dsimp only; omega⟩ (fun t' ht' => ⟨by dsimp only; split <;> omega, by omega⟩) (fun u y q hy hyo f1 f2 => by
      dsimp only
      intro eq
      have : u = t := by split at eq <;> omega
      subst this
      rw [hx] at hy; cases hy
      rw [ho] at hyo; cases hyo
      exact ho0 ⟨f1, f2⟩)
    have he : (if (if p.2 - 1 = 0 then (-1 : Int) else p.1) = (t : Int) then p.2 - 1 else 0) = p.2 - 1 := by
      by_cases hz : p.2 - 1 = 0
      · rw [if_pos hz, if_neg (by omega)]; omega
      · rw [if_neg hz, if_pos (by omega)]
    dsimp only at hO
    rw [he] at hO
    exact hO.done t o 0 0
  split
  · rename_i hc
    have := ref8 hc
    exact OwQ.same (h.done ..) (by omega) (by omega) (by omega) (by omega)
  · exact OwQ.no
include h hN0 hN hk1 hx ho hp ht ht0 htn hk hob hob0 hobk in
theorem ow_wait (f : Bool) (hop : o.op = 2 ∨ o.op = 3) : OwQ n kk N e g s (waitF σ t k o p.1 p.2 f e (decide (p.1 = e.thread))) := by
  have hth : (t : Int) = e.thread := by omega
  obtain ⟨w1, w2, w3, w4, w5⟩ := h.own k p hp
  have hok : o.obj.toNat = k := by rw [hob, hk]
  unfold waitF
  split
  · rename_i hc
    exact OwQ.same ((h.flg t false).done ..) (by omega) (by omega) (by omega) (by omega)
  split
  · rename_i hc
    have hs := h.sav t x o hx ho (by omega) (by omega)
    exact OwQ.same ((h.flg t false).opn fun _ _ => hs) (by omega) (by omega) (by omega) (by omega)
  split
  · rename_i hc
    obtain ⟨c1, c2, c3, c4⟩ := hc
    have c4 : p.1 = e.thread := by simpa using c4
    intro _
    have hg : gE e g s = up2 g t k 0 := by unfold gE; rw [if_pos hk1, if_neg (by omega), if_neg (by omega), if_pos c1, ← ht, ← hk]
    have hs : sE e g s = up2 s t k (g t k) := by unfold sE; rw [if_pos ⟨hk1, c1⟩, ← ht, ← hk]
    have hgt : g t k = p.2 := by
      rw [h.dep k t p hp (by omega), if_pos (by omega)]
    rw [hg, hs, hgt]
    have h1 := (h.save (t := t) (k := k) (y := p.2) fun y q hy hyo hf => by
      rw [hx] at hy; cases hy
      rw [ho] at hyo; cases hyo
      omega)
    have h2 := (h1.mono (M := N + 1) (by omega)).obj (t := t) (p' := (-1, 0)) hp ⟨by decide, by dsimp only; omega, by decide, by decide, by dsimp only; omega⟩ (fun t' ht' => ⟨by dsimp only; omega, by omega⟩) (fun u y q hy hyo f1 f2 => by dsimp only; omega)
    rw [if_neg (by dsimp only; omega)] at h2
    have h3 := (h2.rel (inc σ.rel)).opn (t := t) (o' := { o with saved := p.2, since := inc σ.rel, far := 2 }) fun _ _ => by
      dsimp only
      rw [hok]
      refine ⟨by omega, by omega, by simp [up2], by omega, by omega, fun r hr => ?_⟩
      have hr : (σ.ob.set k (-1, 0))[k]? = some r := hr
      rw [List.getElem?_set_self (List.getElem?_eq_some_iff.1 hp).1] at hr
      cases hr
      dsimp only; omega
    exact h3
  split
  · rename_i hc
    have hl : o.far = 2 ∨ o.far = 3 := by
      have := hc.2
      unfold leavesB at this
      split at this
      · exact .inr (by simpa using this)
      split at this
      · simp only [Bool.and_eq_true, decide_eq_true_eq] at this; exact .inl this.1
      · simp only [Bool.and_eq_true, decide_eq_true_eq] at this; exact .inl this.1
    have hs := h.sav t x o hx ho (by omega) (by omega)
    exact OwQ.same (h.opn fun _ _ => hs) (by omega) (by omega) (by omega) (by omega)
  split
  · rename_i hc
    obtain ⟨c1, c2, c3, c4⟩ := hc
    obtain ⟨s1, s2, s3, s4, s5, s6⟩ := h.sav t x o hx ho (by omega) (by omega)
    rw [hok] at s3
    intro _
    have hg : gE e g s = up2 g t k (s t k) := by unfold gE; rw [if_pos hk1, if_neg (by omega), if_neg (by omega), if_neg (by omega), if_pos c1, ← ht, ← hk]
    have hs : sE e g s = s := by unfold sE; rw [if_neg (by omega)]
    rw [hg, hs, s3]
    have h1 := (h.mono (M := N + 1) (by omega)).opn (t := t) (o' := { o with far := 5 }) (fun _ q => by dsimp only at q; omega)
    have h2 := h1.obj (t := t) (k := k) (p := p) (p' := (e.thread, o.saved)) hp ⟨by dsimp only; omega, htn, by dsimp only; omega, by dsimp only; omega, by dsimp only; omega⟩ (fun t' ht' => ⟨by dsimp only; omega, by omega⟩) (fun u y q hy hyo f1 f2 => by
      dsimp only
      intro eq
      have : u = t := by omega
      subst this
      simp only [St.opn, opnT_at, hx, Option.map_some, if_true, Option.some.injEq] at hy
      subst hy
      simp only [Option.some.injEq] at hyo
      subst hyo
      dsimp only at f2; omega)
    rw [if_pos hth.symm] at h2
    exact h2
  split
  · rename_i hc
    have := ref8 hc
    exact OwQ.same (h.done ..) (by omega) (by omega) (by omega) (by omega)
  split
  · rename_i hc
    have := ref8 hc
    exact OwQ.same (h.done ..) (by omega) (by omega) (by omega) (by omega)
  · exact OwQ.no
include h hN0 hk1 in
theorem ow_notify (owns : Bool) (wf : WF σ) (hx' : σ.th[t]? = some x) (ho' : x.opn = some o) (hop : o.op = 4 ∨ o.op = 5) : OwQ n kk N e g s (notifyF σ t k o p.1 p.2 e owns) := by
  unfold notifyF
  split
  · rename_i hc
    split
    · exact OwQ.same (h.done ..) (by omega) (by omega) (by omega) (by omega)
    · rename_i hneg
      obtain ⟨u, hu, hue⟩ : ∃ u ∈ wlist [2] e.obj 0 σ.th, e.other = (u : Int) := by
        rcases longG_mem σ.th (wlist [2] e.obj 0 σ.th) (-1) with h2 | ⟨u, hu, h2⟩
        · exfalso; have := hc.2.2; unfold longF at this; omega
        · exact ⟨u, hu, by have := hc.2.2; unfold longF at this; omega⟩
      obtain ⟨-, z, hz, hw⟩ := wlist_mem _ _ _ _ _ hu
      rw [Nat.sub_zero] at hz
      have hun : e.other.toNat = u := by omega
      rw [hun]
      cases hq : z.opn with
      | none => simp [waitsB, hq] at hw
      | some q =>
        simp [waitsB, hq] at hw
        have hof : σ.opnOf u = q := by unfold St.opnOf; rw [hz]; dsimp only; rw [hq]; rfl
        rw [hof]
        have hs := h.sav u z q hz hq (by omega) (by omega)
        have h1 := h.opn (t := u) (o' := woken q) fun _ _ => hs
        split
        · exact OwQ.same (h1.done ..) (by omega) (by omega) (by omega) (by omega)
        · exact OwQ.same (h1.opn fun q _ => by simp at q) (by omega) (by omega) (by omega) (by omega)
  split
  · rename_i hc
    have := ref8 hc
    exact OwQ.same (h.done ..) (by omega) (by omega) (by omega) (by omega)
  · exact OwQ.no
include h hN0 hN hk1 hx ho hp ht ht0 htn hk hob hob0 hobk in
theorem ow_step (wf : WF σ) (hfar : o.op = 2 ∨ o.op = 3 ∨ ¬ (2 ≤ o.far ∧ o.far ≤ 4)) : OwQ n kk N e g s (stepF σ t k o p.1 p.2 x.flag e (decide (p.1 = e.thread))) := by
  unfold stepF
  split
  · exact ow_enter h hN0 hN hk1 hx ho hp ht ht0 htn hk (by omega)
  split
  · exact ow_exit h hN0 hN hk1 hx ho hp ht ht0 htn hk (by omega)
  split
  · rename_i q; exact ow_wait h hN0 hN hk1 hx ho hp ht ht0 htn hk hob hob0 hobk _ q
  split
  · rename_i q; exact ow_notify h hN0 hk1 _ wf hx ho q
  split
  · unfold interruptF
    split
    · exact OwQ.same ((h.flg ..).done ..) (by omega) (by omega) (by omega) (by omega)
    · exact OwQ.no
  split
  · unfold holdsF
    split
    · rename_i hc
      simp only [Bool.and_eq_true, decide_eq_true_eq] at hc
      exact OwQ.same (h.done ..) (by omega) (by omega) (by omega) (by omega)
    · exact OwQ.no
  split
  · unfold nothingF
    split
    · rename_i hc
      simp only [Bool.and_eq_true, decide_eq_true_eq] at hc
      exact OwQ.same (h.done ..) (by omega) (by omega) (by omega) (by omega)
    · exact OwQ.no
  · exact OwQ.no
end
end Go.Proofs.Ytimmclibnfdjhaa
end
section
/- What always holds of the automaton: events that come, and the beginning. -/
namespace Go.Proofs.Ytimmclibnfdjhaa
open Go.SL
section
variable {n kk : Nat} {N : Int} {σ : St} {δ : DS} {g s : Nat → Nat → Int} {e : Ev}
theorem take_ow (r : Rl σ δ) (wf : WF σ) (h : Ow n kk N σ g s) (hN0 : 0 ≤ N) (hN : N ≤ 100000) (hT : (takeF σ e).1 = true) :
    Ow n kk (N + 1) (takeF σ e).2 (gE e g s) (sE e g s) ∧ (e.kind = 1 → 0 ≤ e.thread ∧ e.thread < n ∧ 0 ≤ e.obj ∧ e.obj < kk) := by
  unfold takeF at hT ⊢
  by_cases h0 : ¬ (0 ≤ e.thread ∧ e.thread < σ.th.length)
  · rw [if_pos h0] at hT; cases hT
  rw [if_neg h0] at hT ⊢
  have h0' : 0 ≤ e.thread ∧ e.thread < σ.th.length := Classical.byContradiction h0
  rw [h.tl] at h0'
  have hl : e.thread.toNat < σ.th.length := by rw [h.tl]; omega
  have hx : σ.th[e.thread.toNat]? = some σ.th[e.thread.toNat] := List.getElem?_eq_getElem hl
  rw [hx] at hT ⊢
  generalize σ.th[e.thread.toNat] = x at hx hT ⊢
  dsimp only at hT ⊢
  have other : e.kind ≠ 1 → gE e g s = g ∧ sE e g s = s := fun q => ⟨by unfold gE; rw [if_neg q], by unfold sE; rw [if_neg fun p => q p.1]⟩
  by_cases k0 : e.kind = 0
  · rw [if_pos k0] at hT ⊢
    obtain ⟨a, b⟩ := other (by omega)
    rw [a, b]
    split at hT
    · cases hT
    · rename_i hc
      rw [if_neg hc]
      exact ⟨((h.cls _ _).opn fun q _ => by simp at q).mono (by omega), fun q => by omega⟩
  rw [if_neg k0] at hT ⊢
  by_cases k1 : e.kind = 1
  · rw [if_pos k1] at hT ⊢
    unfold actF at hT ⊢
    rw [hx] at hT ⊢
    dsimp only at hT ⊢
    cases ho : x.opn with
    | none => rw [ho] at hT; cases hT
    | some o =>
      rw [ho] at hT
      dsimp only at hT ⊢
      by_cases hno : actNo σ o e
      · rw [if_pos hno] at hT; cases hT
      · rw [if_neg hno] at hT ⊢
        have hno' := hno
        unfold actNo wrongB at hno'
        simp only [not_or] at hno'
        obtain ⟨⟨w1, w2, w3, w4, w5⟩, q2, q3, q4, q5, q6⟩ := hno'
        have q2 : e.obj = o.obj := Classical.byContradiction q2
        have hol := h.ol
        obtain ⟨p, hp⟩ : ∃ p, σ.ob[e.obj.toNat]? = some p := ⟨_, List.getElem?_eq_getElem (by omega)⟩
        rw [hp] at hT ⊢
        dsimp only at hT ⊢
        have hyl : e.thread.toNat < δ.th.length := by rw [← r.tl]; exact hl
        obtain ⟨y, hy⟩ : ∃ y, δ.th[e.thread.toNat]? = some y := ⟨_, List.getElem?_eq_getElem hyl⟩
        obtain ⟨-, og⟩ := (r.th _ x y hx hy).og ho
        have hfar : o.op = 2 ∨ o.op = 3 ∨ ¬ (2 ≤ o.far ∧ o.far ≤ 4) := by
          have := og.ok
          have e1 := og.op
          have e2 := og.far
          unfold farOk at this
          omega
        exact ⟨ow_step h hN0 hN k1 hx ho hp rfl h0'.1 h0'.2 rfl q2.symm (by omega) (by omega) wf hfar hT, fun _ => ⟨h0'.1, h0'.2, by omega, by omega⟩⟩
  rw [if_neg k1] at hT ⊢
  obtain ⟨a, b⟩ := other k1
  rw [a, b]
  refine ⟨?_, fun q => (k1 q).elim⟩
  by_cases k2 : e.kind = 2
  · rw [if_pos k2] at hT ⊢
    cases ho : x.opn with
    | none => rw [ho] at hT; cases hT
    | some o =>
      rw [ho] at hT
      dsimp only at hT ⊢
      split at hT
      · cases hT
      · rename_i hc
        rw [if_neg hc]
        exact (h.shut _).mono (by omega)
  · rw [if_neg k2] at hT; cases hT
end
theorem ow_new (n kk : Nat) : Ow n kk 0 (newF n kk) (fun _ _ => 0) (fun _ _ => 0) := by
  refine ⟨by simp [newF], by simp [newF], fun o p hp => ?_, fun o t p hp ht => ?_, fun u x q hx hq => ?_⟩
  · simp only [newF, List.getElem?_replicate] at hp
    split at hp
    · cases hp; exact ⟨by decide, by dsimp only; omega, by decide, by decide, by decide⟩
    · cases hp
  · simp only [newF, List.getElem?_replicate] at hp
    split at hp
    · cases hp; simp
    · cases hp
  · simp only [newF, List.getElem?_replicate] at hx
    split at hx
    · cases hx; cases hq
    · cases hx
end Go.Proofs.Ytimmclibnfdjhaa
end
section
/- Rows of depths; who waits, in order. -/
namespace Go.Proofs.Ytimmclibnfdjhaa
open Go.SL
def fl (kk : Nat) (g : Nat → Nat → Int) (u : Nat) : Int := g (u / kk) (u % kk)
theorem fl_at {kk t o : Nat} {g : Nat → Nat → Int} (ho : o < kk) : fl kk g (t * kk + o) = g t o := by
  have h1 : (t * kk + o) / kk = t := by
    rw [Nat.mul_comm, Nat.mul_add_div (by omega), Nat.div_eq_of_lt ho, Nat.add_zero]
  have h2 : (t * kk + o) % kk = o := by
    rw [Nat.mul_comm, Nat.mul_add_mod, Nat.mod_eq_of_lt ho]
  unfold fl
  rw [h1, h2]
theorem fl_up {kk t o : Nat} {g : Nat → Nat → Int} {x : Int} (ho : o < kk) : upI (fl kk g) (t * kk + o) x = fl kk (up2 g t o x) := by
  funext u
  have h1 : (t * kk + o) / kk = t := by
    rw [Nat.mul_comm, Nat.mul_add_div (by omega), Nat.div_eq_of_lt ho, Nat.add_zero]
  have h2 : (t * kk + o) % kk = o := by
    rw [Nat.mul_comm, Nat.mul_add_mod, Nat.mod_eq_of_lt ho]
  by_cases e : u = t * kk + o
  · subst e
    rw [upI_self]
    unfold fl up2
    rw [h1, h2, if_pos ⟨rfl, rfl⟩]
  · have : ¬ (u / kk = t ∧ u % kk = o) := fun ⟨a, b⟩ => e (by rw [← a, ← b, Nat.mul_comm]; exact (Nat.div_add_mod u kk).symm)
    unfold upI fl up2
    rw [if_neg e, if_neg this]
theorem ix_lt {n kk t o : Nat} (ht : t < n) (ho : o < kk) : t * kk + o < n * kk := by
  have : (t + 1) * kk ≤ n * kk := Nat.mul_le_mul_right kk ht
  rw [Nat.succ_mul] at this
  omega
/-- How deep all are together, up to a thread. -/
def sumO (p : Int × Int) (t : Nat) : Int := if 0 ≤ p.1 ∧ p.1 < t then p.2 else 0
theorem sumO_step {p : Int × Int} {t : Nat} : sumO p t + (if p.1 = (t : Int) then p.2 else 0) = sumO p (t + 1) := by
  unfold sumO
  by_cases h1 : p.1 = (t : Int)
  · rw [if_pos h1, if_neg (by omega), if_pos (by omega)]; omega
  · rw [if_neg h1]
    by_cases h2 : 0 ≤ p.1 ∧ p.1 < t
    · rw [if_pos h2, if_pos (by omega)]; omega
    · rw [if_neg h2, if_neg (by omega)]; omega
theorem wlist_sorted (fars : List Int) (o : Int) : ∀ (ts : List Th) (j : Nat), (wlist fars o j ts).Pairwise (· < ·)
  | [], _ => List.Pairwise.nil
  | t :: ts, j => by
    have ih := wlist_sorted fars o ts (j + 1)
    simp only [wlist]
    split
    · refine List.pairwise_cons.2 ⟨fun u hu => ?_, ih⟩
      have := (wlist_mem fars o ts (j + 1) u hu).1
      omega
    · exact ih
theorem mem_wlist' (fars : List Int) (o : Int) : ∀ (ts : List Th) (j u : Nat) (t : Th), ts[u]? = some t → waitsB fars o t = true → j + u ∈ wlist fars o j ts
  | [], _, _, _, h, _ => by simp at h
  | x :: ts, j, 0, t, h, hw => by
    simp at h; subst h
    simp only [wlist, hw, if_true, Nat.add_zero]
    exact List.mem_cons_self ..
  | x :: ts, j, u + 1, t, h, hw => by
    have ih := mem_wlist' fars o ts (j + 1) u t (by simpa using h) hw
    rw [show j + (u + 1) = j + 1 + u by omega]
    simp only [wlist]
    split
    · exact List.mem_cons_of_mem _ ih
    · exact ih
/-- How often a thread waits, for the objects before one. -/
def wf (σ : St) (o u : Nat) : Int := if ∃ o', o' < o ∧ u ∈ wlist [2, 3] (o' : Int) 0 σ.th then 1 else 0
open Classical in
noncomputable def wj (σ : St) (o j u : Nat) : Int := wf σ o u + (if u ∈ (wlist [2, 3] (o : Int) 0 σ.th).take j then 1 else 0)
theorem wf_0 (σ : St) (u : Nat) : wf σ 0 u = 0 := by
  unfold wf
  rw [if_neg]
  rintro ⟨o', h, -⟩
  omega
theorem wf_le (σ : St) (o u : Nat) : wf σ o u ≤ 1 := by
  unfold wf
  split <;> decide
theorem wj_0 (σ : St) (o u : Nat) : wj σ o 0 u = wf σ o u := by
  unfold wj
  rw [List.take_zero, if_neg (by simp)]; omega
/-- A thread waits for one object alone. -/
theorem wait_one {σ : St} {o o' u : Nat} (h : u ∈ wlist [2, 3] (o : Int) 0 σ.th) (h' : u ∈ wlist [2, 3] (o' : Int) 0 σ.th) : o = o' := by
  obtain ⟨-, t, h1, h2⟩ := wlist_mem _ _ _ _ _ h
  obtain ⟨-, t', h1', h2'⟩ := wlist_mem _ _ _ _ _ h'
  rw [h1] at h1'; cases h1'
  cases hq : t.opn with
  | none => simp [waitsB, hq] at h2
  | some q =>
    simp [waitsB, hq] at h2 h2'
    omega
theorem wj_full (σ : St) (o u : Nat) : wj σ o (wlist [2, 3] (o : Int) 0 σ.th).length u = wf σ (o + 1) u := by
  unfold wj
  rw [List.take_length]
  unfold wf
  by_cases h : u ∈ wlist [2, 3] (o : Int) 0 σ.th
  · have a1 : ∃ o', o' < o + 1 ∧ u ∈ wlist [2, 3] (o' : Int) 0 σ.th := ⟨o, by omega, h⟩
    have a2 : ¬ ∃ o', o' < o ∧ u ∈ wlist [2, 3] (o' : Int) 0 σ.th := fun ⟨o', h1, h2⟩ => by
      have := wait_one h h2
      omega
    rw [if_pos h, if_pos a1, if_neg a2]
    decide
  · rw [if_neg h]
    by_cases h2 : ∃ o', o' < o ∧ u ∈ wlist [2, 3] (o' : Int) 0 σ.th
    · have a1 : ∃ o', o' < o + 1 ∧ u ∈ wlist [2, 3] (o' : Int) 0 σ.th := h2.elim fun o' q => ⟨o', by omega, q.2⟩
      rw [if_pos h2, if_pos a1]; decide
    · have a1 : ¬ ∃ o', o' < o + 1 ∧ u ∈ wlist [2, 3] (o' : Int) 0 σ.th := fun ⟨o', a, b⟩ => by
        by_cases e : o' = o
        · subst e; exact h b
        · exact h2 ⟨o', by omega, b⟩
      rw [if_neg h2, if_neg a1]; decide
theorem wj_step {σ : St} {o j w : Nat} (h : (wlist [2, 3] (o : Int) 0 σ.th)[j]? = some w) : upI (wj σ o j) w (wj σ o j w + 1) = wj σ o (j + 1) := by
  obtain ⟨hj, hw⟩ := List.getElem?_eq_some_iff.1 h
  have hs := wlist_sorted [2, 3] (o : Int) σ.th 0
  have hn : w ∉ (wlist [2, 3] (o : Int) 0 σ.th).take j := fun hm => by
    obtain ⟨i, hi, he⟩ := List.mem_iff_getElem.1 hm
    rw [List.getElem_take] at he
    have hij : i < j := by simp at hi; omega
    have := List.pairwise_iff_getElem.1 hs i j (by omega) hj hij
    omega
  have ht : (wlist [2, 3] (o : Int) 0 σ.th).take (j + 1) = (wlist [2, 3] (o : Int) 0 σ.th).take j ++ [w] := by
    rw [List.take_add_one, h]; rfl
  funext u
  unfold upI wj
  rw [ht]
  by_cases e : u = w
  · subst e
    rw [if_pos rfl, if_neg hn, if_pos (by simp)]; omega
  · rw [if_neg e]
    by_cases hm : u ∈ (wlist [2, 3] (o : Int) 0 σ.th).take j
    · rw [if_pos hm, if_pos (by simp [hm])]
    · rw [if_neg hm, if_neg (by simp [hm, e])]
theorem wj_bd (σ : St) (o j u : Nat) : 0 ≤ wj σ o j u ∧ wj σ o j u ≤ 2 := by
  unfold wj wf
  split <;> split <;> decide
theorem wlist_lt {n kk : Nat} {N : Int} {σ : St} {g s : Nat → Nat → Int} (h : Ow n kk N σ g s) {o u : Nat} (ho : o < kk) {p : Int × Int} (hp : σ.ob[o]? = some p) (hu : u ∈ wlist [2, 3] (o : Int) 0 σ.th) : u < n ∧ p.1 ≠ (u : Int) := by
  obtain ⟨-, t, h1, h2⟩ := wlist_mem _ _ _ _ _ hu
  rw [Nat.sub_zero] at h1
  refine ⟨by rw [← h.tl]; exact (List.getElem?_eq_some_iff.1 h1).1, ?_⟩
  cases hq : t.opn with
  | none => simp [waitsB, hq] at h2
  | some q =>
    simp [waitsB, hq] at h2
    have := (h.sav u t q h1 hq (by omega) (by omega)).2.2.2.2.2 p
    rw [h2.1] at this
    exact this (by simpa using hp)
end Go.Proofs.Ytimmclibnfdjhaa
end
