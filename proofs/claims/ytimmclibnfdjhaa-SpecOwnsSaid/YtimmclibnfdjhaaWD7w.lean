/- The program's automaton goes with the document's. -/
import Derived.Test.YtimmclibnfdjhaaWD6
import Derived.Test.YtimmclibnfdjhaaWB13
import Derived.Test.YtimmclibnfdjhaaWB18
import Derived.Test.YtimmclibnfdjhaaWB15
import Derived.Test.YtimmclibnfdjhaaWD7c
set_option linter.unusedVariables false
set_option linter.unusedSimpArgs false
set_option linter.unusedSectionVars false
section
namespace Go.Proofs.Ytimmclibnfdjhaa
open Go.SL
def farOk (op far : Int) : Prop := far = 0 ∨ far = 5 ∨ ((op = 4 ∨ op = 5) ∧ far = 1) ∨ ((op = 2 ∨ op = 3) ∧ (far = 2 ∨ far = 3 ∨ far = 4))
/-- A call, and the document's. -/
structure Og (o : Opn) (y : DT) : Prop where
  op : o.op = y.op
  obj : o.obj = y.obj
  arg : o.arg = y.arg
  far : o.far = y.far
  code : o.code = y.code
  val : o.val = y.val
  keep : 2 ≤ y.far ∧ y.far ≤ 4 → o.saved = y.saved ∧ o.since = y.since
  ok : farOk y.op y.far
/-- A thread, and the document's. -/
structure Tr (x : Th) (y : DT) : Prop where
  calls : x.calls = y.calls
  flag : x.flag = y.flag
  none_ : y.opn = false → x.opn = none
  some_ : y.opn = true → ∃ o, x.opn = some o ∧ Og o y
theorem Tr.og {x : Th} {y : DT} (T : Tr x y) {o : Opn} (h : x.opn = some o) : y.opn = true ∧ Og o y := by
  cases hy : y.opn with
  | false => rw [T.none_ hy] at h; cases h
  | true =>
    obtain ⟨o', h1, h2⟩ := T.some_ hy
    rw [h1] at h; cases h
    exact ⟨rfl, h2⟩
theorem Tr.put {x : Th} {y y' : DT} (T : Tr x y) {o' : Opn} (h1 : y'.opn = true) (h2 : y'.calls = y.calls) (h3 : y'.flag = y.flag) (h : Og o' y') : Tr { x with opn := some o' } y' :=
  ⟨T.calls.trans h2.symm, T.flag.trans h3.symm, (fun q => by rw [h1] at q; cases q), fun _ => ⟨o', rfl, h⟩⟩
theorem Tr.done {x : Th} {y : DT} (T : Tr x y) {o : Opn} (h : x.opn = some o) (c v : Int) : Tr { x with opn := some (doneO o c v) } (dfin y c v) := by
  obtain ⟨h1, g⟩ := T.og h
  exact T.put h1 rfl rfl ⟨g.op, g.obj, g.arg, rfl, rfl, rfl, fun q => by have := q.2; simp [dfin] at this, .inr (.inl rfl)⟩
/-- The automatons. -/
structure Rl (σ : St) (δ : DS) : Prop where
  tl : σ.th.length = δ.th.length
  ol : σ.ob.length = δ.ow.length
  dl : δ.dp.length = δ.ow.length
  rel : σ.rel = δ.rel
  ob : ∀ (k : Nat) (p : Int × Int), σ.ob[k]? = some p → δ.ow[k]? = some p.1 ∧ δ.dp[k]? = some p.2
  th : ∀ (u : Nat) (x : Th) (y : DT), σ.th[u]? = some x → δ.th[u]? = some y → Tr x y
theorem modD_at {l : List DT} {t u : Nat} {f : DT → DT} : (l.modify t f)[u]? = (l[u]?).map fun y => if u = t then f y else y := by
  rw [List.getElem?_modify]
  cases l[u]? with
  | none => rfl
  | some x =>
    by_cases e : t = u
    · simp [e]
    · simp [e, Ne.symm e]
theorem mod_mod (δ : DS) (t : Nat) (f g : DT → DT) : (δ.mod t f).mod t g = δ.mod t fun y => g (f y) := by
  unfold DS.mod
  dsimp only
  congr 1
  apply List.ext_getElem?
  intro u
  rw [modD_at, modD_at, modD_at]
  cases δ.th[u]? with
  | none => rfl
  | some x => by_cases e : u = t <;> simp [e]
section
variable {σ : St} {δ : DS}
theorem Rl.step (r : Rl σ δ) {t : Nat} {g : Th → Th} {f : DT → DT} {σ' : St} (h1 : ∀ u, σ'.th[u]? = (σ.th[u]?).map fun x => if u = t then g x else x) (hl : σ'.th.length = σ.th.length) (ho : σ'.ob = σ.ob) (hr : σ'.rel = σ.rel)
    (h : ∀ x y, σ.th[t]? = some x → δ.th[t]? = some y → Tr x y → Tr (g x) (f y)) : Rl σ' (δ.mod t f) := by
  refine ⟨by rw [hl]; simp [DS.mod, r.tl], by rw [ho]; exact r.ol, r.dl, hr.trans r.rel, fun k p hp => r.ob k p (by rw [← ho]; exact hp), fun u x y hx hy => ?_⟩
  rw [h1] at hx
  have hy : (δ.th.modify t f)[u]? = some y := hy
  rw [modD_at] at hy
  cases hx' : σ.th[u]? with
  | none => rw [hx'] at hx; cases hx
  | some x' =>
    cases hy' : δ.th[u]? with
    | none => rw [hy'] at hy; cases hy
    | some y' =>
      rw [hx'] at hx; rw [hy'] at hy
      simp only [Option.map_some, Option.some.injEq] at hx hy
      have T := r.th u x' y' hx' hy'
      by_cases e : u = t
      · subst e
        rw [if_pos rfl] at hx hy
        subst hx hy
        exact h x' y' hx' hy' T
      · rw [if_neg e] at hx hy
        subst hx hy
        exact T
theorem Rl.opn (r : Rl σ δ) {t : Nat} {o' : Opn} {f : DT → DT} (h : ∀ x y, σ.th[t]? = some x → δ.th[t]? = some y → Tr x y → Tr { x with opn := some o' } (f y)) : Rl (σ.opn t o') (δ.mod t f) :=
  r.step (g := fun x => { x with opn := some o' }) (fun u => opnT_at) opnT_length rfl rfl h
theorem Rl.shut (r : Rl σ δ) {t : Nat} : Rl (σ.shut t) (δ.mod t shutD) :=
  r.step (g := fun x => { x with opn := none }) (fun u => opnT_at) opnT_length rfl rfl fun x y _ _ T => ⟨T.calls, T.flag, fun _ => rfl, fun q => by cases q⟩
theorem Rl.flg (r : Rl σ δ) (t : Nat) (b : Bool) : Rl (σ.flg t b) (δ.mod t fun y => { y with flag := b }) :=
  r.step (g := fun x => { x with flag := b }) (fun u => flagT_at) flagT_length rfl rfl fun x y _ _ T => ⟨T.calls, rfl, T.none_, fun q => by
    obtain ⟨o, h1, h2⟩ := T.some_ q
    exact ⟨o, h1, ⟨h2.op, h2.obj, h2.arg, h2.far, h2.code, h2.val, h2.keep, h2.ok⟩⟩⟩
theorem Rl.obj (r : Rl σ δ) (k : Nat) (a b : Int) : Rl (σ.obj k (a, b)) (δ.obj k a b) := by
  refine ⟨r.tl, by simp [St.obj, DS.obj, r.ol], by simp [DS.obj, r.dl], r.rel, fun j p hp => ?_, r.th⟩
  have hp : (σ.ob.set k (a, b))[j]? = some p := hp
  show (δ.ow.set k a)[j]? = _ ∧ (δ.dp.set k b)[j]? = _
  have h1 := r.ol
  have h2 := r.dl
  rw [List.getElem?_set] at hp
  rw [List.getElem?_set, List.getElem?_set]
  by_cases e : k = j
  · rw [if_pos e] at hp ⊢
    rw [if_pos e]
    split at hp
    · rename_i hk
      cases hp
      rw [if_pos (by omega), if_pos (by omega)]
      exact ⟨rfl, rfl⟩
    · cases hp
  · rw [if_neg e] at hp ⊢
    rw [if_neg e]
    exact r.ob j p hp
theorem Rl.relI (r : Rl σ δ) : Rl { σ with rel := inc σ.rel } { δ with rel := inc δ.rel } :=
  ⟨r.tl, r.ol, r.dl, congrArg inc r.rel, r.ob, r.th⟩
theorem Rl.cal (r : Rl σ δ) {t : Nat} {x : Th} {e : Ev} (hx : σ.th[t]? = some x) : Rl ((σ.cls t (inc x.calls)).opn t (opened e)) (δ.mod t (callD e)) := by
  refine r.step (g := fun z => ⟨some (opened e), inc x.calls, z.flag⟩) (fun u => ?_) (by simp [St.opn, St.cls, opnT_length, callsT_length]) rfl rfl fun z y hz hy T => ?_
  · show (opnT (callsT σ.th t (inc x.calls)) t (some (opened e)))[u]? = _
    rw [opnT_at, callsT_at]
    cases σ.th[u]? with
    | none => rfl
    | some z => by_cases h : u = t <;> simp [h]
  · have : z = x := Option.some.inj (hz.symm.trans hx)
    subst this
    refine ⟨?_, T.flag, (fun q => by cases q), fun _ => ⟨opened e, rfl, ⟨rfl, rfl, rfl, rfl, rfl, rfl, fun q => by have := q.1; simp [callD] at this, .inl rfl⟩⟩⟩
    show inc z.calls = inc y.calls
    rw [T.calls]
/-- Who waits. -/
theorem waits_eq {x : Th} {y : DT} (T : Tr x y) (o : Int) : waitsB [2] o x = waitsD o y := by
  unfold waitsB waitsD
  cases hy : y.opn with
  | false => rw [T.none_ hy]; rfl
  | true =>
    obtain ⟨q, h1, h2⟩ := T.some_ hy
    rw [h1]
    dsimp only
    rw [h2.obj, h2.far]
    simp
theorem since_eq (r : Rl σ δ) {v : Nat} {x : Th} {o : Int} (hx : σ.th[v]? = some x) (hw : waitsB [2] o x = true) : sinceOf σ.th v = sinceD δ.th v := by
  have hl : v < δ.th.length := by rw [← r.tl]; exact (List.getElem?_eq_some_iff.1 hx).1
  obtain ⟨y, hy⟩ : ∃ y, δ.th[v]? = some y := ⟨_, List.getElem?_eq_getElem hl⟩
  have T := r.th v x y hx hy
  rw [waits_eq T] at hw
  unfold waitsD at hw
  simp only [Bool.and_eq_true, decide_eq_true_eq] at hw
  obtain ⟨q, h1, h2⟩ := T.some_ hw.1.1
  unfold sinceOf sinceD
  rw [hx, hy]
  dsimp only
  rw [h1]
  exact (h2.keep (by rw [hw.2]; decide)).2
theorem long_gen (r : Rl σ δ) (o : Int) : ∀ (ts : List Th) (ds : List DT) (j : Nat) (f : Int), ts = σ.th.drop j → ds = δ.th.drop j → (f < 0 ∨ ∃ (v : Nat) (x : Th), f = (v : Int) ∧ σ.th[v]? = some x ∧ waitsB [2] o x = true) →
    longG σ.th (wlist [2] o j ts) f = dlongG δ.th o ds j f
  | [], ds, j, f, h1, h2, _ => by
    have : ds = [] := by
      rw [h2]; apply List.drop_eq_nil_of_le
      have := congrArg List.length h1
      simp at this
      rw [← r.tl]; omega
    subst this
    rfl
  | x :: ts, ds, j, f, h1, h2, hf => by
    have hjl : j < σ.th.length := Classical.byContradiction fun q => by
      rw [List.drop_eq_nil_of_le (by omega)] at h1; cases h1
    have hjd : j < δ.th.length := by rw [← r.tl]; exact hjl
    rw [List.drop_eq_getElem_cons hjl] at h1
    rw [List.drop_eq_getElem_cons hjd] at h2
    obtain ⟨rfl, h1'⟩ := List.cons.inj h1
    subst h2
    have hx : σ.th[j]? = some σ.th[j] := List.getElem?_eq_getElem hjl
    have hy : δ.th[j]? = some δ.th[j] := List.getElem?_eq_getElem hjd
    have T := r.th j _ _ hx hy
    have hw := waits_eq T o
    simp only [wlist, dlongG]
    cases hb : waitsB [2] o σ.th[j] with
    | false =>
      rw [hb] at hw
      rw [if_neg (by simp), if_neg (by rw [← hw]; simp)]
      exact long_gen r o ts _ (j + 1) f h1' rfl hf
    | true =>
      rw [hb] at hw
      rw [if_pos rfl]
      simp only [longG]
      have hs : sinceOf σ.th j = δ.th[j].since := by
        rw [since_eq r hx hb]; unfold sinceD; rw [hy]
      have hc : (f < 0 ∨ sinceOf σ.th j < sinceOf σ.th f.toNat) ↔ (waitsD o δ.th[j] = true ∧ (f < 0 ∨ δ.th[j].since < sinceD δ.th f.toNat)) := by
        rw [hs]
        rcases hf with hf | ⟨v, x', rfl, hv, hwv⟩
        · exact ⟨fun _ => ⟨hw.symm, .inl hf⟩, fun _ => .inl hf⟩
        · rw [Int.toNat_natCast, since_eq r hv hwv]
          exact ⟨fun q => ⟨hw.symm, q⟩, fun q => q.2⟩
      by_cases hcc : f < 0 ∨ sinceOf σ.th j < sinceOf σ.th f.toNat
      · rw [if_pos hcc, if_pos (hc.1 hcc)]
        exact long_gen r o ts _ (j + 1) _ h1' rfl (.inr ⟨j, _, rfl, hx, hb⟩)
      · rw [if_neg hcc, if_neg (fun q => hcc (hc.2 q))]
        exact long_gen r o ts _ (j + 1) f h1' rfl hf
theorem long_eq (r : Rl σ δ) (o : Int) : longF σ.th o = dlong δ.th o :=
  long_gen r o σ.th δ.th 0 (-1) rfl rfl (.inl (by decide))
end
end Go.Proofs.Ytimmclibnfdjhaa
end
section
/- The program's automaton goes with the document's: every event. -/
namespace Go.Proofs.Ytimmclibnfdjhaa
open Go.SL
section
variable {σ : St} {δ : DS}
/-- What a step makes goes with what the document's makes. -/
def Go2 (r : Bool × St) (s : Bool × DS) : Prop := s.1 = true → r.1 = true ∧ Rl r.2 s.2
theorem Go2.no {r : Bool × St} {δ : DS} : Go2 r (false, δ) := fun h => by cases h
theorem Go2.yes {σ : St} {δ : DS} (r : Rl σ δ) : Go2 (true, σ) (true, δ) := fun _ => ⟨rfl, r⟩
theorem Rl.done (r : Rl σ δ) {t : Nat} {x : Th} {o : Opn} (hx : σ.th[t]? = some x) (ho : x.opn = some o) (c v : Int) : Rl (σ.opn t (doneO o c v)) (δ.mod t (dfin · c v)) :=
  r.opn fun z y hz _ T => by
    have : z = x := Option.some.inj (hz.symm.trans hx)
    subst this
    exact T.done ho c v
theorem flg_at {σ : St} {t u : Nat} {b : Bool} {x : Th} (hx : σ.th[t]? = some x) : ∃ z, (σ.flg u b).th[t]? = some z ∧ z.opn = x.opn := by
  show ∃ z, (flagT σ.th u b)[t]? = some z ∧ z.opn = x.opn
  rw [flagT_at, hx]
  by_cases e : t = u
  · exact ⟨{ x with flag := b }, by simp [e], rfl⟩
  · exact ⟨x, by simp [e], rfl⟩
variable {t k : Nat} {x : Th} {y : DT} {o : Opn} {p : Int × Int} {e : Ev}
theorem bis_notify (r : Rl σ δ) (wf : WF σ) (hx : σ.th[t]? = some x) (hy : δ.th[t]? = some y) (ho : x.opn = some o) (g : Og o y) (hop : y.op = 4 ∨ y.op = 5) (hf5 : y.far ≠ 5) (owns : Bool) :
    Go2 (notifyF σ t k o p.1 p.2 e owns) ((notifyD δ.th t y owns e).1, { δ with th := (notifyD δ.th t y owns e).2 }) := by
  have hfar : y.far = 0 ∨ y.far = 1 := by
    have := g.ok; unfold farOk at this; omega
  unfold notifyD
  by_cases h8 : e.act = 8
  · rw [if_pos h8]
    by_cases hc : owns = false ∧ y.far = 0 ∧ e.other = 4
    · rw [if_pos hc]
      unfold notifyF
      rw [if_neg (by omega), if_pos (by unfold refB; simp [h8, hc.1, hc.2.2, g.far, hc.2.1])]
      exact Go2.yes (r.done hx ho 4 0)
    · rw [if_neg hc]; exact Go2.no
  · rw [if_neg h8]
    by_cases hn : e.act ≠ 3 ∨ owns = false ∨ e.other ≠ dlong δ.th e.obj
    · rw [if_pos hn]; exact Go2.no
    · rw [if_neg hn]
      simp only [not_or] at hn
      obtain ⟨n1, n2, n3⟩ := hn
      have n1 : e.act = 3 := Classical.byContradiction n1
      have n3 : e.other = dlong δ.th e.obj := Classical.byContradiction n3
      have n2 : owns = true := by simpa using n2
      unfold notifyF
      rw [if_pos ⟨n1, n2, by rw [long_eq r]; exact n3⟩]
      by_cases hneg : e.other < 0
      · rw [if_pos hneg, if_pos hneg]
        exact Go2.yes (r.done hx ho 0 0)
      · rw [if_neg hneg, if_neg hneg]
        -- the one that is woken
        have hl : e.other = longF σ.th e.obj := by rw [long_eq r]; exact n3
        obtain ⟨u, hu, hue⟩ : ∃ u ∈ wlist [2] e.obj 0 σ.th, e.other = (u : Int) := by
          rcases longG_mem σ.th (wlist [2] e.obj 0 σ.th) (-1) with h2 | ⟨u, hu, h2⟩
          · exfalso; unfold longF at hl; omega
          · exact ⟨u, hu, by unfold longF at hl; omega⟩
        obtain ⟨-, z, hz, hw⟩ := wlist_mem _ _ _ _ _ hu
        rw [Nat.sub_zero] at hz
        have hun : e.other.toNat = u := by omega
        rw [hun]
        have hzl : u < δ.th.length := by rw [← r.tl]; exact (List.getElem?_eq_some_iff.1 hz).1
        obtain ⟨w, hwd⟩ : ∃ w, δ.th[u]? = some w := ⟨_, List.getElem?_eq_getElem hzl⟩
        have Tz := r.th u z w hz hwd
        rw [waits_eq Tz] at hw
        unfold waitsD at hw
        simp only [Bool.and_eq_true, decide_eq_true_eq] at hw
        obtain ⟨q, hq, gq⟩ := Tz.some_ hw.1.1
        have hut : u ≠ t := fun eq => by
          subst eq
          rw [hx] at hz; cases hz
          rw [ho] at hq; cases hq
          have : o.far = y.far := g.far
          have h2 : o.far = 2 := gq.far.trans hw.2
          omega
        have hof : σ.opnOf u = q := by unfold St.opnOf; rw [hz]; dsimp only; rw [hq]; rfl
        rw [hof]
        have r1 : Rl (σ.opn u (woken q)) (δ.mod u wkD) := r.opn fun a b ha hb T => by
          have : b = w := Option.some.inj (hb.symm.trans hwd)
          subst this
          refine T.put hw.1.1 rfl rfl ⟨gq.op, gq.obj, gq.arg, rfl, rfl, rfl, fun _ => gq.keep (by rw [hw.2]; decide), ?_⟩
          have := gq.ok
          unfold farOk at this
          have h2 := hw.2
          have ho2 : b.op = 2 ∨ b.op = 3 := by omega
          exact .inr (.inr (.inr ⟨ho2, .inr (.inr rfl)⟩))
        have hx1 : (σ.opn u (woken q)).th[t]? = some x := by
          show (opnT σ.th u _)[t]? = some x
          rw [opnT_at, hx]
          simp [Ne.symm hut]
        by_cases h4 : y.op = 4
        · rw [if_pos h4, if_pos (g.op.trans h4)]
          exact Go2.yes (r1.done hx1 ho 0 0)
        · rw [if_neg h4, if_neg (by rw [g.op]; exact h4)]
          refine Go2.yes (r1.opn (t := t) (o' := { o with far := 1 }) (f := fun y => { y with far := 1 }) fun a b ha hb T => ?_)
          have : a = x := Option.some.inj (ha.symm.trans hx1)
          subst this
          obtain ⟨b1, bg⟩ := T.og ho
          have hb' : b = y := by
            have hb : (δ.th.modify u wkD)[t]? = some b := hb
            rw [modD_at, hy] at hb
            simp [Ne.symm hut] at hb
            exact hb.symm
          subst hb'
          exact T.put b1 rfl rfl ⟨bg.op, bg.obj, bg.arg, rfl, bg.code, bg.val, fun q => by have := q.1; simp at this, .inr (.inr (.inl ⟨hop, rfl⟩))⟩
theorem bis_wait (r : Rl σ δ) (hx : σ.th[t]? = some x) (hy : δ.th[t]? = some y) (ho : x.opn = some o) (g : Og o y) (T : Tr x y) (hop : y.op = 2 ∨ y.op = 3) (owns : Bool) :
    Go2 (waitF σ t k o p.1 p.2 x.flag e owns) (waitDf δ t k y p.1 p.2 owns e) := by
  have eqx : ∀ z, σ.th[t]? = some z → z = x := fun z hz => Option.some.inj (hz.symm.trans hx)
  have eqy : ∀ z, δ.th[t]? = some z → z = y := fun z hz => Option.some.inj (hz.symm.trans hy)
  have gf := g.far
  have go := g.op
  obtain ⟨yo, -⟩ := T.og ho
  unfold waitDf
  by_cases h8 : e.act = 8 ∧ y.far = 0
  · rw [if_pos h8]
    by_cases hc : (e.other = 4 ∧ owns = false) ∨ e.other = 3
    · rw [if_pos hc]
      unfold waitF
      rw [if_neg (by omega), if_neg (by omega), if_neg (by omega), if_neg (by omega), if_neg (by omega)]
      rcases hc with ⟨h4, hw⟩ | h3
      · rw [if_pos (by unfold refB; simp [h8.1, h8.2, gf, h4, hw]), h4]
        exact Go2.yes (r.done hx ho 4 0)
      · rw [if_neg (by unfold refB; simp [h3]), if_pos (by unfold refB; simp [h8.1, h8.2, gf, h3]), h3]
        exact Go2.yes (r.done hx ho 3 0)
    · rw [if_neg hc]; exact Go2.no
  rw [if_neg h8]
  by_cases h7 : e.act = 7 ∧ e.other = 0 ∧ y.far = 0 ∧ owns = true ∧ y.flag = true
  · rw [if_pos h7]
    unfold waitF
    rw [if_pos ⟨h7.1, h7.2.1, by rw [T.flag]; exact h7.2.2.2.2, by rw [gf]; exact h7.2.2.1, h7.2.2.2.1⟩]
    obtain ⟨z, hz, hzo⟩ := flg_at (u := t) (b := false) hx
    have := (r.flg t false).done hz (hzo.trans ho) 0 2
    rw [mod_mod] at this
    exact Go2.yes this
  rw [if_neg h7]
  by_cases h2 : e.act = 2 ∧ e.other = 0 ∧ y.far = 0 ∧ owns = true
  · rw [if_pos h2]
    unfold waitF
    rw [if_neg (by omega), if_neg (by omega), if_pos ⟨h2.1, h2.2.1, by rw [gf]; exact h2.2.2.1, h2.2.2.2⟩]
    have r2 := (r.relI.opn (t := t) (o' := { o with saved := p.2, since := inc σ.rel, far := 2 }) (f := fun y => { y with saved := p.2, since := inc δ.rel, far := 2 }) fun a b ha hb T => by
      have := eqx a ha; subst this
      obtain ⟨b1, bg⟩ := T.og ho
      have hb' := eqy b hb; subst hb'
      exact T.put b1 rfl rfl ⟨bg.op, bg.obj, bg.arg, rfl, bg.code, bg.val, fun _ => ⟨rfl, congrArg inc r.rel⟩, .inr (.inr (.inr ⟨hop, .inl rfl⟩))⟩).obj k (-1) 0
    exact Go2.yes r2
  rw [if_neg h2]
  by_cases h72 : e.act = 7 ∧ e.other = 0 ∧ y.far = 2 ∧ y.flag = true
  · rw [if_pos h72]
    unfold waitF
    rw [if_neg (by rw [gf]; omega), if_pos ⟨h72.1, h72.2.1, by rw [T.flag]; exact h72.2.2.2, by rw [gf]; exact h72.2.2.1⟩]
    have r2 := (r.flg t false).opn (t := t) (o' := { o with far := 3 }) (f := fun y => { y with far := 3 }) fun a b ha hb T' => by
      obtain ⟨z, hz, hzo⟩ := flg_at (u := t) (b := false) hx
      have : a = z := Option.some.inj (ha.symm.trans hz)
      subst this
      obtain ⟨b1, bg⟩ := T'.og (hzo.trans ho)
      refine T'.put b1 rfl rfl ⟨bg.op, bg.obj, bg.arg, rfl, bg.code, bg.val, fun _ => bg.keep ?_, ?_⟩
      · rw [← bg.far, gf, h72.2.2.1]; decide
      · refine .inr (.inr (.inr ⟨?_, .inr (.inl rfl)⟩))
        show b.op = 2 ∨ b.op = 3
        rw [← bg.op, go]; exact hop
    rw [mod_mod] at r2
    exact Go2.yes r2
  rw [if_neg h72]
  by_cases h4 : e.act = 4
  · rw [if_pos h4]
    by_cases hc : (y.far = 2 ∧ (e.other = 3 ∨ (e.other = 1 ∧ y.op = 3))) ∨ (y.far = 3 ∧ e.other = 2)
    · rw [if_pos hc]
      have hlv : leavesB o e = true := by
        unfold leavesB
        rcases hc with ⟨f2, h3 | ⟨h1, o3⟩⟩ | ⟨f3, h2⟩
        · rw [if_neg (by omega), if_neg (by omega)]; simp [gf, f2, h3]
        · rw [if_neg (by omega), if_pos h1]; simp [gf, f2, go, o3]
        · rw [if_pos h2]; simp [gf, f3]
      unfold waitF
      rw [if_neg (by omega), if_neg (by omega), if_neg (by omega), if_pos ⟨h4, hlv⟩]
      refine Go2.yes (r.opn fun a b ha hb T' => ?_)
      have := eqx a ha; subst this
      have hb' := eqy b hb; subst hb'
      obtain ⟨b1, bg⟩ := T'.og ho
      have hk2 : 2 ≤ b.far ∧ b.far ≤ 4 := by omega
      exact T'.put b1 rfl rfl ⟨bg.op, bg.obj, bg.arg, rfl, rfl, rfl, fun _ => bg.keep hk2, .inr (.inr (.inr ⟨hop, .inr (.inr rfl)⟩))⟩
    · rw [if_neg hc]; exact Go2.no
  rw [if_neg h4]
  by_cases h5 : e.act = 5 ∧ e.other = 0 ∧ y.far = 4 ∧ p.1 < 0
  · rw [if_pos h5]
    unfold waitF
    rw [if_neg (by omega), if_neg (by omega), if_neg (by omega), if_neg (by omega), if_pos ⟨h5.1, h5.2.1, by rw [gf]; exact h5.2.2.1, h5.2.2.2⟩]
    have hs : o.saved = y.saved := (g.keep (by rw [h5.2.2.1]; decide)).1
    rw [hs]
    refine Go2.yes ((r.obj k e.thread y.saved).opn fun a b ha hb T' => ?_)
    have := eqx a ha; subst this
    obtain ⟨b1, bg⟩ := T'.og ho
    exact T'.put b1 rfl rfl ⟨bg.op, bg.obj, bg.arg, rfl, bg.code, bg.val, fun q => by have := q.2; simp at this, .inr (.inl rfl)⟩
  rw [if_neg h5]; exact Go2.no
theorem bis_step (r : Rl σ δ) (wf : WF σ) (hx : σ.th[t]? = some x) (hy : δ.th[t]? = some y) (ho : x.opn = some o) (T : Tr x y) (hf5 : y.far ≠ 5) (hop : 0 ≤ y.op ∧ y.op < 9) :
    Go2 (stepF σ t k o p.1 p.2 x.flag e (decide (p.1 = e.thread))) (stepD δ t k y p.1 p.2 e) := by
  obtain ⟨yo, g⟩ := T.og ho
  have gf := g.far
  have go := g.op
  have gok := g.ok
  unfold farOk at gok
  unfold stepD stepF
  by_cases o0 : y.op = 0
  · rw [if_pos o0, if_pos (go.trans o0)]
    have hf0 : o.far = 0 := by omega
    unfold enterF
    by_cases hc : e.act = 0 ∧ e.other = 0 ∧ (p.1 = e.thread ∨ p.1 < 0)
    · rw [if_pos hc, if_pos (by simp [hc.1, hc.2.1]; exact hc.2.2)]
      exact Go2.yes ((r.obj k e.thread (inc p.2)).done hx ho 0 0)
    · rw [if_neg hc]
      by_cases hr : e.act = 8 ∧ ((e.other = 5 ∧ p.1 = e.thread) ∨ e.other = 3)
      · rw [if_pos hr, if_neg (by simp [hr.1])]
        rcases hr.2 with ⟨h5, hw⟩ | h3
        · rw [if_pos (by unfold refB; simp [hr.1, hf0, h5, hw]), h5]
          exact Go2.yes (r.done hx ho 5 0)
        · rw [if_neg (by unfold refB; simp [h3]), if_pos (by unfold refB; simp [hr.1, hf0, h3]), h3]
          exact Go2.yes (r.done hx ho 3 0)
      · rw [if_neg hr]; exact Go2.no
  rw [if_neg o0, if_neg (by rw [go]; exact o0)]
  by_cases o1 : y.op = 1
  · rw [if_pos o1, if_pos (go.trans o1)]
    have hf0 : o.far = 0 := by omega
    unfold exitF
    by_cases hc : e.act = 1 ∧ e.other = 0 ∧ p.1 = e.thread
    · rw [if_pos hc, if_pos (by simp [hc.1, hc.2.1, hc.2.2])]
      exact Go2.yes ((r.obj k _ (dec p.2)).done hx ho 0 0)
    · rw [if_neg hc]
      by_cases hr : e.act = 8 ∧ e.other = 4 ∧ p.1 ≠ e.thread
      · rw [if_pos hr, if_neg (by simp [hr.1]), if_pos (by unfold refB; simp [hr.1, hf0, hr.2.1, hr.2.2])]
        exact Go2.yes (r.done hx ho 4 0)
      · rw [if_neg hr]; exact Go2.no
  rw [if_neg o1, if_neg (by rw [go]; exact o1)]
  by_cases o7 : y.op = 7
  · rw [if_pos o7, if_neg (by omega), if_neg (by omega), if_neg (by omega), if_pos (go.trans o7)]
    unfold holdsF holdsB
    by_cases hc : e.act = 9 ∧ ((e.other = 1 ∧ p.1 = e.thread) ∨ (e.other = 0 ∧ p.1 ≠ e.thread))
    · rw [if_pos hc, if_pos (by
        rcases hc with ⟨h1, ⟨h2, h3⟩ | ⟨h2, h3⟩⟩
        · simp [h1, h2, h3]
        · simp [h1, h2, h3])]
      exact Go2.yes (r.done hx ho 0 e.other)
    · rw [if_neg hc]; exact Go2.no
  rw [if_neg o7]
  by_cases o4 : y.op = 4 ∨ y.op = 5
  · rw [if_pos o4, if_neg (by omega), if_pos (by rw [go]; exact o4)]
    exact bis_notify r wf hx hy ho g o4 hf5 _
  rw [if_neg o4]
  by_cases o2 : y.op = 2 ∨ y.op = 3
  · rw [if_pos o2, if_pos (by rw [go]; exact o2)]
    exact bis_wait r hx hy ho g T o2 _
  rw [if_neg o2, if_neg (by rw [go]; exact o2), if_neg (by rw [go]; exact o4)]
  by_cases o6 : y.op = 6
  · rw [if_pos o6, if_pos (go.trans o6)]
    unfold interruptF
    by_cases hc : e.act = 6 ∧ e.other = y.arg
    · rw [if_pos hc, if_pos ⟨hc.1, by rw [g.arg]; exact hc.2⟩]
      obtain ⟨z, hz, hzo⟩ := flg_at (u := e.other.toNat) (b := true) hx
      exact Go2.yes ((r.flg e.other.toNat true).done hz (hzo.trans ho) 0 0)
    · rw [if_neg hc]; exact Go2.no
  rw [if_neg o6, if_neg (by rw [go]; exact o6), if_neg (by rw [go]; exact o7), if_pos (by omega)]
  unfold nothingF
  by_cases hc : e.act = 10 ∧ e.other = 0
  · rw [if_pos hc, if_pos (by simp [hc.1, hc.2])]
    exact Go2.yes (r.done hx ho 0 0)
  · rw [if_neg hc]; exact Go2.no
theorem bis_act (r : Rl σ δ) (wf : WF σ) {e : Ev} (hi : e.index = 0) (hc : e.code = 0) (hv : e.val = 0) : Go2 (actF σ e) (actD δ e) := by
  unfold actD
  cases hy : δ.th[e.thread.toNat]? with
  | none => exact Go2.no
  | some y =>
    dsimp only
    have hl : e.thread.toNat < σ.th.length := by rw [r.tl]; exact (List.getElem?_eq_some_iff.1 hy).1
    obtain ⟨x, hx⟩ : ∃ x, σ.th[e.thread.toNat]? = some x := ⟨_, List.getElem?_eq_getElem hl⟩
    have T := r.th _ x y hx hy
    by_cases hno : noD δ.th.length δ.ow.length y e
    · rw [if_pos hno]; exact Go2.no
    · rw [if_neg hno]
      have hno' := hno
      unfold noD at hno'
      simp only [not_or] at hno'
      obtain ⟨q1, q0, q2, q3⟩ := hno'
      have q1 : y.opn = true := by simpa using q1
      have q2 : e.obj = y.obj := Classical.byContradiction q2
      have hw := q0
      unfold wrongB at hw
      simp only [not_or] at hw
      obtain ⟨w1, w2, w3, w4, w5⟩ := hw
      obtain ⟨o, ho, g⟩ := T.some_ q1
      have hol : e.obj.toNat < σ.ob.length := by rw [r.ol]; omega
      obtain ⟨p, hp⟩ : ∃ p, σ.ob[e.obj.toNat]? = some p := ⟨_, List.getElem?_eq_getElem hol⟩
      obtain ⟨g1, g2⟩ := r.ob _ p hp
      rw [g1, g2]
      dsimp only
      have hnf : ¬ actNo σ o e := by
        unfold actNo
        rw [g.op, g.obj, g.arg, g.far, r.tl, r.ol]
        simp only [not_or]
        exact ⟨q0, fun h => h q2, q3, fun h => h hi, fun h => h hc, fun h => h hv⟩
      have hF : actF σ e = stepF σ e.thread.toNat e.obj.toNat o p.1 p.2 x.flag e (decide (p.1 = e.thread)) := by
        unfold actF
        rw [hx]; dsimp only
        rw [ho]; dsimp only
        rw [if_neg hnf, hp]
      rw [hF]
      exact bis_step r wf hx hy ho T q3 ⟨by omega, by omega⟩
theorem bis (r : Rl σ δ) (wf : WF σ) (e : Ev) : Go2 (takeF σ e) (takeD δ e) := by
  unfold takeD
  by_cases h0 : ¬ (0 ≤ e.thread ∧ e.thread < δ.th.length)
  · rw [if_pos h0]; exact Go2.no
  · rw [if_neg h0]
    have h0' : 0 ≤ e.thread ∧ e.thread < δ.th.length := Classical.byContradiction h0
    cases hy : δ.th[e.thread.toNat]? with
    | none => exact Go2.no
    | some y =>
      dsimp only
      have hl : e.thread.toNat < σ.th.length := by rw [r.tl]; exact (List.getElem?_eq_some_iff.1 hy).1
      obtain ⟨x, hx⟩ : ∃ x, σ.th[e.thread.toNat]? = some x := ⟨_, List.getElem?_eq_getElem hl⟩
      have T := r.th _ x y hx hy
      have hF0 : takeF σ e = (if e.kind = 0 then (if callNo x e then (false, σ) else (true, (σ.cls e.thread.toNat (inc x.calls)).opn e.thread.toNat (opened e)))
        else if e.kind = 1 then actF σ e
        else if e.kind = 2 then (match x.opn with
          | none => (false, σ)
          | some o => if ansNo σ.th.length σ.ob.length x o e then (false, σ) else (true, σ.shut e.thread.toNat))
        else (false, σ)) := by
        unfold takeF
        rw [if_neg (by rw [r.tl]; exact h0), hx]
        rfl
      rw [hF0]
      by_cases k0 : e.kind = 0
      · rw [if_pos k0, if_pos k0]
        by_cases hc : y.opn = true ∨ e.index ≠ y.calls ∨ e.code ≠ 0 ∨ e.val ≠ 0
        · rw [if_pos hc]; exact Go2.no
        · rw [if_neg hc]
          simp only [not_or] at hc
          obtain ⟨q1, q2, q3, q4⟩ := hc
          rw [if_neg]
          · exact Go2.yes (r.cal hx)
          · unfold callNo
            simp only [not_or]
            exact ⟨fun h => h (T.none_ (by simpa using q1)), by rw [T.calls]; exact q2, q3, q4⟩
      rw [if_neg k0, if_neg k0]
      by_cases k1 : e.kind = 1
      · rw [if_pos k1, if_pos k1]
        by_cases hc : e.index = 0 ∧ e.code = 0 ∧ e.val = 0
        · rw [if_pos hc]
          exact bis_act r wf hc.1 hc.2.1 hc.2.2
        · rw [if_neg hc]; exact Go2.no
      rw [if_neg k1, if_neg k1]
      by_cases k2 : e.kind = 2
      · rw [if_pos k2, if_pos k2]
        by_cases hc : y.opn = false ∨ e.index ≠ dec y.calls ∨ e.act ≠ 0 ∨ e.obj ≠ 0 ∨ e.other ≠ 0
        · rw [if_pos hc]; exact Go2.no
        · rw [if_neg hc]
          simp only [not_or] at hc
          obtain ⟨q1, q2, q3, q4, q5⟩ := hc
          obtain ⟨o, ho, g⟩ := T.some_ (by simpa using q1)
          rw [ho]
          dsimp only
          have key : (mayB δ.th.length δ.ow.length o) → e.code = (wantC δ.th.length δ.ow.length o).1 → e.val = (wantC δ.th.length δ.ow.length o).2 → ¬ ansNo σ.th.length σ.ob.length x o e := fun h1 h2 h3 => by
            unfold ansNo
            rw [r.tl, r.ol, T.calls]
            simp only [not_or]
            exact ⟨q2, q3, q4, q5, fun h => h h1, fun h => h h2, fun h => h h3⟩
          by_cases hw : wrongB δ.th.length δ.ow.length y.op y.obj y.arg
          · rw [if_pos hw]
            have hw' : wrongB δ.th.length δ.ow.length o.op o.obj o.arg := by rw [g.op, g.obj, g.arg]; exact hw
            by_cases hc : e.code = 2 ∧ e.val = 0
            · rw [if_pos hc, if_neg (key (.inl hw') (by unfold wantC; rw [if_pos hw']; exact hc.1) (by unfold wantC; rw [if_pos hw']; exact hc.2))]
              exact Go2.yes r.shut
            · rw [if_neg hc]; exact Go2.no
          · rw [if_neg hw]
            have hw' : ¬ wrongB δ.th.length δ.ow.length o.op o.obj o.arg := by rw [g.op, g.obj, g.arg]; exact hw
            by_cases hm : y.far ≠ 5 ∧ (y.op ≠ 8 ∨ y.far ≠ 0)
            · rw [if_pos hm]; exact Go2.no
            · rw [if_neg hm]
              by_cases hc : e.code = y.code ∧ e.val = y.val
              · have hmay : mayB δ.th.length δ.ow.length o := by
                  unfold mayB
                  rw [g.far, g.op]
                  refine .inr ?_
                  omega
                rw [if_pos hc, if_neg (key hmay (by unfold wantC; rw [if_neg hw', g.code]; exact hc.1) (by unfold wantC; rw [if_neg hw', g.val]; exact hc.2))]
                exact Go2.yes r.shut
              · rw [if_neg hc]; exact Go2.no
      · rw [if_neg k2, if_neg k2]; exact Go2.no
end
end Go.Proofs.Ytimmclibnfdjhaa
end
section
/- Events one behind the other, as the document says. -/
namespace Go.Proofs.Ytimmclibnfdjhaa
open Go.SL
theorem notifyD_no {th : List DT} {t : Nat} {x : DT} {owns : Bool} {e : Ev} (h : (notifyD th t x owns e).1 = false) : (notifyD th t x owns e).2 = th := by
  unfold notifyD at h ⊢
  split at h
  · rename_i h8
    rw [if_pos h8]
    split at h
    · cases h
    · rename_i h2
      rw [if_neg h2]
  · rename_i h8
    rw [if_neg h8]
    split at h
    · rename_i h2
      rw [if_pos h2]
    · split at h
      · cases h
      · split at h <;> cases h
theorem waitDf_no {δ : DS} {t k : Nat} {x : DT} {ow dp : Int} {owns : Bool} {e : Ev} (h : (waitDf δ t k x ow dp owns e).1 = false) : (waitDf δ t k x ow dp owns e).2 = δ := by
  revert h
  unfold waitDf
  (repeat' split) <;> first | exact fun _ => rfl | exact fun h => by cases h
theorem stepD_no {δ : DS} {t k : Nat} {x : DT} {ow dp : Int} {e : Ev} (h : (stepD δ t k x ow dp e).1 = false) : (stepD δ t k x ow dp e).2 = δ := by
  revert h
  unfold stepD
  split
  · (repeat' split) <;> first | exact fun _ => rfl | exact fun h => by cases h
  split
  · split
    · exact fun h => by cases h
    · (repeat' split) <;> first | exact fun _ => rfl | exact fun h => by cases h
  split
  · (repeat' split) <;> first | exact fun _ => rfl | exact fun h => by cases h
  split
  · intro h
    show { δ with th := _ } = δ
    rw [notifyD_no h]
  split
  · exact waitDf_no
  (repeat' split) <;> first | exact fun _ => rfl | exact fun h => by cases h
theorem actD_no {δ : DS} {e : Ev} (h : (actD δ e).1 = false) : (actD δ e).2 = δ := by
  revert h
  unfold actD
  split
  · exact fun _ => rfl
  split
  · exact fun _ => rfl
  split
  · exact stepD_no
  · exact fun _ => rfl
theorem takeD_no {δ : DS} {e : Ev} (h : (takeD δ e).1 = false) : (takeD δ e).2 = δ := by
  revert h
  unfold takeD
  split
  · exact fun _ => rfl
  split
  · exact fun _ => rfl
  split
  · (repeat' split) <;> first | exact fun _ => rfl | exact fun h => by cases h
  split
  · split
    · exact actD_no
    · exact fun _ => rfl
  (repeat' split) <;> first | exact fun _ => rfl | exact fun h => by cases h
def takesD : DS → List Ev → Bool × DS
  | δ, [] => (true, δ)
  | δ, e :: es => if (takeD δ e).1 = true then takesD (takeD δ e).2 es else (false, (takeD δ e).2)
theorem takesD_snoc : ∀ {es : List Ev} {δ δ' : DS} {e : Ev}, takesD δ es = (true, δ') → (takeD δ' e).1 = true → takesD δ (es ++ [e]) = (true, (takeD δ' e).2)
  | [], δ, δ', e, h, h2 => by
    simp only [takesD, Prod.mk.injEq, true_and] at h
    subst h
    simp only [List.nil_append, takesD, if_pos h2]
  | x :: es, δ, δ', e, h, h2 => by
    simp only [takesD] at h
    split at h
    · rename_i hx
      simp only [List.cons_append, takesD, if_pos hx]
      exact takesD_snoc h h2
    · cases h
theorem new_rel (t o : Nat) : Rl (newF t o) (newD t o) := by
  refine ⟨by simp [newF, newD], by simp [newF, newD], by simp [newD], rfl, fun k p hp => ?_, fun u x y hx hy => ?_⟩
  · simp only [newF, List.getElem?_replicate] at hp
    split at hp
    · rename_i hk
      cases hp
      simp [newD, hk]
    · cases hp
  · simp only [newF, List.getElem?_replicate] at hx
    simp only [newD, List.getElem?_replicate] at hy
    split at hx
    · rename_i hk
      rw [if_pos hk] at hy
      cases hx; cases hy
      exact ⟨rfl, rfl, fun _ => rfl, fun q => by cases q⟩
    · cases hx
theorem walk_bis : ∀ {es : List Ev} {σ : St} {δ : DS}, Rl σ δ → WF σ → (takesD δ es).1 = true → (takesF σ es).1 = true ∧ Rl (takesF σ es).2 (takesD δ es).2
  | [], _, _, r, _, _ => ⟨rfl, r⟩
  | e :: es, σ, δ, r, wf, h => by
    simp only [takesD] at h ⊢
    split at h
    · rename_i he
      obtain ⟨h1, r1⟩ := bis r wf e he
      rw [if_pos he]
      simp only [takesF]
      rw [if_pos h1]
      exact walk_bis r1 (takeF_keep.wf wf) h
    · cases h
end Go.Proofs.Ytimmclibnfdjhaa
end
