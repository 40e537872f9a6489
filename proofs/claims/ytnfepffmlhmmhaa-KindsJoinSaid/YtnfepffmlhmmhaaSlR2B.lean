/- A region that draws its order, with entries put into new maps: what is known on the way. -/
import Derived.Test.YtnfepffmlhmmhaaSlR2A
set_option linter.unusedVariables false
namespace Go.SL.DM
open Go.SL
section
variable (P : Program) (F : Heap) (n : Nat) (all : Array Oper) (prot : List Heap) (K : Env → List Heap → Prop) (its : List It) (env0 : Env) (a0 : Act) (ds : List Deferred)
def Kn (val : Nat → Value) (an : An) (en : En) (own : List Heap) (L : Array Bool) (bf : Nat → Nat) (p : List It) : It → Prop
  | .q i => ∃ o hsub, all[i]? = some o ∧ condAt P F n all hsub (envL all val (ordOf p) env0) o (val i) ∧ (L.getD i false = false → ∃ Y, own.Perm (hsub ++ Y))
  | .f i => ∃ o, all[i]? = some o ∧ condAt P emp n all [] (envL all val (ordOf p) env0) o (val i)
  | .r i => ∃ o, all[i]? = some o ∧ condAt P F n all prot (envL all val (ordOf p) env0) o (val i)
  | .an i => ∃ o vf ob, all[i]? = some o ∧ wantedE all (envL all val (ordOf p) env0) o = some true ∧ NewOp P n o (envL all val (ordOf p) env0) vf ob ∧ an i = some (vf, ob) ∧ (L.getD i false = true → val i = vf (bf i))
  | .rv i => L.getD i false = true
  | .h _ m => L.getD m false = true
  | .fi i j => ∃ dd kv xv en0, InsAt P all (envL all val (ordOf p) env0) an en0 i j dd kv xv ∧ en i = some (j, dd, kv, xv)
def plH (cur : Nat → Obj) (bf : Nat → Nat) (pl : List Nat) : List Heap := pl.map fun i => blk (bf i) (cur i)
def atL (val : Nat → Value) (L : Nat → Bool) (s : Nat) : Option Value := match lastW all L s all.size with | some j => some (val j) | none => a0.tmps[s]?
structure CI (pre post : List It) (val : Nat → Value) (own : List Heap) (an : An) (en : En) (cur : Nat → Obj) (bf : Nat → Nat) (pl : List Nat) (L : Array Bool) (a : Act) (w : World) : Prop where
  s1 : L.size = all.size
  s2 : a.tmps.size = n
  s3 : a.defers = ds
  s4 : ∀ i o, L.getD i false = true → all[i]? = some o → ∀ e ∈ o.after, Region.binds .any e = true → L.getD e.on false = true
  e : its = pre ++ post
  sl : ∀ s, s < n → a.tmps[s]? = atL all a0 val (fun i => L.getD i false) s
  ch : Chain P F n all prot K post (envL all val (ordOf pre) env0) own an en
  sat : Sat (F :: own ++ plH cur bf pl) w
  kn : ∀ p it t, pre = p ++ it :: t → Kn P F n all prot env0 val an en own L bf p it
  un : ∀ it ∈ post, it.exec = true → L.getD it.ix false = false
  pr : ∃ Y, own.Perm (prot ++ Y)
  pn : pl.Nodup
  pm : ∀ i, i ∈ pl ↔ (.an i ∈ pre ∧ L.getD i false = true ∧ .rv i ∈ post)
  cu : ∀ i ∈ pl, ∀ vf ob, an i = some (vf, ob) → FinO (entsOf en (fun j => L.getD j false) all.size i) ob (cur i)
  ei : ∀ k x, en k = some x → .fi k x.1 ∈ pre
  ed : ∀ k l j dk kv xv dl kv' xv', en k = some (j, dk, kv, xv) → en l = some (j, dl, kv', xv') → k ≠ l → Instr.sameNow dk kv kv' = some false
  rq : ∀ j, .rv j ∈ pre → ∀ k x, en k = some x → x.1 = j → L.getD k false = true
end

section
variable {P : Program} {F : Heap} {n : Nat} {all : Array Oper} {prot : List Heap} {K : Env → List Heap → Prop} {its : List It} {env0 : Env} {a0 : Act} {ds : List Deferred}

theorem FinO.perm {e e' : List (Value × Value)} {ob o : Obj} (h : FinO e ob o) (p : e.Perm e') : FinO e' ob o := by
  cases ob with
  | map es0 c0 =>
    obtain ⟨es, clk, rfl, h2⟩ := h
    exact ⟨es, clk, rfl, h2.trans (p.append_left _)⟩
  | _ => exact h
theorem filterMap_cg {α β : Type} {f g : α → Option β} : ∀ {l : List α}, (∀ k ∈ l, f k = g k) → l.filterMap f = l.filterMap g
  | [], _ => rfl
  | a :: l, h => by
    rw [List.filterMap_cons, List.filterMap_cons, h a (List.mem_cons_self ..), filterMap_cg fun k hk => h k (List.mem_cons_of_mem _ hk)]
theorem filterMap_one {α β : Type} [DecidableEq α] {f g : α → Option β} {i : α} : ∀ {l : List α}, l.Nodup → i ∈ l → f i = none → (∀ k ∈ l, k ≠ i → g k = f k) → (l.filterMap g).Perm (l.filterMap f ++ (g i).toList)
  | [], _, hi, _, _ => by cases hi
  | a :: l, hn, hi, hf, hg => by
    have hn' := List.nodup_cons.1 hn
    by_cases e : a = i
    · subst e
      have h2 : l.filterMap g = l.filterMap f := filterMap_cg fun k hk => hg k (List.mem_cons_of_mem _ hk) fun e => by subst e; exact hn'.1 hk
      rw [List.filterMap_cons, List.filterMap_cons, hf, h2]
      cases g a with
      | none => simp
      | some b => simpa using (List.perm_append_comm (l₁ := [b]) (l₂ := l.filterMap f))
    · have hi' : i ∈ l := by
        rcases List.mem_cons.1 hi with h | h
        · exact (e h.symm).elim
        · exact h
      have ih := filterMap_one (f := f) (g := g) hn'.2 hi' hf fun k hk => hg k (List.mem_cons_of_mem _ hk)
      rw [List.filterMap_cons, List.filterMap_cons, hg a (List.mem_cons_self ..) e]
      cases f a with
      | none => exact ih
      | some b => exact ih.cons b
def entAt (en : En) (L : Nat → Bool) (j k : Nat) : Option (Value × Value) := match L k, en k with
  | true, some (j', _, kv, xv) => if j' = j then some (kv, xv) else none
  | _, _ => none
theorem entsOf_eq (en : En) (L : Nat → Bool) (N j : Nat) : entsOf en L N j = (List.range N).filterMap (entAt en L j) := rfl
theorem entsOf_set {en : En} {L : Array Bool} {N i j : Nat} (hi : i < N) (hil : i < L.size) (hL : L.getD i false = false) :
    (entsOf en (fun k => (L.setIfInBounds i true).getD k false) N j).Perm (entsOf en (fun k => L.getD k false) N j ++ (match en i with | some (j', _, kv, xv) => (if j' = j then [(kv, xv)] else []) | none => [])) := by
  have h := filterMap_one (f := entAt en (fun k => L.getD k false) j) (g := entAt en (fun k => (L.setIfInBounds i true).getD k false) j) (i := i) List.nodup_range (List.mem_range.2 hi) (by simp only [entAt, hL]) fun k _ hk => by
    simp only [entAt, getD_set hil, if_neg hk]
  rw [entsOf_eq, entsOf_eq]
  refine h.trans (List.Perm.append_left _ ?_)
  have : entAt en (fun k => (L.setIfInBounds i true).getD k false) j i = (match en i with | some (j', _, kv, xv) => (if j' = j then some (kv, xv) else none) | none => none) := by
    simp only [entAt, getD_set hil, if_true]
    cases en i with
    | none => rfl
    | some x => rfl
  rw [this]
  cases en i with
  | none => exact List.Perm.refl _
  | some x =>
    obtain ⟨j', dd, kv, xv⟩ := x
    by_cases e : j' = j <;> simp [e]
theorem entsOf_congr {en en' : En} {L L' : Nat → Bool} {N j : Nat} (h : ∀ k, entAt en L j k = entAt en' L' j k) : entsOf en L N j = entsOf en' L' N j := by
  rw [entsOf_eq, entsOf_eq]; exact filterMap_cg fun k _ => h k
theorem entsOf_nil {en : En} {L : Nat → Bool} {N j : Nat} (h : ∀ k, entAt en L j k = none) : entsOf en L N j = [] := by
  rw [entsOf_eq, List.filterMap_eq_nil_iff]; exact fun k _ => h k
theorem ex_notin (ho : ItsOk all its) {p t : List It} {it : It} (e : its = p ++ it :: t) (hx : it.exec = true) : it.ix ∉ exOf p ∧ it.ix ∉ exOf t := by
  have h := ho.exNodup
  rw [e, exOf_append] at h
  have e2 : exOf (it :: t) = it.ix :: exOf t := by simp [exOf, hx]
  rw [e2] at h
  obtain ⟨h1, h2, h3⟩ := List.nodup_append.1 h
  exact ⟨fun hp => h3 _ hp _ (List.mem_cons_self ..) rfl, (List.nodup_cons.1 h2).1⟩
/-- What is laid ahead of a place was done ahead of it. -/
theorem ord_ex (ho : ItsOk all its) {p t : List It} (e : its = p ++ t) {x : Nat} (hx : x ∈ ordOf p) : ∃ p1 it p2, p = p1 ++ it :: p2 ∧ it.exec = true ∧ it.ix = x := by
  obtain ⟨p1, it, p2, rfl, hs, rfl⟩ := ordOf_mem hx
  cases it with
  | rv i =>
    have hc := (ho.c2 p1 i (p2 ++ t) (by rw [e]; simp)).2
    obtain ⟨p3, p4, rfl⟩ := List.append_of_mem hc
    exact ⟨p3, .an i, p4 ++ .rv i :: p2, by simp, rfl, rfl⟩
  | q i => exact ⟨p1, _, p2, rfl, rfl, rfl⟩
  | f i => exact ⟨p1, _, p2, rfl, rfl, rfl⟩
  | r i => exact ⟨p1, _, p2, rfl, rfl, rfl⟩
  | an i => cases hs
  | h c i => exact ⟨p1, _, p2, rfl, rfl, rfl⟩
  | fi i j => exact ⟨p1, _, p2, rfl, rfl, rfl⟩
theorem ord_notin (ho : ItsOk all its) {p t : List It} {it : It} (e : its = p ++ it :: t) (hx : it.exec = true) : it.ix ∉ ordOf p := fun h => by
  obtain ⟨p1, it', p2, rfl, hx', e'⟩ := ord_ex ho e h
  exact (ex_notin ho e hx).1 (by rw [← e', exOf_append]; exact List.mem_append.2 (.inr (mem_exOf (List.mem_cons_self ..) hx')))
theorem asc_prefix (ho : ItsOk all its) {p t : List It} (e : its = p ++ t) : AscW all (ordOf p) := by
  have := ho.asc; rw [e, ordOf_append] at this; exact (List.pairwise_append.1 this).1
theorem lt_prefix (ho : ItsOk all its) {p t : List It} (e : its = p ++ t) : ∀ i ∈ ordOf p, i < all.size := fun i hi => ho.ordLt i (by rw [e, ordOf_append]; exact List.mem_append.2 (.inl hi))

theorem has_prefix (ho : ItsOk all its) (hdst : ∀ (i d : Nat), (all[i]?).bind (·.dst) = some d → d < n) (ha0 : Has n env0 a0) {p t : List It} (e : its = p ++ t) {val : Nat → Value} {a : Act} (hsz : a.tmps.size = n)
    (ht : ∀ s, s < n → a.tmps[s]? = atL all a0 val (fun j => (ordOf p).contains j) s) : Has n (envL all val (ordOf p) env0) a := by
  refine ⟨hsz, fun s u hu => ?_⟩
  rw [look_envL _ (asc_prefix ho e) (lt_prefix ho e)] at hu
  by_cases hs : s < n
  · rw [ht s hs]
    simp only [atL]
    cases hl : lastW all (fun j => (ordOf p).contains j) s all.size with
    | some j => rw [hl] at hu; exact hu
    | none => rw [hl] at hu; exact ha0.get s u hu
  · exfalso
    cases hl : lastW all (fun j => (ordOf p).contains j) s all.size with
    | some j => exact hs (hdst j s (lastW_isW hl).2.1)
    | none =>
      rw [hl] at hu
      have := ha0.get s u hu
      rw [Array.getElem?_eq_none (by rw [ha0.size]; omega)] at this; cases this

/-- A frame that has what the place of an operation has laid ahead of it. -/
theorem ci_frame (hok : dok all = true) (ho : ItsOk all its) (hdst : ∀ (i d : Nat), (all[i]?).bind (·.dst) = some d → d < n) (ha0 : Has n env0 a0) {L : Array Bool} {a : Act} {val : Nat → Value}
    (s2 : a.tmps.size = n) (s4 : ∀ i o, L.getD i false = true → all[i]? = some o → ∀ e ∈ o.after, Region.binds .any e = true → L.getD e.on false = true)
    (sl : ∀ s, s < n → a.tmps[s]? = atL all a0 val (fun i => L.getD i false) s) {p t : List It} {it : It} (e : its = p ++ it :: t) (hx : it.exec = true) {o : Oper} (hio : all[it.ix]? = some o)
    (hnl : L.getD it.ix false = false) (hready : ∀ j, Pre all j it.ix → L.getD j false = true) :
    ∃ a'', Has n (envL all val (ordOf p) env0) a'' ∧ ∀ s ∈ o.looksAt all, (∀ i j, it = .fi i j → (all[j]?).bind (·.dst) ≠ some s) → a.tmps[s]? = a''.tmps[s]? := by
  have hlisted : ∀ j k, Pre all j k → L.getD k false = true → L.getD j false = true := fun j k hj => hj.listed (L := fun j => L.getD j false) s4
  have hsame : ∀ s ∈ readsOf all o, (∀ i j, it = .fi i j → (all[j]?).bind (·.dst) ≠ some s) → lastW all (fun j => L.getD j false) s all.size = lastW all (fun j => (ordOf p).contains j) s all.size := by
    intro s hs hns
    refine lastW_congr fun j hj hw => ?_
    by_cases ej : j = it.ix
    · rw [ej, hnl]; symm; simpa using ord_notin ho e hx
    · rcases dok_spec hok hio hs hw ej with ⟨g1, g2⟩ | ⟨g1, g2⟩
      · rw [hready j g2]; symm
        rcases ho.lin p it t e hx j g2 with g3 | ⟨i, g3⟩
        · simpa using g3
        · exact (hns i j g3 hw).elim
      · have hf1 : L.getD j false = false := by
          cases hy : L.getD j false with
          | false => rfl
          | true => have := hlisted _ j g2 hy; rw [hnl] at this; cases this
        have hf2 : j ∉ ordOf p := fun hjp => by
          obtain ⟨p1, it', p2, rfl, hx', rfl⟩ := ord_ex ho e hjp
          rcases ho.lin p1 it' (p2 ++ it :: t) (by rw [e]; simp) hx' _ g2 with this | ⟨i, this⟩
          · exact ord_notin ho e hx (by rw [ordOf_append]; exact List.mem_append.2 (.inl this))
          · -- 'it' is the map of one that is announced ahead of it
            subst this
            have h5 := (ho.c5 p1 i it.ix (p2 ++ it :: t) (by rw [e]; simp)).1
            exact (ex_notin ho e hx).1 (by rw [exOf_append]; exact List.mem_append.2 (.inl (mem_exOf (it := .an it.ix) h5 rfl)))
        rw [hf1]; symm; simpa using hf2
  refine ⟨{ tmps := Array.ofFn (n := n) fun s => (atL all a0 val (fun j => (ordOf p).contains j) s.val).getD undef, defers := [] }, ?_, ?_⟩
  all_goals
    have hat : ∀ s, s < n → (Array.ofFn (n := n) fun s => (atL all a0 val (fun j => (ordOf p).contains j) s.val).getD undef)[s]? = atL all a0 val (fun j => (ordOf p).contains j) s := by
      intro s hs
      rw [Array.getElem?_eq_getElem (by simpa using hs)]
      simp only [Array.getElem_ofFn]
      simp only [atL]
      cases hl : lastW all (fun j => (ordOf p).contains j) s all.size with
      | some j => rfl
      | none =>
        simp only []
        rw [Array.getElem?_eq_getElem (by rw [ha0.size]; exact hs)]; rfl
  · exact has_prefix ho hdst ha0 (t := it :: t) e (by simp) hat
  · intro s hs hns
    by_cases hsn : s < n
    · rw [sl s hsn]
      show _ = (Array.ofFn (n := n) fun s => (atL all a0 val (fun j => (ordOf p).contains j) s.val).getD undef)[s]?
      rw [hat s hsn]
      simp only [atL]
      rw [hsame s (List.mem_append.2 (.inl hs)) hns]
    · have hge : n ≤ s := Nat.not_lt.1 hsn
      rw [Array.getElem?_eq_none (by rw [s2]; exact hge), Array.getElem?_eq_none (by simpa using hge)]

/-- The slots behind an operation. -/
theorem ci_slots (hok : dok all = true) {L : Array Bool} {a : Act} {val : Nat → Value} {i : Nat} {o : Oper}
    (s2 : a.tmps.size = n) (s4 : ∀ i o, L.getD i false = true → all[i]? = some o → ∀ e ∈ o.after, Region.binds .any e = true → L.getD e.on false = true)
    (sl : ∀ s, s < n → a.tmps[s]? = atL all a0 val (fun i => L.getD i false) s) (hio : all[i]? = some o) (hilt : i < L.size) (hsz : L.size = all.size) (hnl : L.getD i false = false)
    (val' : Nat → Value) (u : Value) (hu : val' i = u) (hsm : ∀ j, L.getD j false = true → val' j = val j) : ∀ s, s < n → (a.put o.dst u).tmps[s]? = atL all a0 val' (fun j => (L.setIfInBounds i true).getD j false) s := by
  have hlisted : ∀ j k, Pre all j k → L.getD k false = true → L.getD j false = true := fun j k hj => hj.listed (L := fun j => L.getD j false) s4
  intro s hs
  by_cases hd : o.dst = some s
  · have hmem : s ∈ readsOf all o := List.mem_append.2 (.inr (by rw [hd]; simp))
    have hl : lastW all (fun j => (L.setIfInBounds i true).getD j false) s all.size = some i := by
      rw [lastW_none_above (i := i + 1) (by omega) (L := fun j => (L.setIfInBounds i true).getD j false) (fun j g1 g2 g3 g4 => ?_)]
      · simp only [lastW, getD_set hilt, if_true, Bool.true_and, hio, Option.bind_some, hd]; simp
      · rw [getD_set hilt, if_neg (by omega)] at g3
        rcases dok_spec hok hio hmem g4 (by omega) with ⟨g5, g6⟩ | ⟨g5, g6⟩
        · omega
        · have := hlisted i j g6 g3
          rw [hnl] at this; cases this
    simp only [atL, hl]
    rw [hd, hu]
    simp only [Act.put]
    simp [s2, hs]
  · have hl : lastW all (fun j => (L.setIfInBounds i true).getD j false) s all.size = lastW all (fun j => L.getD j false) s all.size := by
      refine lastW_congr fun j hj hw => ?_
      rw [getD_set hilt]
      by_cases e : j = i
      · subst e; rw [hio] at hw; exact absurd hw hd
      · rw [if_neg e]
    have h7s := sl s hs
    have hput : (a.put o.dst u).tmps[s]? = a.tmps[s]? := by
      cases hd' : o.dst with
      | none => rfl
      | some d =>
        have : d ≠ s := fun e => hd (e ▸ hd')
        simp only [Act.put]
        rw [Array.getElem?_setIfInBounds_ne this]
    rw [hput, h7s]
    simp only [atL, hl]
    cases hlw : lastW all (fun j => L.getD j false) s all.size with
    | none => rfl
    | some j => simp only []; rw [hsm j (lastW_isW hlw).1]

theorem atL_congr {val val' : Nat → Value} {L : Array Bool} (h : ∀ j, L.getD j false = true → val' j = val j) (s : Nat) : atL all a0 val (fun i => L.getD i false) s = atL all a0 val' (fun i => L.getD i false) s := by
  simp only [atL]
  cases hl : lastW all (fun j => L.getD j false) s all.size with
  | none => rfl
  | some j => simp only []; rw [h j (lastW_isW hl).1]
/-- What is known of an item stays known, whatever else comes to be known. -/
theorem Kn.congr {val val' : Nat → Value} {an an' : An} {en en' : En} {own own' : List Heap} {L : Array Bool} {bf : Nat → Nat} {p : List It} {it : It} (h : Kn P F n all prot env0 val an en own L bf p it)
    (hv : ∀ j ∈ ordOf p, val' j = val j) (hi : val' it.ix = val it.ix) (ha : an' it.ix = an it.ix) (haj : ∀ i j, it = .fi i j → an' j = an j ∧ en' i = en i) (ho : ∃ N, own'.Perm (own ++ N)) : Kn P F n all prot env0 val' an' en' own' L bf p it := by
  have he : envL all val' (ordOf p) env0 = envL all val (ordOf p) env0 := envL_congr hv
  cases it with
  | q i =>
    obtain ⟨o, hsub, h1, h2, h3⟩ := h
    refine ⟨o, hsub, h1, by rw [he, show val' i = val i from hi]; exact h2, fun hl => ?_⟩
    obtain ⟨Y, hY⟩ := h3 hl
    obtain ⟨N, hN⟩ := ho
    exact ⟨Y ++ N, by rw [← List.append_assoc]; exact hN.trans (hY.append_right N)⟩
  | f i =>
    obtain ⟨o, h1, h2⟩ := h
    exact ⟨o, h1, by rw [he, show val' i = val i from hi]; exact h2⟩
  | r i =>
    obtain ⟨o, h1, h2⟩ := h
    exact ⟨o, h1, by rw [he, show val' i = val i from hi]; exact h2⟩
  | an i =>
    obtain ⟨o, vf, ob, h1, h2, h3, h4, h5⟩ := h
    exact ⟨o, vf, ob, h1, by rw [he]; exact h2, by rw [he]; exact h3, (show an' i = an i from ha).trans h4, fun hl => (show val' i = val i from hi).trans (h5 hl)⟩
  | rv i => exact h
  | h c m => exact h
  | fi i j =>
    obtain ⟨dd, kv, xv, en0, h1, h2⟩ := h
    obtain ⟨a1, a2⟩ := haj i j rfl
    obtain ⟨o, t, d, k, x, kt, et, vf, g1, g2, g3, g4, g5, g6, g7, g8, g9, g10, g11, g12, g13, g14, g15, g16⟩ := h1.ex
    exact ⟨dd, kv, xv, en0, ⟨o, t, d, k, x, kt, et, vf, g1, g2, g3, g4, g5, g6, g7, g8, by rw [he]; exact g9, by rw [he]; exact g10, g11, g12, g13, a1.trans g14, g15, g16⟩, a2.trans h2⟩

theorem snoc_split {pre p t : List It} {x it : It} (h : pre ++ [x] = p ++ it :: t) : (∃ t', pre = p ++ it :: t') ∨ (p = pre ∧ it = x ∧ t = []) := by
  rcases List.eq_nil_or_concat t with rfl | ⟨t', y, rfl⟩
  · obtain ⟨h1, h2⟩ := List.append_inj' h rfl
    simp only [List.cons.injEq, and_true] at h2
    exact .inr ⟨h1.symm, h2.symm, rfl⟩
  · left
    rw [List.concat_eq_append, ← List.cons_append, ← List.append_assoc] at h
    exact ⟨t', (List.append_inj' h rfl).1⟩
/-- What stands behind is not listed, or is waited for. -/
def Stuck (en : En) (L : Array Bool) : List It → Prop
  | [] => True
  | .h _ _ :: _ => True
  | .rv i :: _ => L.getD i false = false ∨ ∃ k x, en k = some x ∧ x.1 = i ∧ L.getD k false = false
  | _ => False
theorem plH_congr {cur cur' : Nat → Obj} {bf bf' : Nat → Nat} {pl : List Nat} (h : ∀ i ∈ pl, cur' i = cur i ∧ bf' i = bf i) : plH cur' bf' pl = plH cur bf pl := by
  unfold plH
  refine List.map_congr_left fun i hi => ?_
  rw [(h i hi).1, (h i hi).2]

theorem advance (ho : ItsOk all its) {L : Array Bool} {a : Act} {w : World} {bf : Nat → Nat} {cur : Nat → Obj} : ∀ {post pre : List It} {val : Nat → Value} {own : List Heap} {an : An} {en : En} {pl : List Nat}, CI P F n all prot K its env0 a0 ds pre post val own an en cur bf pl L a w →
    ∃ pre' post' val' own' an' en' pl', CI P F n all prot K its env0 a0 ds pre' post' val' own' an' en' cur bf pl' L a w ∧ Stuck en' L post' := by
  intro post
  induction post with
  | nil => intro pre val own an en pl h; exact ⟨_, _, _, _, _, _, _, h, trivial⟩
  | cons it r ih =>
    intro pre val own an en pl h
    have hu := h.un it (List.mem_cons_self ..)
    have hun : ∀ x ∈ r, x.exec = true → L.getD x.ix false = false := fun x hx => h.un x (List.mem_cons_of_mem _ hx)
    have he : its = (pre ++ [it]) ++ r := by rw [h.e]; simp
    have hi : it.sets = true → it.ix ∉ ordOf pre := fun hs hm => by
      have := ho.ordNodup
      rw [h.e, ordOf_append] at this
      refine (List.nodup_append.1 this).2.2 _ hm it.ix ?_ rfl
      simp [ordOf, hs]
    -- a quiet one
    have quiet : ∀ (i : Nat) (o : Oper) (v : Value) (hx : it.exec = true) (hix : it.ix = i) (hs : it.sets = true), (∀ i, it ≠ .rv i) → (∀ i, it ≠ .an i) → Chain P F n all prot K r (extE all i v (envL all val (ordOf pre) env0)) own an en →
        (∀ val' : Nat → Value, val' i = v → (∀ j, j ≠ i → val' j = val j) → Kn P F n all prot env0 val' an en own L bf pre it) →
        ∃ pre' post' val' own' an' en' pl', CI P F n all prot K its env0 a0 ds pre' post' val' own' an' en' cur bf pl' L a w ∧ Stuck en' L post' := by
      intro i o v hx hix hs hnr hna hch hkn
      have hnl : L.getD i false = false := hix ▸ hu hx
      have hi' : i ∉ ordOf pre := hix ▸ hi hs
      let val' : Nat → Value := fun j => if j = i then v else val j
      have v1 : val' i = v := by simp [val']
      have v2 : ∀ j, j ≠ i → val' j = val j := fun j hj => by simp only [val']; rw [if_neg hj]
      have vL : ∀ j, L.getD j false = true → val' j = val j := fun j hj => v2 j fun e => by rw [e, hnl] at hj; cases hj
      have vp : ∀ j ∈ ordOf pre, val' j = val j := fun j hj => v2 j fun e => hi' (e ▸ hj)
      refine ih (pre := pre ++ [it]) (val := val') (own := own) (an := an) (en := en) (pl := pl) ⟨h.s1, h.s2, h.s3, h.s4, he, fun s hs => ?_, ?_, h.sat, fun p jt t hp => ?_, hun, h.pr, h.pn, fun j => ?_, h.cu, fun k x hk => List.mem_append.2 (.inl (h.ei k x hk)), h.ed, fun j hj => h.rq j ((List.mem_append.1 hj).resolve_right fun e => hnr j (List.mem_singleton.1 e).symm)⟩
      · rw [h.sl s hs, atL_congr vL]
      · have e1 : ordOf (pre ++ [it]) = ordOf pre ++ [i] := by rw [ordOf_append]; simp [ordOf, hs, hix]
        rw [e1, envL_one, v1, envL_congr vp]; exact hch
      · rcases snoc_split hp with ⟨t', rfl⟩ | ⟨rfl, rfl, -⟩
        · refine (h.kn p jt t' rfl).congr (fun j hj => vp j (by rw [ordOf_append]; exact List.mem_append.2 (.inl hj))) (v2 _ fun e => ?_) rfl (fun _ _ _ => ⟨rfl, rfl⟩) ⟨[], by simp⟩
          by_cases hjx : jt.exec = true
          · refine (ex_notin ho (p := p ++ jt :: t') (t := r) (it := it) (by rw [h.e]) hx).1 ?_
            rw [hix, ← e]; exact mem_exOf (by simp) hjx
          · cases jt with
            | rv k => exact hi' (by rw [← e]; exact mem_ordOf (it := .rv k) (by simp) rfl)
            | _ => exact absurd rfl hjx
        · exact hkn val' v1 v2
      · rw [h.pm j]
        refine ⟨fun ⟨g1, g2, g3⟩ => ⟨List.mem_append.2 (.inl g1), g2, ?_⟩, fun ⟨g1, g2, g3⟩ => ⟨?_, g2, List.mem_cons_of_mem _ g3⟩⟩
        · rcases List.mem_cons.1 g3 with g3 | g3
          · exact absurd g3.symm (hnr j)
          · exact g3
        · rcases List.mem_append.1 g1 with g1 | g1
          · exact g1
          · exact absurd (List.mem_singleton.1 g1).symm (hna j)
    cases it with
    | q i =>
      obtain ⟨o, v, h1, h2, h3⟩ := h.ch
      refine quiet i o v rfl rfl rfl (fun _ e => by cases e) (fun _ e => by cases e) h3 fun val' v1 v2 => ⟨o, own, h1, ?_, fun _ => ⟨[], by simp⟩⟩
      rw [v1, envL_congr fun j hj => v2 j fun e => hi rfl (e ▸ hj)]; exact h2
    | f i =>
      obtain ⟨o, v, h1, h2, h3⟩ := h.ch
      refine quiet i o v rfl rfl rfl (fun _ e => by cases e) (fun _ e => by cases e) h3 fun val' v1 v2 => ⟨o, h1, ?_⟩
      rw [v1, envL_congr fun j hj => v2 j fun e => hi rfl (e ▸ hj)]; exact h2
    | r i =>
      obtain ⟨o, v, h1, h2, h3⟩ := h.ch
      refine quiet i o v rfl rfl rfl (fun _ e => by cases e) (fun _ e => by cases e) h3 fun val' v1 v2 => ⟨o, h1, ?_⟩
      rw [v1, envL_congr fun j hj => v2 j fun e => hi rfl (e ▸ hj)]; exact h2
    | an i =>
      obtain ⟨o, vf, ob, h1, h2, h3, h4⟩ := h.ch
      have hnl : L.getD i false = false := hu rfl
      have ha : ∀ j, j ≠ i → putA an i (vf, ob) j = an j := fun j hj => by simp only [putA]; rw [if_neg hj]
      have hpl : ∀ j ∈ pl, j ≠ i := fun j hj e => by have := ((h.pm j).1 hj).2.1; rw [e, hnl] at this; cases this
      refine ih (pre := pre ++ [.an i]) (val := val) (own := own) (an := putA an i (vf, ob)) (en := en) (pl := pl) ⟨h.s1, h.s2, h.s3, h.s4, he, h.sl, ?_, h.sat, fun p jt t hp => ?_, hun, h.pr, h.pn, fun j => ?_, fun j hj vf2 ob2 ha2 => h.cu j hj vf2 ob2 (by rw [ha j (hpl j hj)] at ha2; exact ha2), fun k x hk => List.mem_append.2 (.inl (h.ei k x hk)), h.ed, fun j hj => h.rq j ((List.mem_append.1 hj).resolve_right fun e => by cases List.mem_singleton.1 e)⟩
      · have e1 : ordOf (pre ++ [.an i]) = ordOf pre := by rw [ordOf_append]; simp [ordOf, It.sets]
        rw [e1]; exact h4
      · rcases snoc_split hp with ⟨t', rfl⟩ | ⟨rfl, rfl, -⟩
        · have haj : ∀ i2 j2, jt = .fi i2 j2 → putA an i (vf, ob) j2 = an j2 ∧ en i2 = en i2 := fun i2 j2 e2 => by
            subst e2
            refine ⟨ha j2 fun e3 => ?_, rfl⟩
            subst e3
            have h5 := (ho.c5 p i2 j2 (t' ++ .an j2 :: r) (by rw [h.e]; simp)).1
            exact (ex_notin ho (p := p ++ .fi i2 j2 :: t') (t := r) (it := .an j2) (by rw [h.e]) rfl).1 (by rw [exOf_append]; exact List.mem_append.2 (.inl (mem_exOf (it := .an j2) h5 rfl)))
          by_cases ej : jt.ix = i
          · by_cases hjx : jt.exec = true
            · exfalso
              refine (ex_notin ho (p := p ++ jt :: t') (t := r) (it := .an i) (by rw [h.e]) rfl).1 ?_
              rw [show (It.an i).ix = i from rfl, ← ej]; exact mem_exOf (by simp) hjx
            · cases jt with
              | rv k => exact h.kn p (.rv k) t' rfl
              | _ => exact absurd rfl hjx
          · exact (h.kn p jt t' rfl).congr (fun _ _ => rfl) rfl (ha _ ej) haj ⟨[], by simp⟩
        · exact ⟨o, vf, ob, h1, h2, h3, by simp [putA], fun hl => by rw [hnl] at hl; cases hl⟩
      · rw [h.pm j]
        refine ⟨fun ⟨g1, g2, g3⟩ => ⟨List.mem_append.2 (.inl g1), g2, ?_⟩, fun ⟨g1, g2, g3⟩ => ⟨?_, g2, List.mem_cons_of_mem _ g3⟩⟩
        · rcases List.mem_cons.1 g3 with g3 | g3
          · cases g3
          · exact g3
        · rcases List.mem_append.1 g1 with g1 | g1
          · exact g1
          · have := List.mem_singleton.1 g1
            cases this; rw [hnl] at g2; cases g2
    | fi i j =>
      obtain ⟨dd, kv, xv, h1, h2⟩ := h.ch
      have hnl : L.getD i false = false := hu rfl
      have hni : i ∉ exOf pre := (ex_notin ho h.e rfl).1
      have hen : en i = none := by
        cases e : en i with
        | none => rfl
        | some x => exact (hni (mem_exOf (it := .fi i x.1) (h.ei i x e) rfl)).elim
      have e2 : ∀ k, k ≠ i → putE en i (j, dd, kv, xv) k = en k := fun k hk => by simp only [putE]; rw [if_neg hk]
      have e3 : putE en i (j, dd, kv, xv) i = some (j, dd, kv, xv) := by simp [putE]
      have hdst : (all[i]?).bind (·.dst) = none := by
        obtain ⟨o, t, d, k, x, kt, et, vf, g1, g2, g3, -⟩ := h1.ex
        rw [g1]; exact g3
      have henv : ∀ l : List Nat, envL all val (l ++ [i]) env0 = envL all val l env0 := fun l => by rw [envL_one]; simp only [extE, hdst]
      obtain ⟨o1, t1, d1, k1, x1, kt1, et1, vf1, q1, q2, q3, q4, q5, q6, q7, q8, q9, q10, q11, q12, q13, q14, q15, q16⟩ := h1.ex
      have hpl : ∀ l ∈ pl, entsOf (putE en i (j, dd, kv, xv)) (fun k => L.getD k false) all.size l = entsOf en (fun k => L.getD k false) all.size l := fun l _ => entsOf_congr fun k => by
        by_cases ek : k = i
        · subst ek; simp only [entAt, hnl]
        · simp only [entAt, e2 k ek]
      refine ih (pre := pre ++ [.fi i j]) (val := val) (own := own) (an := an) (en := putE en i (j, dd, kv, xv)) (pl := pl) ⟨h.s1, h.s2, h.s3, h.s4, he, h.sl, ?_, h.sat, fun p jt t hp => ?_, hun, h.pr, h.pn, fun l => ?_, fun l hl vf ob ha => by rw [hpl l hl]; exact h.cu l hl vf ob ha, fun k x hk => ?_, fun k l j' dk kv1 xv1 dl kv2 xv2 hk hl hne => ?_, fun l hl k x hk hx => ?_⟩
      · have e1 : ordOf (pre ++ [.fi i j]) = ordOf pre ++ [i] := by rw [ordOf_append]; rfl
        rw [e1, henv]; exact h2
      · rcases snoc_split hp with ⟨t', rfl⟩ | ⟨rfl, rfl, -⟩
        · refine (h.kn p jt t' rfl).congr (fun _ _ => rfl) rfl rfl (fun i2 j2 e4 => ⟨rfl, e2 i2 fun e5 => ?_⟩) ⟨[], by simp⟩
          subst e4; subst e5
          exact hni (mem_exOf (it := .fi i2 j2) (by simp) rfl)
        · exact ⟨dd, kv, xv, en, h1, e3⟩
      · rw [h.pm l]
        refine ⟨fun ⟨g1, g2, g3⟩ => ⟨List.mem_append.2 (.inl g1), g2, ?_⟩, fun ⟨g1, g2, g3⟩ => ⟨?_, g2, List.mem_cons_of_mem _ g3⟩⟩
        · rcases List.mem_cons.1 g3 with g3 | g3
          · cases g3
          · exact g3
        · rcases List.mem_append.1 g1 with g1 | g1
          · exact g1
          · cases List.mem_singleton.1 g1
      · by_cases ek : k = i
        · subst ek; rw [e3] at hk; cases hk; simp
        · rw [e2 k ek] at hk; exact List.mem_append.2 (.inl (h.ei k x hk))
      · by_cases ek : k = i
        · subst ek
          rw [e3] at hk; cases hk
          rw [e2 l (Ne.symm hne)] at hl
          exact (q16 l dl kv2 xv2 hl).1
        · rw [e2 k ek] at hk
          by_cases el : l = i
          · subst el
            rw [e3] at hl; cases hl
            exact (q16 k dk kv1 xv1 hk).2
          · rw [e2 l el] at hl
            exact h.ed k l j' dk kv1 xv1 dl kv2 xv2 hk hl hne
      · have hl' : .rv l ∈ pre := (List.mem_append.1 hl).resolve_right fun e => by cases List.mem_singleton.1 e
        by_cases ek : k = i
        · subst ek
          rw [e3] at hk; cases hk
          obtain ⟨p5, p6, hp56⟩ := List.append_of_mem hl'
          have hx' : j = l := hx
          subst hx'
          exact ((ho.c4 p5 j (p6 ++ .fi k j :: r) (by rw [h.e, hp56]; simp)).2 k (by simp)).elim
        · rw [e2 k ek] at hk; exact h.rq l hl' k x hk hx
    | rv i =>
      by_cases hW : L.getD i false = true ∧ ∀ k x, en k = some x → x.1 = i → L.getD k false = true
      · obtain ⟨hL, hW⟩ := hW
        obtain ⟨vf, ob, h1, h2⟩ := h.ch
        have hc := ho.c2 pre i r h.e
        obtain ⟨p3, p4, hp34⟩ := List.append_of_mem hc.2
        obtain ⟨o, vf', ob', k1, k2, k3, k4, k5⟩ := h.kn p3 (.an i) p4 hp34
        rw [h1] at k4; cases k4
        have hpi : i ∈ pl := (h.pm i).2 ⟨hc.2, hL, List.mem_cons_self ..⟩
        have hper : (plH cur bf pl).Perm (blk (bf i) (cur i) :: plH cur bf (pl.erase i)) := by
          have := (List.perm_cons_erase hpi).map (fun i => blk (bf i) (cur i))
          simp only [List.map_cons] at this
          exact this
        have hfin : FinO (entsOf en (fun _ => true) all.size i) ob (cur i) := by
          have := h.cu i hpi vf ob h1
          rw [entsOf_congr (L' := fun _ => true) (en' := en)] at this
          · exact this
          · intro k
            simp only [entAt]
            cases e : en k with
            | none => cases L.getD k false <;> rfl
            | some x =>
              by_cases ex : x.1 = i
              · rw [hW k x e ex]
              · obtain ⟨j', dd, kv, xv⟩ := x
                have : ¬ j' = i := ex
                cases L.getD k false <;> simp [this]
        refine ih (pre := pre ++ [.rv i]) (val := val) (own := blk (bf i) (cur i) :: own) (an := an) (en := en) (pl := pl.erase i) ⟨h.s1, h.s2, h.s3, h.s4, he, h.sl, ?_, ?_, fun p jt t hp => ?_, hun, (by obtain ⟨Y, hY⟩ := h.pr; exact ⟨blk (bf i) (cur i) :: Y, (hY.cons _).trans (List.perm_middle (a := blk (bf i) (cur i)) (l₁ := prot) (l₂ := Y)).symm⟩), h.pn.erase _, fun j => ?_, fun j hj => h.cu j (List.mem_of_mem_erase hj), fun k x hk => List.mem_append.2 (.inl (h.ei k x hk)), h.ed, fun j hj k x hk hx => by
          rcases List.mem_append.1 hj with hj | hj
          · exact h.rq j hj k x hk hx
          · cases List.mem_singleton.1 hj; exact hW k x hk hx⟩
        · have e1 : ordOf (pre ++ [.rv i]) = ordOf pre ++ [i] := by rw [ordOf_append]; rfl
          rw [e1, envL_one, k5 hL]; exact h2 (bf i) _ hfin
        · refine h.sat.perm ?_
          have := (hper.append_left (F :: own)).trans (List.perm_middle (a := blk (bf i) (cur i)) (l₁ := F :: own) (l₂ := plH cur bf (pl.erase i)))
          refine this.trans ?_
          simpa using List.Perm.swap F (blk (bf i) (cur i)) (own ++ plH cur bf (pl.erase i))
        · rcases snoc_split hp with ⟨t', rfl⟩ | ⟨rfl, rfl, -⟩
          · exact (h.kn p jt t' rfl).congr (fun _ _ => rfl) rfl rfl (fun _ _ _ => ⟨rfl, rfl⟩) ⟨[blk (bf i) (cur i)], by simpa using (List.perm_append_comm (l₁ := [blk (bf i) (cur i)]) (l₂ := own))⟩
          · exact hL
        · rw [List.Nodup.mem_erase_iff h.pn, h.pm j]
          constructor
          · rintro ⟨g0, g1, g2, g3⟩
            refine ⟨List.mem_append.2 (.inl g1), g2, ?_⟩
            rcases List.mem_cons.1 g3 with g3 | g3
            · cases g3; exact absurd rfl g0
            · exact g3
          · rintro ⟨g1, g2, g3⟩
            refine ⟨fun e => ?_, ?_, g2, List.mem_cons_of_mem _ g3⟩
            · subst e
              have := ho.ordNodup
              rw [he, ordOf_append] at this
              refine (List.nodup_append.1 this).2.2 j ?_ j (mem_ordOf (it := .rv j) g3 rfl) rfl
              exact mem_ordOf (it := .rv j) (by simp) rfl
            · rcases List.mem_append.1 g1 with g1 | g1
              · exact g1
              · cases List.mem_singleton.1 g1
      · refine ⟨_, _, _, _, _, _, _, h, ?_⟩
        show L.getD i false = false ∨ _
        cases hL : L.getD i false with
        | false => exact .inl rfl
        | true =>
          right
          refine Classical.byContradiction fun hno => hW ⟨hL, fun k x hk hx => ?_⟩
          cases hLk : L.getD k false with
          | true => rfl
          | false => exact (hno ⟨k, x, hk, hx, hLk⟩).elim
    | h c m => exact ⟨_, _, _, _, _, _, _, h, trivial⟩

end
end Go.SL.DM
