/- A region that draws its order, with operations that make blocks, such that turn memory one behind the other, and entries put into a new map in whatever order. -/
import Derived.Test.YtimmclibnfdjhaaSlG2
section
namespace Go.SL.DM
open Go.SL

/-- An operation that makes one block, of known contents. -/
def NewOp (P : Program) (n : Nat) (o : Oper) (env : Env) (vf : Nat → Value) (ob : Obj) : Prop :=
  plainOp o.op = true ∧ (∀ off, fzo ob off = false) ∧ ∀ a w, Has n env a → (execOp a.eval o).run P w = .ok (.value (vf w.heap.size)) { w with heap := w.heap.push ob }

/-- What is done with an operation: it is quiet; it looks at no memory; it looks at what stays as it is ('prot'); it makes a block (and the block is shown later); it turns memory (if it takes something away: 'true'). -/
inductive It
  | q (i : Nat)
  | f (i : Nat)
  | r (i : Nat)
  | an (i : Nat)
  | rv (i : Nat)
  | h (c : Bool) (m : Nat)
  | fi (i j : Nat)
def It.ix : It → Nat
  | .q i | .f i | .r i | .an i | .rv i | .h _ i | .fi i _ => i
def It.sets : It → Bool
  | .an _ => false
  | _ => true
def It.exec : It → Bool
  | .rv _ => false
  | _ => true
def ordOf (l : List It) : List Nat := (l.filter It.sets).map It.ix
def exOf (l : List It) : List Nat := (l.filter It.exec).map It.ix
theorem ordOf_append (l m : List It) : ordOf (l ++ m) = ordOf l ++ ordOf m := by simp [ordOf]
theorem exOf_append (l m : List It) : exOf (l ++ m) = exOf l ++ exOf m := by simp [exOf]
theorem ordOf_mem {l : List It} {x : Nat} (h : x ∈ ordOf l) : ∃ p it t, l = p ++ it :: t ∧ it.sets = true ∧ it.ix = x := by
  simp only [ordOf, List.mem_map, List.mem_filter] at h
  obtain ⟨it, ⟨h1, h2⟩, h3⟩ := h
  obtain ⟨p, t, e⟩ := List.append_of_mem h1
  exact ⟨p, it, t, e, h2, h3⟩
theorem exOf_mem {l : List It} {x : Nat} (h : x ∈ exOf l) : ∃ p it t, l = p ++ it :: t ∧ it.exec = true ∧ it.ix = x := by
  simp only [exOf, List.mem_map, List.mem_filter] at h
  obtain ⟨it, ⟨h1, h2⟩, h3⟩ := h
  obtain ⟨p, t, e⟩ := List.append_of_mem h1
  exact ⟨p, it, t, e, h2, h3⟩
theorem mem_exOf {l : List It} {it : It} (h : it ∈ l) (he : it.exec = true) : it.ix ∈ exOf l := by
  simp only [exOf, List.mem_map, List.mem_filter]; exact ⟨it, ⟨h, he⟩, rfl⟩
theorem mem_ordOf {l : List It} {it : It} (h : it ∈ l) (he : it.sets = true) : it.ix ∈ ordOf l := by
  simp only [ordOf, List.mem_map, List.mem_filter]; exact ⟨it, ⟨h, he⟩, rfl⟩

def isAn (i : Nat) : It → Bool
  | .an j => Nat.beq j i
  | _ => false
def isFi (j : Nat) : It → Bool
  | .fi _ k => Nat.beq k j
  | _ => false
def fiOk (bs : List Nat) (i : Nat) (l : List Nat) : It → Bool
  | .fi k j => !Nat.beq j i || l.all (fun x => (bs.getD x 0).testBit k)
  | _ => true
def fiE (k : Nat) (f : Nat → Bool) : It → Bool
  | .fi i j => !Nat.beq i k || f j
  | _ => true
def qOk (bs : List Nat) (m : Nat) : It → Bool
  | .q i => (bs.getD m 0).testBit i
  | _ => true
def itB (bs : List Nat) (pre r : List It) : It → Bool
  | .h c m => (exOf r).all (fun x => (bs.getD x 0).testBit m) && (!c || pre.all (qOk bs m))
  | .rv i => (exOf r).all (fun x => (bs.getD x 0).testBit i) && pre.any (isAn i) && pre.all (fiOk bs i (exOf r)) && r.all (fun it => !isFi i it)
  | .fi i j => pre.any (isAn j) && (bs.getD i 0).testBit j
  | _ => true
/-- May an item stand here, as far as one is concerned that is ahead of it? -/
def edgeB (pre : List It) (it : It) (k : Nat) : Bool := match it with
  | .fi _ j => Nat.beq k j || ((ordOf pre).contains k && pre.all (fiE k fun j' => Nat.beq j' j || (ordOf pre).contains j'))
  | _ => (ordOf pre).contains k && pre.all (fiE k fun j' => (ordOf pre).contains j')
def walkB (all : Array Oper) (bs : List Nat) : List It → List It → Bool
  | _, [] => true
  | pre, it :: r => (!it.exec || (match all[it.ix]? with
      | some o => o.after.toList.all fun e => !Region.binds .any e || edgeB pre it e.on
      | none => false)) && itB bs pre r it && walkB all bs (pre ++ [it]) r
theorem edgeB_ok {pre : List It} {it : It} {k : Nat} (h : edgeB pre it k = true) : (∃ i, it = .fi i k) ∨ (k ∈ ordOf pre ∧ ∀ j', .fi k j' ∈ pre → j' ∈ ordOf pre ∨ ∃ i, it = .fi i j') := by
  have fin : ∀ {f : Nat → Bool}, pre.all (fiE k f) = true → ∀ j', .fi k j' ∈ pre → f j' = true := fun {f} hh j' hj => by
    have := List.all_eq_true.1 hh _ hj
    simpa [fiE] using this
  unfold edgeB at h
  split at h
  · rename_i i j
    simp only [Bool.or_eq_true, Bool.and_eq_true] at h
    rcases h with h | ⟨h1, h2⟩
    · exact .inl ⟨i, by rw [Nat.eq_of_beq_eq_true h]⟩
    · refine .inr ⟨by simpa using h1, fun j' hj => ?_⟩
      have := fin h2 j' hj
      simp only [Bool.or_eq_true] at this
      rcases this with h3 | h3
      · exact .inr ⟨i, by rw [Nat.eq_of_beq_eq_true h3]⟩
      · exact .inl (by simpa using h3)
  · simp only [Bool.and_eq_true] at h
    exact .inr ⟨by simpa using h.1, fun j' hj => .inl (by simpa using fin h.2 j' hj)⟩
def itsOk (all : Array Oper) (its : List It) : Bool :=
  nodupB (exOf its) && nodupB (ordOf its) && (List.range all.size).all (fun i => (exOf its).contains i && (ordOf its).contains i) && (ordOf its).all (fun i => Nat.blt i all.size) &&
    ascL all (ordOf its) && walkB all (bits all.toList []) [] its

structure ItsOk (all : Array Oper) (its : List It) : Prop where
  exNodup : (exOf its).Nodup
  ordNodup : (ordOf its).Nodup
  exMem : ∀ i, i < all.size → i ∈ exOf its
  ordMem : ∀ i, i < all.size → i ∈ ordOf its
  ordLt : ∀ i ∈ ordOf its, i < all.size
  asc : AscW all (ordOf its)
  lin : ∀ p it t, its = p ++ it :: t → it.exec = true → ∀ k, Pre all k it.ix → k ∈ ordOf p ∨ ∃ i, it = .fi i k
  c1 : ∀ p c m t, its = p ++ .h c m :: t → ∀ x ∈ exOf t, Pre all m x
  c2 : ∀ p i t, its = p ++ .rv i :: t → (∀ x ∈ exOf t, Pre all i x) ∧ .an i ∈ p
  c4 : ∀ p i t, its = p ++ .rv i :: t → (∀ k, .fi k i ∈ p → ∀ x ∈ exOf t, Pre all k x) ∧ ∀ k, .fi k i ∉ t
  c5 : ∀ p i j t, its = p ++ .fi i j :: t → .an j ∈ p ∧ Pre all j i
  c3 : ∀ p m t, its = p ++ .h true m :: t → ∀ i, .q i ∈ p → Pre all i m

theorem walkB_at {all : Array Oper} {bs : List Nat} : ∀ {r pre : List It}, walkB all bs pre r = true → ∀ p it t, r = p ++ it :: t →
    (it.exec = true → ∀ o, all[it.ix]? = some o → ∀ e ∈ o.after, Region.binds .any e = true → edgeB (pre ++ p) it e.on = true) ∧ itB bs (pre ++ p) t it = true := by
  intro r
  induction r with
  | nil => intro pre _ p it t e; simp at e
  | cons x r ih =>
    intro pre h p it t e
    simp only [walkB, Bool.and_eq_true] at h
    cases p with
    | nil =>
      simp only [List.nil_append, List.cons.injEq] at e
      obtain ⟨rfl, rfl⟩ := e
      rw [List.append_nil]
      refine ⟨fun hx o ho ed hed hb => ?_, h.1.2⟩
      have h1 := h.1.1
      rw [hx, ho] at h1
      simp only [Bool.not_true, Bool.false_or, List.all_eq_true, Bool.or_eq_true, Bool.not_eq_true'] at h1
      rcases h1 ed (by simpa using hed) with h2 | h2
      · rw [hb] at h2; cases h2
      · exact h2
    | cons y p =>
      simp only [List.cons_append, List.cons.injEq] at e
      obtain ⟨rfl, rfl⟩ := e
      have := ih h.2 p it t rfl
      simpa [List.append_assoc] using this
theorem itsOk_spec {all : Array Oper} {its : List It} (h : itsOk all its = true) : ItsOk all its := by
  simp only [itsOk, Bool.and_eq_true] at h
  obtain ⟨⟨⟨⟨⟨h1, h2⟩, h3⟩, h4⟩, h5⟩, h6⟩ := h
  have hw := fun p it t e => by
    have := walkB_at h6 p it t e
    rw [List.nil_append] at this; exact this
  have hx : ∀ i, i < all.size → i ∈ exOf its ∧ i ∈ ordOf its := fun i hi => by
    have := List.all_eq_true.1 h3 i (List.mem_range.2 hi)
    simpa using this
  have c2 : ∀ p i t, its = p ++ .rv i :: t → (∀ x ∈ exOf t, Pre all i x) ∧ .an i ∈ p := fun p i t e => by
    have := (hw p _ t e).2
    simp only [itB, Bool.and_eq_true, List.all_eq_true, List.any_eq_true] at this
    refine ⟨fun x hx => bits_pre (this.1.1.1 x hx), ?_⟩
    obtain ⟨it, hit, hb⟩ := this.1.1.2
    cases it with
    | an j => simp only [isAn] at hb; rw [Nat.eq_of_beq_eq_true hb] at hit; exact hit
    | _ => cases hb
  have c4 : ∀ p i t, its = p ++ .rv i :: t → (∀ k, .fi k i ∈ p → ∀ x ∈ exOf t, Pre all k x) ∧ ∀ k, .fi k i ∉ t := fun p i t e => by
    have := (hw p _ t e).2
    simp only [itB, Bool.and_eq_true, List.all_eq_true, List.any_eq_true] at this
    refine ⟨fun k hk x hx => ?_, fun k hk => ?_⟩
    · have h8 := this.1.2 _ hk
      simp only [fiOk, Bool.or_eq_true, List.all_eq_true] at h8
      rcases h8 with h8 | h8
      · simp at h8
      · exact bits_pre (h8 x hx)
    · have h8 := this.2 _ hk
      simp [isFi] at h8
  have c5 : ∀ p i j t, its = p ++ .fi i j :: t → .an j ∈ p ∧ Pre all j i := fun p i j t e => by
    have := (hw p _ t e).2
    simp only [itB, Bool.and_eq_true, List.any_eq_true] at this
    refine ⟨?_, bits_pre this.2⟩
    obtain ⟨it, hit, hb⟩ := this.1
    cases it with
    | an j => simp only [isAn] at hb; rw [Nat.eq_of_beq_eq_true hb] at hit; exact hit
    | _ => cases hb
  refine ⟨nodupB_spec h1, nodupB_spec h2, fun i hi => (hx i hi).1, fun i hi => (hx i hi).2, fun i hi => Nat.le_of_ble_eq_true (List.all_eq_true.1 h4 i hi), ascL_spec h5, ?_, fun p c m t e x hx => ?_, c2, c4, c5, fun p m t e i hi => ?_⟩
  · intro p
    induction p using (measure List.length).wf.induction with
    | _ p ih =>
      intro it t he hex j hj
      have one : ∀ o, all[it.ix]? = some o → ∀ e ∈ o.after, Region.binds .any e = true → (∃ i, it = .fi i e.on) ∨ (e.on ∈ ordOf p ∧ ∀ j', .fi e.on j' ∈ p → j' ∈ ordOf p ∨ ∃ i, it = .fi i j') := fun o ho e he hb => edgeB_ok ((hw p it t ‹_›).1 hex o ho e he hb)
      -- all that is ahead of one that is announced
      have anP : ∀ k, .an k ∈ p → Pre all j k → j ∈ ordOf p := fun k hk hjk => by
        obtain ⟨p3, p4, rfl⟩ := List.append_of_mem hk
        rcases ih p3 (by simp [InvImage, WellFoundedRelation.rel]) (.an k) (p4 ++ it :: t) (by rw [he]; simp) rfl j hjk with h8 | ⟨i, h8⟩
        · rw [ordOf_append]; exact List.mem_append.2 (.inl h8)
        · cases h8
      cases hj with
      | one hi he' hb hon =>
        rcases one _ hi _ he' hb with h8 | ⟨h8, -⟩
        · exact .inr (hon ▸ h8)
        · exact .inl (hon ▸ h8)
      | more hi he' hb hk hj' =>
        rcases one _ hi _ he' hb with ⟨i, h8⟩ | ⟨hkp, hfl⟩
        · left
          rw [hk] at h8
          exact anP _ (c5 p i _ t (by rw [he, h8])).1 hj'
        · rw [hk] at hkp hfl
          obtain ⟨p1, it', p2, rfl, hs, rfl⟩ := ordOf_mem hkp
          have key : it'.exec = true → j ∈ ordOf (p1 ++ it' :: p2) ∨ ∃ i, it = .fi i j := fun hx' => by
            rcases ih p1 (by simp [InvImage, WellFoundedRelation.rel]) it' (p2 ++ it :: t) (by rw [he]; simp) hx' j hj' with h9 | ⟨i, h9⟩
            · left; rw [ordOf_append]; exact List.mem_append.2 (.inl h9)
            · subst h9
              exact hfl j (List.mem_append.2 (.inr (List.mem_cons_self ..)))
          cases it' with
          | rv k =>
            have hc := (c2 p1 k (p2 ++ it :: t) (by rw [he]; simp)).2
            exact .inl (anP k (by simp [hc]) hj')
          | _ => exact key rfl
  · have := (hw p _ t e).2
    simp only [itB, Bool.and_eq_true, List.all_eq_true] at this
    exact bits_pre (this.1 x hx)
  · have := (hw p _ t e).2
    simp only [itB, Bool.and_eq_true, List.all_eq_true, Bool.not_true, Bool.false_or] at this
    exact bits_pre (this.2 _ hi)

abbrev An := Nat → Option ((Nat → Value) × Obj)
def extE (all : Array Oper) (i : Nat) (v : Value) (env : Env) : Env := match (all[i]?).bind (·.dst) with | some d => (d, v) :: env | none => env
def putA (an : An) (i : Nat) (x : (Nat → Value) × Obj) : An := fun j => if j = i then some x else an j
theorem envL_one {all : Array Oper} {vs : Nat → Value} {l : List Nat} {i : Nat} {env : Env} : envL all vs (l ++ [i]) env = extE all i (vs i) (envL all vs l env) := envL_snoc

/-- What is to be put into a map: which map; of what keys; the key, and the value. -/
abbrev En := Nat → Option (Nat × TypeDesc × Value × Value)
def putE (en : En) (i : Nat) (x : Nat × TypeDesc × Value × Value) : En := fun j => if j = i then some x else en j
def entsOf (en : En) (L : Nat → Bool) (N j : Nat) : List (Value × Value) := (List.range N).filterMap fun k => match L k, en k with
  | true, some (j', _, kv, xv) => if j' = j then some (kv, xv) else none
  | _, _ => none
/-- What a new block holds, once so much was put into it. -/
def FinO (ents : List (Value × Value)) (ob o : Obj) : Prop := match ob with
  | .map es0 _ => ∃ es clk, o = .map es clk ∧ (es.toList.map fun e => (e.key, e.val)).Perm (es0.toList.map (fun e => (e.key, e.val)) ++ ents)
  | ob => o = ob
/-- An entry that is put into a new map. -/
structure InsAt (P : Program) (all : Array Oper) (env : Env) (an : An) (en : En) (i j : Nat) (dd : TypeDesc) (kv xv : Value) : Prop where
  ex : ∃ (o : Oper) (t : TypeId) (d : Nat) (k x : Operand) (kt et : TypeId) (vf : Nat → Value), all[i]? = some o ∧ o.op = .insert t (.tmp d) k x ∧ o.dst = none ∧ o.guard = none ∧ (all[j]?).bind (·.dst) = some d ∧
    (∀ l, (all[l]?).bind (·.dst) = some d → l = j) ∧ k ≠ .tmp d ∧ x ≠ .tmp d ∧ ev env k = some kv ∧ ev env x = some xv ∧ P.underlying t = some (.map kt et) ∧ P.underlying kt = some dd ∧
    (∀ w, (Instr.checkKey false 10000 kt kv).run P w = .ok () w) ∧ an j = some (vf, .map #[] 0) ∧ (∀ b, vf b = .map (some b)) ∧
    ∀ l dd' kv' xv', en l = some (j, dd', kv', xv') → Instr.sameNow dd kv kv' = some false ∧ Instr.sameNow dd' kv' kv = some false
def Chain (P : Program) (F : Heap) (n : Nat) (all : Array Oper) (prot : List Heap) (K : Env → List Heap → Prop) : List It → Env → List Heap → An → En → Prop
  | [], env, own, _, _ => K env own
  | .q i :: r, env, own, an, en => ∃ o v, all[i]? = some o ∧ condAt P F n all own env o v ∧ Chain P F n all prot K r (extE all i v env) own an en
  | .f i :: r, env, own, an, en => ∃ o v, all[i]? = some o ∧ condAt P emp n all [] env o v ∧ Chain P F n all prot K r (extE all i v env) own an en
  | .r i :: r, env, own, an, en => ∃ o v, all[i]? = some o ∧ condAt P F n all prot env o v ∧ Chain P F n all prot K r (extE all i v env) own an en
  | .an i :: r, env, own, an, en => ∃ o vf ob, all[i]? = some o ∧ wantedE all env o = some true ∧ NewOp P n o env vf ob ∧ Chain P F n all prot K r env own (putA an i (vf, ob)) en
  | .rv i :: r, env, own, an, en => ∃ vf ob, an i = some (vf, ob) ∧ ∀ b ob', FinO (entsOf en (fun _ => true) all.size i) ob ob' → Chain P F n all prot K r (extE all i (vf b) env) (blk b ob' :: own) an en
  | .fi i j :: r, env, own, an, en => ∃ dd kv xv, InsAt P all env an en i j dd kv xv ∧ Chain P F n all prot K r env own an (putE en i (j, dd, kv, xv))
  | .h c m :: r, env, own, an, en => ∃ o ownM ownC R, all[m]? = some o ∧ own.Perm (ownM ++ ownC) ∧ ((wantedE all env o = some true ∧ HOp P ownM n o env R) ∨ (wantedE all env o = some false ∧ plainOp o.op = true ∧ R undef ownM)) ∧
      (c = false → ∀ v own', R v own' → ∃ N, own'.Perm (ownM ++ N)) ∧ (c = true → ∃ Y, ownC.Perm (prot ++ Y)) ∧ ∀ v own', R v own' → Chain P F n all prot K r (extE all m v env) (own' ++ ownC) an en

end Go.SL.DM
end
section
/- A region that draws its order, with entries put into new maps: what is known on the way. -/
set_option linter.unusedVariables false
namespace Go.SL.DM
open Go.SL
section
variable (P : Program) (F : Heap) (n : Nat) (all : Array Oper) (prot : List Heap) (K : Env → List Heap → Prop) (its : List It) (env0 : Env) (a0 : Act) (ds : List Deferred)
def Kn (val : Nat → Value) (an : An) (en : En) (own : List Heap) (L : Array Bool) (bf : Nat → Nat) (p : List It) : It → Prop
  | .q i => ∃ o hsub, all[i]? = some o ∧ condAt P F n all hsub (envL all val (ordOf p) env0) o (val i) ∧ (L.getD i false = false → ∃ Y, own.Perm (hsub ++ Y))
  | .f i => ∃ o, all[i]? = some o ∧ condAt P emp n all [] (envL all val (ordOf p) env0) o (val i)
  | .r i => ∃ o, all[i]? = some o ∧ condAt P F n all prot (envL all val (ordOf p) env0) o (val i)
  | .an i => ∃ o vf ob, all[i]? = some o ∧ wantedE all (envL all val (ordOf p) env0) o = some true ∧ NewOp P n o (envL all val (ordOf p) env0) vf ob ∧ an i = some (vf, ob) ∧ (L.getD i false = true → val i = vf (bf i))
  | .rv i => L.getD i false = true
  | .h _ m => L.getD m false = true
  | .fi i j => ∃ dd kv xv en0, InsAt P all (envL all val (ordOf p) env0) an en0 i j dd kv xv ∧ en i = some (j, dd, kv, xv)
def plH (cur : Nat → Obj) (bf : Nat → Nat) (pl : List Nat) : List Heap := pl.map fun i => blk (bf i) (cur i)
def atL (val : Nat → Value) (L : Nat → Bool) (s : Nat) : Option Value := match lastW all L s all.size with | some j => some (val j) | none => a0.tmps[s]?
structure CI (pre post : List It) (val : Nat → Value) (own : List Heap) (an : An) (en : En) (cur : Nat → Obj) (bf : Nat → Nat) (pl : List Nat) (L : Array Bool) (a : Act) (w : World) : Prop where
  s1 : L.size = all.size
  s2 : a.tmps.size = n
  s3 : a.defers = ds
  s4 : ∀ i o, L.getD i false = true → all[i]? = some o → ∀ e ∈ o.after, Region.binds .any e = true → L.getD e.on false = true
  e : its = pre ++ post
  sl : ∀ s, s < n → a.tmps[s]? = atL all a0 val (fun i => L.getD i false) s
  ch : Chain P F n all prot K post (envL all val (ordOf pre) env0) own an en
  sat : Sat (F :: own ++ plH cur bf pl) w
  kn : ∀ p it t, pre = p ++ it :: t → Kn P F n all prot env0 val an en own L bf p it
  un : ∀ it ∈ post, it.exec = true → L.getD it.ix false = false
  pr : ∃ Y, own.Perm (prot ++ Y)
  pn : pl.Nodup
  pm : ∀ i, i ∈ pl ↔ (.an i ∈ pre ∧ L.getD i false = true ∧ .rv i ∈ post)
  cu : ∀ i ∈ pl, ∀ vf ob, an i = some (vf, ob) → FinO (entsOf en (fun j => L.getD j false) all.size i) ob (cur i)
  ei : ∀ k x, en k = some x → .fi k x.1 ∈ pre
  ed : ∀ k l j dk kv xv dl kv' xv', en k = some (j, dk, kv, xv) → en l = some (j, dl, kv', xv') → k ≠ l → Instr.sameNow dk kv kv' = some false
  rq : ∀ j, .rv j ∈ pre → ∀ k x, en k = some x → x.1 = j → L.getD k false = true
end

section
variable {P : Program} {F : Heap} {n : Nat} {all : Array Oper} {prot : List Heap} {K : Env → List Heap → Prop} {its : List It} {env0 : Env} {a0 : Act} {ds : List Deferred}

theorem FinO.perm {e e' : List (Value × Value)} {ob o : Obj} (h : FinO e ob o) (p : e.Perm e') : FinO e' ob o := by
  cases ob with
  | map es0 c0 =>
    obtain ⟨es, clk, rfl, h2⟩ := h
    exact ⟨es, clk, rfl, h2.trans (p.append_left _)⟩
  | _ => exact h
theorem filterMap_cg {α β : Type} {f g : α → Option β} : ∀ {l : List α}, (∀ k ∈ l, f k = g k) → l.filterMap f = l.filterMap g
  | [], _ => rfl
  | a :: l, h => by
    rw [List.filterMap_cons, List.filterMap_cons, h a (List.mem_cons_self ..), filterMap_cg fun k hk => h k (List.mem_cons_of_mem _ hk)]
theorem filterMap_one {α β : Type} [DecidableEq α] {f g : α → Option β} {i : α} : ∀ {l : List α}, l.Nodup → i ∈ l → f i = none → (∀ k ∈ l, k ≠ i → g k = f k) → (l.filterMap g).Perm (l.filterMap f ++ (g i).toList)
  | [], _, hi, _, _ => by cases hi
  | a :: l, hn, hi, hf, hg => by
    have hn' := List.nodup_cons.1 hn
    by_cases e : a = i
    · subst e
      have h2 : l.filterMap g = l.filterMap f := filterMap_cg fun k hk => hg k (List.mem_cons_of_mem _ hk) fun e => by subst e; exact hn'.1 hk
      rw [List.filterMap_cons, List.filterMap_cons, hf, h2]
      cases g a with
      | none => simp
      | some b => simpa using (List.perm_append_comm (l₁ := [b]) (l₂ := l.filterMap f))
    · have hi' : i ∈ l := by
        rcases List.mem_cons.1 hi with h | h
        · exact (e h.symm).elim
        · exact h
      have ih := filterMap_one (f := f) (g := g) hn'.2 hi' hf fun k hk => hg k (List.mem_cons_of_mem _ hk)
      rw [List.filterMap_cons, List.filterMap_cons, hg a (List.mem_cons_self ..) e]
      cases f a with
      | none => exact ih
      | some b => exact ih.cons b
def entAt (en : En) (L : Nat → Bool) (j k : Nat) : Option (Value × Value) := match L k, en k with
  | true, some (j', _, kv, xv) => if j' = j then some (kv, xv) else none
  | _, _ => none
theorem entsOf_eq (en : En) (L : Nat → Bool) (N j : Nat) : entsOf en L N j = (List.range N).filterMap (entAt en L j) := rfl
theorem entsOf_set {en : En} {L : Array Bool} {N i j : Nat} (hi : i < N) (hil : i < L.size) (hL : L.getD i false = false) :
    (entsOf en (fun k => (L.setIfInBounds i true).getD k false) N j).Perm (entsOf en (fun k => L.getD k false) N j ++ (match en i with | some (j', _, kv, xv) => (if j' = j then [(kv, xv)] else []) | none => [])) := by
  have h := filterMap_one (f := entAt en (fun k => L.getD k false) j) (g := entAt en (fun k => (L.setIfInBounds i true).getD k false) j) (i := i) List.nodup_range (List.mem_range.2 hi) (by simp only [entAt, hL]) fun k _ hk => by
    simp only [entAt, getD_set hil, if_neg hk]
  rw [entsOf_eq, entsOf_eq]
  refine h.trans (List.Perm.append_left _ ?_)
  have : entAt en (fun k => (L.setIfInBounds i true).getD k false) j i = (match en i with | some (j', _, kv, xv) => (if j' = j then some (kv, xv) else none) | none => none) := by
    simp only [entAt, getD_set hil, if_true]
    cases en i with
    | none => rfl
    | some x => rfl
  rw [this]
  cases en i with
  | none => exact List.Perm.refl _
  | some x =>
    obtain ⟨j', dd, kv, xv⟩ := x
    by_cases e : j' = j <;> simp [e]
theorem entsOf_congr {en en' : En} {L L' : Nat → Bool} {N j : Nat} (h : ∀ k, entAt en L j k = entAt en' L' j k) : entsOf en L N j = entsOf en' L' N j := by
  rw [entsOf_eq, entsOf_eq]; exact filterMap_cg fun k _ => h k
theorem entsOf_nil {en : En} {L : Nat → Bool} {N j : Nat} (h : ∀ k, entAt en L j k = none) : entsOf en L N j = [] := by
  rw [entsOf_eq, List.filterMap_eq_nil_iff]; exact fun k _ => h k
theorem ex_notin (ho : ItsOk all its) {p t : List It} {it : It} (e : its = p ++ it :: t) (hx : it.exec = true) : it.ix ∉ exOf p ∧ it.ix ∉ exOf t := by
  have h := ho.exNodup
  rw [e, exOf_append] at h
  have e2 : exOf (it :: t) = it.ix :: exOf t := by simp [exOf, hx]
  rw [e2] at h
  obtain ⟨h1, h2, h3⟩ := List.nodup_append.1 h
  exact ⟨fun hp => h3 _ hp _ (List.mem_cons_self ..) rfl, (List.nodup_cons.1 h2).1⟩
/-- What is laid ahead of a place was done ahead of it. -/
theorem ord_ex (ho : ItsOk all its) {p t : List It} (e : its = p ++ t) {x : Nat} (hx : x ∈ ordOf p) : ∃ p1 it p2, p = p1 ++ it :: p2 ∧ it.exec = true ∧ it.ix = x := by
  obtain ⟨p1, it, p2, rfl, hs, rfl⟩ := ordOf_mem hx
  cases it with
  | rv i =>
    have hc := (ho.c2 p1 i (p2 ++ t) (by rw [e]; simp)).2
    obtain ⟨p3, p4, rfl⟩ := List.append_of_mem hc
    exact ⟨p3, .an i, p4 ++ .rv i :: p2, by simp, rfl, rfl⟩
  | q i => exact ⟨p1, _, p2, rfl, rfl, rfl⟩
  | f i => exact ⟨p1, _, p2, rfl, rfl, rfl⟩
  | r i => exact ⟨p1, _, p2, rfl, rfl, rfl⟩
  | an i => cases hs
  | h c i => exact ⟨p1, _, p2, rfl, rfl, rfl⟩
  | fi i j => exact ⟨p1, _, p2, rfl, rfl, rfl⟩
theorem ord_notin (ho : ItsOk all its) {p t : List It} {it : It} (e : its = p ++ it :: t) (hx : it.exec = true) : it.ix ∉ ordOf p := fun h => by
  obtain ⟨p1, it', p2, rfl, hx', e'⟩ := ord_ex ho e h
  exact (ex_notin ho e hx).1 (by rw [← e', exOf_append]; exact List.mem_append.2 (.inr (mem_exOf (List.mem_cons_self ..) hx')))
theorem asc_prefix (ho : ItsOk all its) {p t : List It} (e : its = p ++ t) : AscW all (ordOf p) := by
  have := ho.asc; rw [e, ordOf_append] at this; exact (List.pairwise_append.1 this).1
theorem lt_prefix (ho : ItsOk all its) {p t : List It} (e : its = p ++ t) : ∀ i ∈ ordOf p, i < all.size := fun i hi => ho.ordLt i (by rw [e, ordOf_append]; exact List.mem_append.2 (.inl hi))

theorem has_prefix (ho : ItsOk all its) (hdst : ∀ (i d : Nat), (all[i]?).bind (·.dst) = some d → d < n) (ha0 : Has n env0 a0) {p t : List It} (e : its = p ++ t) {val : Nat → Value} {a : Act} (hsz : a.tmps.size = n)
    (ht : ∀ s, s < n → a.tmps[s]? = atL all a0 val (fun j => (ordOf p).contains j) s) : Has n (envL all val (ordOf p) env0) a := by
  refine ⟨hsz, fun s u hu => ?_⟩
  rw [look_envL _ (asc_prefix ho e) (lt_prefix ho e)] at hu
  by_cases hs : s < n
  · rw [ht s hs]
    simp only [atL]
    cases hl : lastW all (fun j => (ordOf p).contains j) s all.size with
    | some j => rw [hl] at hu; exact hu
    | none => rw [hl] at hu; exact ha0.get s u hu
  · exfalso
    cases hl : lastW all (fun j => (ordOf p).contains j) s all.size with
    | some j => exact hs (hdst j s (lastW_isW hl).2.1)
    | none =>
      rw [hl] at hu
      have := ha0.get s u hu
      rw [Array.getElem?_eq_none (by rw [ha0.size]; omega)] at this; cases this

/-- A frame that has what the place of an operation has laid ahead of it. -/
theorem ci_frame (hok : dok all = true) (ho : ItsOk all its) (hdst : ∀ (i d : Nat), (all[i]?).bind (·.dst) = some d → d < n) (ha0 : Has n env0 a0) {L : Array Bool} {a : Act} {val : Nat → Value}
    (s2 : a.tmps.size = n) (s4 : ∀ i o, L.getD i false = true → all[i]? = some o → ∀ e ∈ o.after, Region.binds .any e = true → L.getD e.on false = true)
    (sl : ∀ s, s < n → a.tmps[s]? = atL all a0 val (fun i => L.getD i false) s) {p t : List It} {it : It} (e : its = p ++ it :: t) (hx : it.exec = true) {o : Oper} (hio : all[it.ix]? = some o)
    (hnl : L.getD it.ix false = false) (hready : ∀ j, Pre all j it.ix → L.getD j false = true) :
    ∃ a'', Has n (envL all val (ordOf p) env0) a'' ∧ ∀ s ∈ o.looksAt all, (∀ i j, it = .fi i j → (all[j]?).bind (·.dst) ≠ some s) → a.tmps[s]? = a''.tmps[s]? := by
  have hlisted : ∀ j k, Pre all j k → L.getD k false = true → L.getD j false = true := fun j k hj => hj.listed (L := fun j => L.getD j false) s4
  have hsame : ∀ s ∈ readsOf all o, (∀ i j, it = .fi i j → (all[j]?).bind (·.dst) ≠ some s) → lastW all (fun j => L.getD j false) s all.size = lastW all (fun j => (ordOf p).contains j) s all.size := by
    intro s hs hns
    refine lastW_congr fun j hj hw => ?_
    by_cases ej : j = it.ix
    · rw [ej, hnl]; symm; simpa using ord_notin ho e hx
    · rcases dok_spec hok hio hs hw ej with ⟨g1, g2⟩ | ⟨g1, g2⟩
      · rw [hready j g2]; symm
        rcases ho.lin p it t e hx j g2 with g3 | ⟨i, g3⟩
        · simpa using g3
        · exact (hns i j g3 hw).elim
      · have hf1 : L.getD j false = false := by
          cases hy : L.getD j false with
          | false => rfl
          | true => have := hlisted _ j g2 hy; rw [hnl] at this; cases this
        have hf2 : j ∉ ordOf p := fun hjp => by
          obtain ⟨p1, it', p2, rfl, hx', rfl⟩ := ord_ex ho e hjp
          rcases ho.lin p1 it' (p2 ++ it :: t) (by rw [e]; simp) hx' _ g2 with this | ⟨i, this⟩
          · exact ord_notin ho e hx (by rw [ordOf_append]; exact List.mem_append.2 (.inl this))
          · -- 'it' is the map of one that is announced ahead of it
            subst this
            have h5 := (ho.c5 p1 i it.ix (p2 ++ it :: t) (by rw [e]; simp)).1
            exact (ex_notin ho e hx).1 (by rw [exOf_append]; exact List.mem_append.2 (.inl (mem_exOf (it := .an it.ix) h5 rfl)))
        rw [hf1]; symm; simpa using hf2
  refine ⟨{ tmps := Array.ofFn (n := n) fun s => (atL all a0 val (fun j => (ordOf p).contains j) s.val).getD undef, defers := [] }, ?_, ?_⟩
  all_goals
    have hat : ∀ s, s < n → (Array.ofFn (n := n) fun s => (atL all a0 val (fun j => (ordOf p).contains j) s.val).getD undef)[s]? = atL all a0 val (fun j => (ordOf p).contains j) s := by
      intro s hs
      rw [Array.getElem?_eq_getElem (by simpa using hs)]
      simp only [Array.getElem_ofFn]
      simp only [atL]
      cases hl : lastW all (fun j => (ordOf p).contains j) s all.size with
      | some j => rfl
      | none =>
        simp only []
        rw [Array.getElem?_eq_getElem (by rw [ha0.size]; exact hs)]; rfl
  · exact has_prefix ho hdst ha0 (t := it :: t) e (by simp) hat
  · intro s hs hns
    by_cases hsn : s < n
    · rw [sl s hsn]
      show _ = (Array.ofFn (n := n) fun s => (atL all a0 val (fun j => (ordOf p).contains j) s.val).getD undef)[s]?
      rw [hat s hsn]
      simp only [atL]
      rw [hsame s (List.mem_append.2 (.inl hs)) hns]
    · have hge : n ≤ s := Nat.not_lt.1 hsn
      rw [Array.getElem?_eq_none (by rw [s2]; exact hge), Array.getElem?_eq_none (by simpa using hge)]

/-- The slots behind an operation. -/
theorem ci_slots (hok : dok all = true) {L : Array Bool} {a : Act} {val : Nat → Value} {i : Nat} {o : Oper}
    (s2 : a.tmps.size = n) (s4 : ∀ i o, L.getD i false = true → all[i]? = some o → ∀ e ∈ o.after, Region.binds .any e = true → L.getD e.on false = true)
    (sl : ∀ s, s < n → a.tmps[s]? = atL all a0 val (fun i => L.getD i false) s) (hio : all[i]? = some o) (hilt : i < L.size) (hsz : L.size = all.size) (hnl : L.getD i false = false)
    (val' : Nat → Value) (u : Value) (hu : val' i = u) (hsm : ∀ j, L.getD j false = true → val' j = val j) : ∀ s, s < n → (a.put o.dst u).tmps[s]? = atL all a0 val' (fun j => (L.setIfInBounds i true).getD j false) s := by
  have hlisted : ∀ j k, Pre all j k → L.getD k false = true → L.getD j false = true := fun j k hj => hj.listed (L := fun j => L.getD j false) s4
  intro s hs
  by_cases hd : o.dst = some s
  · have hmem : s ∈ readsOf all o := List.mem_append.2 (.inr (by rw [hd]; simp))
    have hl : lastW all (fun j => (L.setIfInBounds i true).getD j false) s all.size = some i := by
      rw [lastW_none_above (i := i + 1) (by omega) (L := fun j => (L.setIfInBounds i true).getD j false) (fun j g1 g2 g3 g4 => ?_)]
      · simp only [lastW, getD_set hilt, if_true, Bool.true_and, hio, Option.bind_some, hd]; simp
      · rw [getD_set hilt, if_neg (by omega)] at g3
        rcases dok_spec hok hio hmem g4 (by omega) with ⟨g5, g6⟩ | ⟨g5, g6⟩
        · omega
        · have := hlisted i j g6 g3
          rw [hnl] at this; cases this
    simp only [atL, hl]
    rw [hd, hu]
    simp only [Act.put]
    simp [s2, hs]
  · have hl : lastW all (fun j => (L.setIfInBounds i true).getD j false) s all.size = lastW all (fun j => L.getD j false) s all.size := by
      refine lastW_congr fun j hj hw => ?_
      rw [getD_set hilt]
      by_cases e : j = i
      · subst e; rw [hio] at hw; exact absurd hw hd
      · rw [if_neg e]
    have h7s := sl s hs
    have hput : (a.put o.dst u).tmps[s]? = a.tmps[s]? := by
      cases hd' : o.dst with
      | none => rfl
      | some d =>
        have : d ≠ s := fun e => hd (e ▸ hd')
        simp only [Act.put]
        rw [Array.getElem?_setIfInBounds_ne this]
    rw [hput, h7s]
    simp only [atL, hl]
    cases hlw : lastW all (fun j => L.getD j false) s all.size with
    | none => rfl
    | some j => simp only []; rw [hsm j (lastW_isW hlw).1]

theorem atL_congr {val val' : Nat → Value} {L : Array Bool} (h : ∀ j, L.getD j false = true → val' j = val j) (s : Nat) : atL all a0 val (fun i => L.getD i false) s = atL all a0 val' (fun i => L.getD i false) s := by
  simp only [atL]
  cases hl : lastW all (fun j => L.getD j false) s all.size with
  | none => rfl
  | some j => simp only []; rw [h j (lastW_isW hl).1]
/-- What is known of an item stays known, whatever else comes to be known. -/
theorem Kn.congr {val val' : Nat → Value} {an an' : An} {en en' : En} {own own' : List Heap} {L : Array Bool} {bf : Nat → Nat} {p : List It} {it : It} (h : Kn P F n all prot env0 val an en own L bf p it)
    (hv : ∀ j ∈ ordOf p, val' j = val j) (hi : val' it.ix = val it.ix) (ha : an' it.ix = an it.ix) (haj : ∀ i j, it = .fi i j → an' j = an j ∧ en' i = en i) (ho : ∃ N, own'.Perm (own ++ N)) : Kn P F n all prot env0 val' an' en' own' L bf p it := by
  have he : envL all val' (ordOf p) env0 = envL all val (ordOf p) env0 := envL_congr hv
  cases it with
  | q i =>
    obtain ⟨o, hsub, h1, h2, h3⟩ := h
    refine ⟨o, hsub, h1, by rw [he, show val' i = val i from hi]; exact h2, fun hl => ?_⟩
    obtain ⟨Y, hY⟩ := h3 hl
    obtain ⟨N, hN⟩ := ho
    exact ⟨Y ++ N, by rw [← List.append_assoc]; exact hN.trans (hY.append_right N)⟩
  | f i =>
    obtain ⟨o, h1, h2⟩ := h
    exact ⟨o, h1, by rw [he, show val' i = val i from hi]; exact h2⟩
  | r i =>
    obtain ⟨o, h1, h2⟩ := h
    exact ⟨o, h1, by rw [he, show val' i = val i from hi]; exact h2⟩
  | an i =>
    obtain ⟨o, vf, ob, h1, h2, h3, h4, h5⟩ := h
    exact ⟨o, vf, ob, h1, by rw [he]; exact h2, by rw [he]; exact h3, (show an' i = an i from ha).trans h4, fun hl => (show val' i = val i from hi).trans (h5 hl)⟩
  | rv i => exact h
  | h c m => exact h
  | fi i j =>
    obtain ⟨dd, kv, xv, en0, h1, h2⟩ := h
    obtain ⟨a1, a2⟩ := haj i j rfl
    obtain ⟨o, t, d, k, x, kt, et, vf, g1, g2, g3, g4, g5, g6, g7, g8, g9, g10, g11, g12, g13, g14, g15, g16⟩ := h1.ex
    exact ⟨dd, kv, xv, en0, ⟨o, t, d, k, x, kt, et, vf, g1, g2, g3, g4, g5, g6, g7, g8, by rw [he]; exact g9, by rw [he]; exact g10, g11, g12, g13, a1.trans g14, g15, g16⟩, a2.trans h2⟩

theorem snoc_split {pre p t : List It} {x it : It} (h : pre ++ [x] = p ++ it :: t) : (∃ t', pre = p ++ it :: t') ∨ (p = pre ∧ it = x ∧ t = []) := by
  rcases List.eq_nil_or_concat t with rfl | ⟨t', y, rfl⟩
  · obtain ⟨h1, h2⟩ := List.append_inj' h rfl
    simp only [List.cons.injEq, and_true] at h2
    exact .inr ⟨h1.symm, h2.symm, rfl⟩
  · left
    rw [List.concat_eq_append, ← List.cons_append, ← List.append_assoc] at h
    exact ⟨t', (List.append_inj' h rfl).1⟩
/-- What stands behind is not listed, or is waited for. -/
def Stuck (en : En) (L : Array Bool) : List It → Prop
  | [] => True
  | .h _ _ :: _ => True
  | .rv i :: _ => L.getD i false = false ∨ ∃ k x, en k = some x ∧ x.1 = i ∧ L.getD k false = false
  | _ => False
theorem plH_congr {cur cur' : Nat → Obj} {bf bf' : Nat → Nat} {pl : List Nat} (h : ∀ i ∈ pl, cur' i = cur i ∧ bf' i = bf i) : plH cur' bf' pl = plH cur bf pl := by
  unfold plH
  refine List.map_congr_left fun i hi => ?_
  rw [(h i hi).1, (h i hi).2]

theorem advance (ho : ItsOk all its) {L : Array Bool} {a : Act} {w : World} {bf : Nat → Nat} {cur : Nat → Obj} : ∀ {post pre : List It} {val : Nat → Value} {own : List Heap} {an : An} {en : En} {pl : List Nat}, CI P F n all prot K its env0 a0 ds pre post val own an en cur bf pl L a w →
    ∃ pre' post' val' own' an' en' pl', CI P F n all prot K its env0 a0 ds pre' post' val' own' an' en' cur bf pl' L a w ∧ Stuck en' L post' := by
  intro post
  induction post with
  | nil => intro pre val own an en pl h; exact ⟨_, _, _, _, _, _, _, h, trivial⟩
  | cons it r ih =>
    intro pre val own an en pl h
    have hu := h.un it (List.mem_cons_self ..)
    have hun : ∀ x ∈ r, x.exec = true → L.getD x.ix false = false := fun x hx => h.un x (List.mem_cons_of_mem _ hx)
    have he : its = (pre ++ [it]) ++ r := by rw [h.e]; simp
    have hi : it.sets = true → it.ix ∉ ordOf pre := fun hs hm => by
      have := ho.ordNodup
      rw [h.e, ordOf_append] at this
      refine (List.nodup_append.1 this).2.2 _ hm it.ix ?_ rfl
      simp [ordOf, hs]
    -- a quiet one
    have quiet : ∀ (i : Nat) (o : Oper) (v : Value) (hx : it.exec = true) (hix : it.ix = i) (hs : it.sets = true), (∀ i, it ≠ .rv i) → (∀ i, it ≠ .an i) → Chain P F n all prot K r (extE all i v (envL all val (ordOf pre) env0)) own an en →
        (∀ val' : Nat → Value, val' i = v → (∀ j, j ≠ i → val' j = val j) → Kn P F n all prot env0 val' an en own L bf pre it) →
        ∃ pre' post' val' own' an' en' pl', CI P F n all prot K its env0 a0 ds pre' post' val' own' an' en' cur bf pl' L a w ∧ Stuck en' L post' := by
      intro i o v hx hix hs hnr hna hch hkn
      have hnl : L.getD i false = false := hix ▸ hu hx
      have hi' : i ∉ ordOf pre := hix ▸ hi hs
      let val' : Nat → Value := fun j => if j = i then v else val j
      have v1 : val' i = v := by simp [val']
      have v2 : ∀ j, j ≠ i → val' j = val j := fun j hj => by simp only [val']; rw [if_neg hj]
      have vL : ∀ j, L.getD j false = true → val' j = val j := fun j hj => v2 j fun e => by rw [e, hnl] at hj; cases hj
      have vp : ∀ j ∈ ordOf pre, val' j = val j := fun j hj => v2 j fun e => hi' (e ▸ hj)
      refine ih (pre := pre ++ [it]) (val := val') (own := own) (an := an) (en := en) (pl := pl) ⟨h.s1, h.s2, h.s3, h.s4, he, fun s hs => ?_, ?_, h.sat, fun p jt t hp => ?_, hun, h.pr, h.pn, fun j => ?_, h.cu, fun k x hk => List.mem_append.2 (.inl (h.ei k x hk)), h.ed, fun j hj => h.rq j ((List.mem_append.1 hj).resolve_right fun e => hnr j (List.mem_singleton.1 e).symm)⟩
      · rw [h.sl s hs, atL_congr vL]
      · have e1 : ordOf (pre ++ [it]) = ordOf pre ++ [i] := by rw [ordOf_append]; simp [ordOf, hs, hix]
        rw [e1, envL_one, v1, envL_congr vp]; exact hch
      · rcases snoc_split hp with ⟨t', rfl⟩ | ⟨rfl, rfl, -⟩
        · refine (h.kn p jt t' rfl).congr (fun j hj => vp j (by rw [ordOf_append]; exact List.mem_append.2 (.inl hj))) (v2 _ fun e => ?_) rfl (fun _ _ _ => ⟨rfl, rfl⟩) ⟨[], by simp⟩
          by_cases hjx : jt.exec = true
          · refine (ex_notin ho (p := p ++ jt :: t') (t := r) (it := it) (by rw [h.e]) hx).1 ?_
            rw [hix, ← e]; exact mem_exOf (by simp) hjx
          · cases jt with
            | rv k => exact hi' (by rw [← e]; exact mem_ordOf (it := .rv k) (by simp) rfl)
            | _ => exact absurd rfl hjx
        · exact hkn val' v1 v2
      · rw [h.pm j]
        refine ⟨fun ⟨g1, g2, g3⟩ => ⟨List.mem_append.2 (.inl g1), g2, ?_⟩, fun ⟨g1, g2, g3⟩ => ⟨?_, g2, List.mem_cons_of_mem _ g3⟩⟩
        · rcases List.mem_cons.1 g3 with g3 | g3
          · exact absurd g3.symm (hnr j)
          · exact g3
        · rcases List.mem_append.1 g1 with g1 | g1
          · exact g1
          · exact absurd (List.mem_singleton.1 g1).symm (hna j)
    cases it with
    | q i =>
      obtain ⟨o, v, h1, h2, h3⟩ := h.ch
      refine quiet i o v rfl rfl rfl (fun _ e => by cases e) (fun _ e => by cases e) h3 fun val' v1 v2 => ⟨o, own, h1, ?_, fun _ => ⟨[], by simp⟩⟩
      rw [v1, envL_congr fun j hj => v2 j fun e => hi rfl (e ▸ hj)]; exact h2
    | f i =>
      obtain ⟨o, v, h1, h2, h3⟩ := h.ch
      refine quiet i o v rfl rfl rfl (fun _ e => by cases e) (fun _ e => by cases e) h3 fun val' v1 v2 => ⟨o, h1, ?_⟩
      rw [v1, envL_congr fun j hj => v2 j fun e => hi rfl (e ▸ hj)]; exact h2
    | r i =>
      obtain ⟨o, v, h1, h2, h3⟩ := h.ch
      refine quiet i o v rfl rfl rfl (fun _ e => by cases e) (fun _ e => by cases e) h3 fun val' v1 v2 => ⟨o, h1, ?_⟩
      rw [v1, envL_congr fun j hj => v2 j fun e => hi rfl (e ▸ hj)]; exact h2
    | an i =>
      obtain ⟨o, vf, ob, h1, h2, h3, h4⟩ := h.ch
      have hnl : L.getD i false = false := hu rfl
      have ha : ∀ j, j ≠ i → putA an i (vf, ob) j = an j := fun j hj => by simp only [putA]; rw [if_neg hj]
      have hpl : ∀ j ∈ pl, j ≠ i := fun j hj e => by have := ((h.pm j).1 hj).2.1; rw [e, hnl] at this; cases this
      refine ih (pre := pre ++ [.an i]) (val := val) (own := own) (an := putA an i (vf, ob)) (en := en) (pl := pl) ⟨h.s1, h.s2, h.s3, h.s4, he, h.sl, ?_, h.sat, fun p jt t hp => ?_, hun, h.pr, h.pn, fun j => ?_, fun j hj vf2 ob2 ha2 => h.cu j hj vf2 ob2 (by rw [ha j (hpl j hj)] at ha2; exact ha2), fun k x hk => List.mem_append.2 (.inl (h.ei k x hk)), h.ed, fun j hj => h.rq j ((List.mem_append.1 hj).resolve_right fun e => by cases List.mem_singleton.1 e)⟩
      · have e1 : ordOf (pre ++ [.an i]) = ordOf pre := by rw [ordOf_append]; simp [ordOf, It.sets]
        rw [e1]; exact h4
      · rcases snoc_split hp with ⟨t', rfl⟩ | ⟨rfl, rfl, -⟩
        · have haj : ∀ i2 j2, jt = .fi i2 j2 → putA an i (vf, ob) j2 = an j2 ∧ en i2 = en i2 := fun i2 j2 e2 => by
            subst e2
            refine ⟨ha j2 fun e3 => ?_, rfl⟩
            subst e3
            have h5 := (ho.c5 p i2 j2 (t' ++ .an j2 :: r) (by rw [h.e]; simp)).1
            exact (ex_notin ho (p := p ++ .fi i2 j2 :: t') (t := r) (it := .an j2) (by rw [h.e]) rfl).1 (by rw [exOf_append]; exact List.mem_append.2 (.inl (mem_exOf (it := .an j2) h5 rfl)))
          by_cases ej : jt.ix = i
          · by_cases hjx : jt.exec = true
            · exfalso
              refine (ex_notin ho (p := p ++ jt :: t') (t := r) (it := .an i) (by rw [h.e]) rfl).1 ?_
              rw [show (It.an i).ix = i from rfl, ← ej]; exact mem_exOf (by simp) hjx
            · cases jt with
              | rv k => exact h.kn p (.rv k) t' rfl
              | _ => exact absurd rfl hjx
          · exact (h.kn p jt t' rfl).congr (fun _ _ => rfl) rfl (ha _ ej) haj ⟨[], by simp⟩
        · exact ⟨o, vf, ob, h1, h2, h3, by simp [putA], fun hl => by rw [hnl] at hl; cases hl⟩
      · rw [h.pm j]
        refine ⟨fun ⟨g1, g2, g3⟩ => ⟨List.mem_append.2 (.inl g1), g2, ?_⟩, fun ⟨g1, g2, g3⟩ => ⟨?_, g2, List.mem_cons_of_mem _ g3⟩⟩
        · rcases List.mem_cons.1 g3 with g3 | g3
          · cases g3
          · exact g3
        · rcases List.mem_append.1 g1 with g1 | g1
          · exact g1
          · have := List.mem_singleton.1 g1
            cases this; rw [hnl] at g2; cases g2
    | fi i j =>
      obtain ⟨dd, kv, xv, h1, h2⟩ := h.ch
      have hnl : L.getD i false = false := hu rfl
      have hni : i ∉ exOf pre := (ex_notin ho h.e rfl).1
      have hen : en i = none := by
        cases e : en i with
        | none => rfl
        | some x => exact (hni (mem_exOf (it := .fi i x.1) (h.ei i x e) rfl)).elim
      have e2 : ∀ k, k ≠ i → putE en i (j, dd, kv, xv) k = en k := fun k hk => by simp only [putE]; rw [if_neg hk]
      have e3 : putE en i (j, dd, kv, xv) i = some (j, dd, kv, xv) := by simp [putE]
      have hdst : (all[i]?).bind (·.dst) = none := by
        obtain ⟨o, t, d, k, x, kt, et, vf, g1, g2, g3, -⟩ := h1.ex
        rw [g1]; exact g3
      have henv : ∀ l : List Nat, envL all val (l ++ [i]) env0 = envL all val l env0 := fun l => by rw [envL_one]; simp only [extE, hdst]
      obtain ⟨o1, t1, d1, k1, x1, kt1, et1, vf1, q1, q2, q3, q4, q5, q6, q7, q8, q9, q10, q11, q12, q13, q14, q15, q16⟩ := h1.ex
      have hpl : ∀ l ∈ pl, entsOf (putE en i (j, dd, kv, xv)) (fun k => L.getD k false) all.size l = entsOf en (fun k => L.getD k false) all.size l := fun l _ => entsOf_congr fun k => by
        by_cases ek : k = i
        · subst ek; simp only [entAt, hnl]
        · simp only [entAt, e2 k ek]
      refine ih (pre := pre ++ [.fi i j]) (val := val) (own := own) (an := an) (en := putE en i (j, dd, kv, xv)) (pl := pl) ⟨h.s1, h.s2, h.s3, h.s4, he, h.sl, ?_, h.sat, fun p jt t hp => ?_, hun, h.pr, h.pn, fun l => ?_, fun l hl vf ob ha => by rw [hpl l hl]; exact h.cu l hl vf ob ha, fun k x hk => ?_, fun k l j' dk kv1 xv1 dl kv2 xv2 hk hl hne => ?_, fun l hl k x hk hx => ?_⟩
      · have e1 : ordOf (pre ++ [.fi i j]) = ordOf pre ++ [i] := by rw [ordOf_append]; rfl
        rw [e1, henv]; exact h2
      · rcases snoc_split hp with ⟨t', rfl⟩ | ⟨rfl, rfl, -⟩
        · refine (h.kn p jt t' rfl).congr (fun _ _ => rfl) rfl rfl (fun i2 j2 e4 => ⟨rfl, e2 i2 fun e5 => ?_⟩) ⟨[], by simp⟩
          subst e4; subst e5
          exact hni (mem_exOf (it := .fi i2 j2) (by simp) rfl)
        · exact ⟨dd, kv, xv, en, h1, e3⟩
      · rw [h.pm l]
        refine ⟨fun ⟨g1, g2, g3⟩ => ⟨List.mem_append.2 (.inl g1), g2, ?_⟩, fun ⟨g1, g2, g3⟩ => ⟨?_, g2, List.mem_cons_of_mem _ g3⟩⟩
        · rcases List.mem_cons.1 g3 with g3 | g3
          · cases g3
          · exact g3
        · rcases List.mem_append.1 g1 with g1 | g1
          · exact g1
          · cases List.mem_singleton.1 g1
      · by_cases ek : k = i
        · subst ek; rw [e3] at hk; cases hk; simp
        · rw [e2 k ek] at hk; exact List.mem_append.2 (.inl (h.ei k x hk))
      · by_cases ek : k = i
        · subst ek
          rw [e3] at hk; cases hk
          rw [e2 l (Ne.symm hne)] at hl
          exact (q16 l dl kv2 xv2 hl).1
        · rw [e2 k ek] at hk
          by_cases el : l = i
          · subst el
            rw [e3] at hl; cases hl
            exact (q16 k dk kv1 xv1 hk).2
          · rw [e2 l el] at hl
            exact h.ed k l j' dk kv1 xv1 dl kv2 xv2 hk hl hne
      · have hl' : .rv l ∈ pre := (List.mem_append.1 hl).resolve_right fun e => by cases List.mem_singleton.1 e
        by_cases ek : k = i
        · subst ek
          rw [e3] at hk; cases hk
          obtain ⟨p5, p6, hp56⟩ := List.append_of_mem hl'
          have hx' : j = l := hx
          subst hx'
          exact ((ho.c4 p5 j (p6 ++ .fi k j :: r) (by rw [h.e, hp56]; simp)).2 k (by simp)).elim
        · rw [e2 k ek] at hk; exact h.rq l hl' k x hk hx
    | rv i =>
      by_cases hW : L.getD i false = true ∧ ∀ k x, en k = some x → x.1 = i → L.getD k false = true
      · obtain ⟨hL, hW⟩ := hW
        obtain ⟨vf, ob, h1, h2⟩ := h.ch
        have hc := ho.c2 pre i r h.e
        obtain ⟨p3, p4, hp34⟩ := List.append_of_mem hc.2
        obtain ⟨o, vf', ob', k1, k2, k3, k4, k5⟩ := h.kn p3 (.an i) p4 hp34
        rw [h1] at k4; cases k4
        have hpi : i ∈ pl := (h.pm i).2 ⟨hc.2, hL, List.mem_cons_self ..⟩
        have hper : (plH cur bf pl).Perm (blk (bf i) (cur i) :: plH cur bf (pl.erase i)) := by
          have := (List.perm_cons_erase hpi).map (fun i => blk (bf i) (cur i))
          simp only [List.map_cons] at this
          exact this
        have hfin : FinO (entsOf en (fun _ => true) all.size i) ob (cur i) := by
          have := h.cu i hpi vf ob h1
          rw [entsOf_congr (L' := fun _ => true) (en' := en)] at this
          · exact this
          · intro k
            simp only [entAt]
            cases e : en k with
            | none => cases L.getD k false <;> rfl
            | some x =>
              by_cases ex : x.1 = i
              · rw [hW k x e ex]
              · obtain ⟨j', dd, kv, xv⟩ := x
                have : ¬ j' = i := ex
                cases L.getD k false <;> simp [this]
        refine ih (pre := pre ++ [.rv i]) (val := val) (own := blk (bf i) (cur i) :: own) (an := an) (en := en) (pl := pl.erase i) ⟨h.s1, h.s2, h.s3, h.s4, he, h.sl, ?_, ?_, fun p jt t hp => ?_, hun, (by obtain ⟨Y, hY⟩ := h.pr; exact ⟨blk (bf i) (cur i) :: Y, (hY.cons _).trans (List.perm_middle (a := blk (bf i) (cur i)) (l₁ := prot) (l₂ := Y)).symm⟩), h.pn.erase _, fun j => ?_, fun j hj => h.cu j (List.mem_of_mem_erase hj), fun k x hk => List.mem_append.2 (.inl (h.ei k x hk)), h.ed, fun j hj k x hk hx => by
          rcases List.mem_append.1 hj with hj | hj
          · exact h.rq j hj k x hk hx
          · cases List.mem_singleton.1 hj; exact hW k x hk hx⟩
        · have e1 : ordOf (pre ++ [.rv i]) = ordOf pre ++ [i] := by rw [ordOf_append]; rfl
          rw [e1, envL_one, k5 hL]; exact h2 (bf i) _ hfin
        · refine h.sat.perm ?_
          have := (hper.append_left (F :: own)).trans (List.perm_middle (a := blk (bf i) (cur i)) (l₁ := F :: own) (l₂ := plH cur bf (pl.erase i)))
          refine this.trans ?_
          simpa using List.Perm.swap F (blk (bf i) (cur i)) (own ++ plH cur bf (pl.erase i))
        · rcases snoc_split hp with ⟨t', rfl⟩ | ⟨rfl, rfl, -⟩
          · exact (h.kn p jt t' rfl).congr (fun _ _ => rfl) rfl rfl (fun _ _ _ => ⟨rfl, rfl⟩) ⟨[blk (bf i) (cur i)], by simpa using (List.perm_append_comm (l₁ := [blk (bf i) (cur i)]) (l₂ := own))⟩
          · exact hL
        · rw [List.Nodup.mem_erase_iff h.pn, h.pm j]
          constructor
          · rintro ⟨g0, g1, g2, g3⟩
            refine ⟨List.mem_append.2 (.inl g1), g2, ?_⟩
            rcases List.mem_cons.1 g3 with g3 | g3
            · cases g3; exact absurd rfl g0
            · exact g3
          · rintro ⟨g1, g2, g3⟩
            refine ⟨fun e => ?_, ?_, g2, List.mem_cons_of_mem _ g3⟩
            · subst e
              have := ho.ordNodup
              rw [he, ordOf_append] at this
              refine (List.nodup_append.1 this).2.2 j ?_ j (mem_ordOf (it := .rv j) g3 rfl) rfl
              exact mem_ordOf (it := .rv j) (by simp) rfl
            · rcases List.mem_append.1 g1 with g1 | g1
              · exact g1
              · cases List.mem_singleton.1 g1
      · refine ⟨_, _, _, _, _, _, _, h, ?_⟩
        show L.getD i false = false ∨ _
        cases hL : L.getD i false with
        | false => exact .inl rfl
        | true =>
          right
          refine Classical.byContradiction fun hno => hW ⟨hL, fun k x hk hx => ?_⟩
          cases hLk : L.getD k false with
          | true => rfl
          | false => exact (hno ⟨k, x, hk, hx, hLk⟩).elim
    | h c m => exact ⟨_, _, _, _, _, _, _, h, trivial⟩

end
end Go.SL.DM
end
section
/- A region that draws its order, with entries put into new maps. -/
set_option linter.unusedVariables false
namespace Go.SL.DM
open Go.SL
section
theorem back_listed {all : Array Oper} (h : dok all = true) {L : Array Bool} (hsz : L.size = all.size) (hr : Region.ready .any all L = []) : ∀ i, i < all.size → L.getD i false = true := by
  intro i
  induction i using Nat.strongRecOn with
  | _ i ih =>
    intro hi
    cases hL : L.getD i false with
    | true => rfl
    | false =>
      exfalso
      have ho : all[i]? = some all[i] := Array.getElem?_eq_getElem hi
      have : i ∈ Region.ready .any all L := by
        unfold Region.ready
        rw [List.mem_filter]
        refine ⟨List.mem_range.2 hi, ?_⟩
        have hLt : L.getD i true = false := by
          have hlt : i < L.size := by omega
          simp only [Array.getD, hlt, dif_pos] at hL ⊢; exact hL
        simp only [hLt, Bool.not_false, Bool.true_and, ho, Option.map_some, Option.getD_some]
        rw [Array.all_eq_true']
        intro e he
        cases hb : Region.binds .any e with
        | false => rfl
        | true =>
          have hlt : e.on < i := dok_low h ho he hb
          simpa using ih e.on hlt (by omega)
      rw [hr] at this; cases this
theorem lastW_some {all : Array Oper} {L : Nat → Bool} {s j : Nat} : ∀ {m : Nat}, j < m → L j = true → (all[j]?).bind (·.dst) = some s → ∃ k, lastW all L s m = some k := by
  intro m
  induction m with
  | zero => intro h; omega
  | succ m ih =>
    intro hj hL hd
    simp only [lastW]
    by_cases e : j = m
    · subst e; rw [hL, hd]; simp
    · split
      · exact ⟨m, rfl⟩
      · exact ih (by omega) hL hd
theorem findNow_none {d : TypeDesc} {k : Value} : ∀ {l : List MapEntry} {i : Nat}, (∀ e ∈ l, Instr.sameNow d k e.key = some false) → Instr.findNow d k l i = some none
  | [], i, _ => rfl
  | e :: l, i, h => by
    simp only [Instr.findNow, h e (List.mem_cons_self ..)]
    exact findNow_none fun e' he => h e' (List.mem_cons_of_mem _ he)
theorem swp_drawM {P : Program} {r : Option Nat} {F : Heap} {n : Nat} {Q : SPost} {env : Env} {own : List Heap} {ds : List Deferred} {id : Nat} {ops : Array Oper} {its : List It} (prot : List Heap) (hpr : ∃ Y, own.Perm (prot ++ Y))
    (hok : dok ops = true) (hmx : P.follows .mixedOrders = true) (hits : itsOk ops its = true) (hdst : ∀ (i d : Nat), (ops[i]?).bind (·.dst) = some d → d < n)
    (h : Chain P F n ops prot (fun env own => Q .normal env own ds) its env own (fun _ => none) (fun _ => none)) : SWP P r F n (.region id ops true) Q env own ds := by
  intro a0 w0 ha0 hd0 hs0
  refine wpIn_region_draw fun t => ?_
  obtain ⟨md, t', hsch⟩ : ∃ md t', Region.schedule (P.follows .mixedOrders) ops t = Region.linearise md ops t' ∧ md = .any := ⟨.any, t, by unfold Region.schedule; rw [hmx]; rfl, rfl⟩
  obtain ⟨hsch, hmd⟩ := hsch
  rw [hsch]
  have ho := itsOk_spec hits
  let Inv : Array Bool → Act → World → Prop := fun L a w => ∃ pre post val own an en cur bf pl, CI P F n ops prot (fun env own => Q .normal env own ds) its env a0 ds pre post val own an en cur bf pl L a w ∧ Stuck en L post
  have hend : ∀ L a w, Inv L a w → (∀ i, i < ops.size → L.getD i false = true) → Lift F n Q .normal a w := by
    rintro L a w ⟨pre, post, val, own, an, en, cur, bf, pl, h, hst⟩ hall
    have hpost : post = [] := by
      cases post with
      | nil => rfl
      | cons it r =>
        exfalso
        have hlt : it.exec = true → False := fun hx => by
          have h1 := h.un it (List.mem_cons_self ..) hx
          have hs : it.sets = true ∨ it.sets = false := by cases it.sets <;> simp
          have : it.ix < ops.size := by
            have hm : it.ix ∈ exOf its := by rw [h.e]; exact mem_exOf (by simp) hx
            cases it with
            | an i =>
              -- it is shown somewhere
              by_cases hb : i < ops.size
              · exact hb
              · exfalso; cases hst
            | q i => exact ho.ordLt i (by rw [h.e]; exact mem_ordOf (it := .q i) (by simp) rfl)
            | f i => exact ho.ordLt i (by rw [h.e]; exact mem_ordOf (it := .f i) (by simp) rfl)
            | r i => exact ho.ordLt i (by rw [h.e]; exact mem_ordOf (it := .r i) (by simp) rfl)
            | rv i => cases hx
            | h c i => exact ho.ordLt i (by rw [h.e]; exact mem_ordOf (it := .h c i) (by simp) rfl)
            | fi i j => exact ho.ordLt i (by rw [h.e]; exact mem_ordOf (it := .fi i j) (by simp) rfl)
          rw [hall _ this] at h1; cases h1
        cases it with
        | rv i =>
          have : i < ops.size := ho.ordLt i (by rw [h.e]; exact mem_ordOf (it := .rv i) (by simp) rfl)
          have hst' : L.getD i false = false ∨ ∃ k x, en k = some x ∧ x.1 = i ∧ L.getD k false = false := hst
          rcases hst' with hst' | ⟨k, x, hk, -, hst'⟩
          · rw [hall _ this] at hst'; cases hst'
          · have hlt : k < ops.size := ho.ordLt k (by rw [h.e]; exact mem_ordOf (it := .fi k x.1) (List.mem_append.2 (.inl (h.ei k x hk))) rfl)
            rw [hall _ hlt] at hst'; cases hst'
        | _ => exact hlt rfl
    subst hpost
    have hpre : its = pre := by rw [h.e, List.append_nil]
    have hpl : pl = [] := by
      cases pl with
      | nil => rfl
      | cons i l => have := ((h.pm i).1 (List.mem_cons_self ..)).2.2; cases this
    have hsat := h.sat
    rw [hpl] at hsat
    refine ⟨by simp, _, _, has_prefix ho hdst ha0 (p := its) (t := []) (val := val) (by simp) h.s2 (fun s hs => ?_), by simpa [plH] using hsat, ?_⟩
    · rw [h.sl s hs]
      simp only [atL]
      rw [lastW_congr (L := fun i => L.getD i false) (L' := fun j => (ordOf its).contains j) fun j hj _ => by rw [hall j hj]; simpa using ho.ordMem j hj]
    · rw [h.s3, hpre]; exact h.ch
  have key : ∀ fuel L a w, Inv L a w → fuel + cnt L ops.size = ops.size → wpAnyIn (fen r) 0 P md ops (Lift F n Q) fuel L a w := by
    intro fuel
    induction fuel with
    | zero =>
      intro L a w hI hf
      have hall := cnt_full ops.size (by omega : cnt L ops.size = ops.size)
      refine ⟨?_, hend L a w hI hall⟩
      obtain ⟨pre, post, val, own, an, en, cur, bf, pl, h, hst⟩ := hI
      unfold Region.ready
      rw [List.filter_eq_nil_iff]
      intro i hi
      have hi' := List.mem_range.1 hi
      have hL := hall i hi'
      have hLt : L.getD i true = true := by
        have hlt : i < L.size := by rw [h.s1]; exact hi'
        simp only [Array.getD, hlt, dif_pos] at hL ⊢; exact hL
      simp [hLt]
    | succ fuel ih =>
      intro L a w hI hf
      refine ⟨fun hr => hend L a w hI (by obtain ⟨pre, post, val, own, an, en, cur, bf, pl, h, hst⟩ := hI; exact back_listed hok h.s1 (hmd ▸ hr)), fun i hi => ?_⟩
      obtain ⟨pre, post, val, own, an, en, cur, bf, pl, h, hst⟩ := hI
      unfold Region.ready at hi
      rw [List.mem_filter] at hi
      obtain ⟨hi1, hi2⟩ := hi
      have hi1 := List.mem_range.1 hi1
      have hilt : i < L.size := by rw [h.s1]; exact hi1
      have hio : ops[i]? = some ops[i] := Array.getElem?_eq_getElem hi1
      simp only [hio, Option.map_some, Option.getD_some, Bool.and_eq_true, Bool.not_eq_true', Array.all_eq_true'] at hi2
      obtain ⟨hnl0, hrd⟩ := hi2
      have hnl : L.getD i false = false := by simp only [Array.getD, hilt, dif_pos] at hnl0 ⊢; exact hnl0
      have hrd' : ∀ e ∈ ops[i].after, Region.binds .any e = true → L.getD e.on false = true := fun e he hb => by
        have := hrd e he; rw [binds_any hb] at this; simpa using this
      have hready : ∀ j, Pre ops j i → L.getD j false = true := fun j hj => hj.ready (L := fun j => L.getD j false) h.s4 hio hrd'
      have hdown : ∀ j o, (L.setIfInBounds i true).getD j false = true → ops[j]? = some o → ∀ e ∈ o.after, Region.binds .any e = true → (L.setIfInBounds i true).getD e.on false = true := by
        intro j o hj ho e he hb
        rw [getD_set hilt] at hj ⊢
        by_cases e' : e.on = i
        · rw [if_pos e']
        · rw [if_neg e']
          by_cases ej : j = i
          · subst ej; rw [hio] at ho; cases ho; exact hrd' e he hb
          · rw [if_neg ej] at hj; exact h.s4 j o hj ho e he hb
      have hcnt : fuel + cnt (L.setIfInBounds i true) ops.size = ops.size := by rw [cnt_set hilt hnl, if_pos hi1]; omega
      have hsz2 : ∀ u, (a.put (ops[i]).dst u).tmps.size = n := fun u => by cases (ops[i]).dst <;> simp [Act.put, h.s2]
      have hdf2 : ∀ u, (a.put (ops[i]).dst u).defers = ds := fun u => by cases (ops[i]).dst <;> simp [Act.put, h.s3]
      have hLo : ∀ j, j ≠ i → (L.setIfInBounds i true).getD j false = L.getD j false := fun j hj => by rw [getD_set hilt, if_neg hj]
      have hLi : (L.setIfInBounds i true).getD i false = true := by rw [getD_set hilt, if_pos rfl]
      have fin : ∀ {pre' post' val' own' an' en' cur' bf' pl' a' w'}, CI P F n ops prot (fun env own => Q .normal env own ds) its env a0 ds pre' post' val' own' an' en' cur' bf' pl' (L.setIfInBounds i true) a' w' → wpAnyIn (fen r) 0 P md ops (Lift F n Q) fuel (L.setIfInBounds i true) a' w' := fun hc => by
        obtain ⟨pre', post', val', own', an', en', pl', hc', hst'⟩ := advance ho hc
        exact ih _ _ _ ⟨pre', post', val', own', an', en', _, _, pl', hc', hst'⟩ hcnt
      have hrq : ∀ j, .rv j ∈ pre → ∀ k x, en k = some x → x.1 = j → (L.setIfInBounds i true).getD k false = true := fun j hj k x hk hx => by
        by_cases ek : k = i
        · subst ek; exact hLi
        · rw [hLo k ek]; exact h.rq j hj k x hk hx
      -- what is put into maps, behind it
      have cu2 : en i = none → ∀ l ∈ pl, ∀ vf ob, an l = some (vf, ob) → FinO (entsOf en (fun k => (L.setIfInBounds i true).getD k false) ops.size l) ob (cur l) := fun hen l hl vf ob ha => by
        refine (h.cu l hl vf ob ha).perm ?_
        have := entsOf_set (en := en) (j := l) hi1 hilt hnl
        rw [hen, List.append_nil] at this
        exact this.symm
      -- where it stands
      have hmem := ho.exMem i hi1
      rw [h.e, exOf_append] at hmem
      rcases List.mem_append.1 hmem with hmem | hmem
      · obtain ⟨p, it, t2, hp, hx, hix⟩ := exOf_mem hmem
        have hsplit : its = p ++ it :: (t2 ++ post) := by rw [h.e, hp]; simp
        have hio' : ops[it.ix]? = some ops[i] := by rw [hix]; exact hio
        obtain ⟨a'', ha'', hlook⟩ := ci_frame hok ho hdst ha0 h.s2 h.s4 h.sl hsplit hx hio' (by rw [hix]; exact hnl) (by rw [hix]; exact hready)
        have hkn := h.kn p it t2 hp
        have hen : (∀ i' j', it ≠ .fi i' j') → en i = none := fun hnf => by
          cases e : en i with
          | none => rfl
          | some x =>
            exfalso
            have hin := h.ei i x e
            have q1 := ex_notin ho hsplit hx
            rw [hp] at hin
            rcases List.mem_append.1 hin with hin | hin
            · exact q1.1 (by rw [hix]; exact mem_exOf (it := .fi i x.1) hin rfl)
            · rcases List.mem_cons.1 hin with hin | hin
              · exact hnf _ _ hin.symm
              · exact q1.2 (by rw [exOf_append, hix]; exact List.mem_append.2 (.inl (mem_exOf (it := .fi i x.1) hin rfl)))
        -- the state behind one whose value was known
        have next : ∀ w' cur2, val i = val i → Sat (F :: own ++ plH cur2 bf pl) w' → (∀ j, it ≠ .an j) → (∀ l ∈ pl, ∀ vf ob, an l = some (vf, ob) → FinO (entsOf en (fun k => (L.setIfInBounds i true).getD k false) ops.size l) ob (cur2 l)) → wpAnyIn (fen r) 0 P md ops (Lift F n Q) fuel (L.setIfInBounds i true) (a.put (ops[i]).dst (val i)) w' := fun w' cur2 _ hs' hna hcu2 => by
          refine fin (pre' := pre) (post' := post) (val' := val) (own' := own) (an' := an) (en' := en) (cur' := cur2) (bf' := bf) (pl' := pl) ⟨by simpa using h.s1, hsz2 _, hdf2 _, hdown, h.e, ci_slots hok h.s2 h.s4 h.sl hio hilt h.s1 hnl val _ rfl (fun _ _ => rfl), h.ch, hs', fun p' jt t' hp' => ?_, fun x hx' hxe => ?_, h.pr, h.pn, fun j => ?_, hcu2, h.ei, h.ed, hrq⟩
          · have hk := h.kn p' jt t' hp'
            cases jt with
            | q j =>
              obtain ⟨o, hsub, h1, h2, h3⟩ := hk
              refine ⟨o, hsub, h1, h2, fun hl => h3 ?_⟩
              by_cases ej : j = i
              · subst ej; rw [hLi] at hl; cases hl
              · rwa [hLo j ej] at hl
            | f j => exact hk
            | r j => exact hk
            | an j =>
              obtain ⟨o, vf, ob, h1, h2, h3, h4, h5⟩ := hk
              refine ⟨o, vf, ob, h1, h2, h3, h4, fun hl => h5 ?_⟩
              by_cases ej : j = i
              · exfalso
                subst ej
                have hj2 : its = p' ++ .an j :: (t' ++ post) := by rw [h.e, hp']; simp
                have q1 := ex_notin ho hj2 rfl
                have hin : it ∈ pre := by rw [hp]; simp
                rw [hp'] at hin
                rcases List.mem_append.1 hin with hin | hin
                · exact q1.1 (by rw [show (It.an j).ix = it.ix from hix.symm]; exact mem_exOf hin hx)
                · rcases List.mem_cons.1 hin with hin | hin
                  · exact hna j hin
                  · exact q1.2 (by rw [exOf_append, show (It.an j).ix = it.ix from hix.symm]; exact List.mem_append.2 (.inl (mem_exOf hin hx)))
              · rwa [hLo j ej] at hl
            | rv j =>
              show (L.setIfInBounds i true).getD j false = true
              by_cases ej : j = i
              · subst ej; exact hLi
              · rw [hLo j ej]; exact hk
            | h c j =>
              show (L.setIfInBounds i true).getD j false = true
              by_cases ej : j = i
              · subst ej; exact hLi
              · rw [hLo j ej]; exact hk
            | fi i2 j => exact hk
          · rw [hLo]
            · exact h.un x hx' hxe
            · intro e
              have q2 := (ex_notin ho hsplit hx).2
              rw [hix, ← e, exOf_append] at q2
              exact q2 (List.mem_append.2 (.inr (mem_exOf hx' hxe)))
          · rw [h.pm j]
            by_cases ej : j = i
            · subst ej
              rw [hnl, hLi]
              refine ⟨fun g => by simp at g, fun ⟨g1, _, g3⟩ => ?_⟩
              exfalso
              obtain ⟨q1, q2, hq⟩ := List.append_of_mem g1
              have hj2 : its = q1 ++ .an j :: (q2 ++ post) := by rw [h.e, hq]; simp
              have hn := ex_notin ho hj2 rfl
              have hin : it ∈ pre := by rw [hp]; simp
              rw [hq] at hin
              rcases List.mem_append.1 hin with hin | hin
              · exact hn.1 (by rw [show (It.an j).ix = it.ix from hix.symm]; exact mem_exOf hin hx)
              · rcases List.mem_cons.1 hin with hin | hin
                · exact hna j hin
                · exact hn.2 (by rw [exOf_append, show (It.an j).ix = it.ix from hix.symm]; exact List.mem_append.2 (.inl (mem_exOf hin hx)))
            · rw [hLo j ej]
        -- one that is quiet
        have quiet : ∀ {F1 : Heap} {own1 Y : List Heap} , condAt P F1 n ops own1 (envL ops val (ordOf p) env) ops[i] (val i) → Sat (F1 :: own1 ++ Y) w →
            (∀ w', Sat (F1 :: own1 ++ Y) w' → Sat (F :: own ++ plH cur bf pl) w') → (∀ j, it ≠ .an j) → (∀ i' j', it ≠ .fi i' j') →
            wpOpIn (fen r) 0 P ops (Lift F n Q) i (wpAnyIn (fen r) 0 P md ops (Lift F n Q) fuel (L.setIfInBounds i true)) a w := by
          intro F1 own1 Y hc hs hk hna hnf
          have hlook := fun s hs => hlook s hs (fun i' j' e => (hnf i' j' e).elim)
          rcases hc.1 with ⟨hg, hvv⟩ | ⟨hg, hu, hpl⟩
          · simp only [wpOpIn, hio, (wanted_looks hlook).trans (wanted_of ha'' hg), if_true]
            refine ⟨fun f _ => by simp, ?_⟩
            rw [fen_round, semAt_plain hvv.1, eval_looks hlook (dok_plain hok hio)]
            obtain ⟨w', s', g1 | ⟨g1, g2⟩ | ⟨f, args, g1, g2⟩⟩ := hvv.2 a'' w Y ha'' hs
            · rw [g1]; exact next w' cur rfl (hk w' s') hna (cu2 (hen hnf))
            · rw [g1]
              have := next w' cur rfl (hk w' s') hna (cu2 (hen hnf))
              rw [g2] at this; exact this
            · rw [g1]
              refine ⟨fun hx => by simp at hx, (callsIn_fen _ g2).mono ?_⟩
              rintro e w'' ⟨rfl, s2⟩
              exact next w'' cur rfl (hk w'' s2) hna (cu2 (hen hnf))
          · simp only [wpOpIn, hio, (wanted_looks hlook).trans (wanted_of ha'' hg)]
            refine ⟨fun f _ => by simp, ?_⟩
            have := next w cur rfl (hk w hs) hna (cu2 (hen hnf))
            rw [hu] at this; exact this
        cases it with
        | q j =>
          obtain rfl : j = i := hix
          obtain ⟨o, hsub, h1, h2, h3⟩ := hkn
          rw [hio] at h1; cases h1
          obtain ⟨Y, hY⟩ := h3 hnl
          have pp : (F :: own ++ plH cur bf pl).Perm (F :: hsub ++ (Y ++ plH cur bf pl)) := by
            have := (hY.append_right (plH cur bf pl)).cons F
            simpa [List.append_assoc] using this
          exact quiet h2 (h.sat.perm pp) (fun w' s' => s'.perm pp.symm) (fun _ e => by cases e) (fun _ _ e => by cases e)
        | f j =>
          obtain rfl : j = i := hix
          obtain ⟨o, h1, h2⟩ := hkn
          rw [hio] at h1; cases h1
          have hemp : Sat (emp :: (F :: own ++ plH cur bf pl)) w := ⟨fun k hk => by
            rcases List.mem_cons.1 hk with rfl | hk
            · intro b o e; cases e
            · exact h.sat.le k hk, List.pairwise_cons.2 ⟨fun _ _ _ _ _ e _ => (by cases e), h.sat.dj⟩⟩
          exact quiet (Y := F :: own ++ plH cur bf pl) h2 (by simpa using hemp) (fun w' s' => s'.tail) (fun _ e => by cases e) (fun _ _ e => by cases e)
        | r j =>
          obtain rfl : j = i := hix
          obtain ⟨o, h1, h2⟩ := hkn
          rw [hio] at h1; cases h1
          obtain ⟨Y, hY⟩ := h.pr
          have pp : (F :: own ++ plH cur bf pl).Perm (F :: prot ++ (Y ++ plH cur bf pl)) := by
            have := (hY.append_right (plH cur bf pl)).cons F
            simpa [List.append_assoc] using this
          exact quiet h2 (h.sat.perm pp) (fun w' s' => s'.perm pp.symm) (fun _ e => by cases e) (fun _ _ e => by cases e)
        | rv j => cases hx
        | h c j =>
          obtain rfl : j = i := hix
          rw [show L.getD j false = true from hkn] at hnl; cases hnl
        | fi i2 j =>
          obtain rfl : i2 = i := hix
          obtain ⟨dd, kv, xv, en0, hins, heni⟩ := hkn
          obtain ⟨o, t, d, k, x, kt, et, vf, g1, g2, g3, g4, g5, g6, g7, g8, g9, g10, g11, g12, g13, g14, g15, -⟩ := hins.ex
          rw [hio] at g1; cases g1
          obtain ⟨c51, c52⟩ := ho.c5 p i2 j (t2 ++ post) hsplit
          have hLj : L.getD j false = true := hready j c52
          have hjlt : j < ops.size := by
            cases e : ops[j]? with
            | none => rw [e] at g5; cases g5
            | some _ => exact (Array.getElem?_eq_some_iff.1 e).1
          have hanpre : .an j ∈ pre := by rw [hp]; exact List.mem_append.2 (.inl c51)
          -- it is not shown yet
          have hrv : .rv j ∈ post := by
            have h1 := ho.ordMem j hjlt
            obtain ⟨p1, it', p2, hp12, hs', hx'⟩ := ordOf_mem h1
            have excl : it'.exec = true → (∀ k, it' ≠ .an k) → False := fun hx8 hna8 => by
              obtain ⟨q1, q2, hq12⟩ := List.append_of_mem hanpre
              have hn := ex_notin ho (p := q1) (t := q2 ++ post) (it := .an j) (by rw [h.e, hq12]; simp) rfl
              have hin : (p1 ++ it' :: p2) = (q1 ++ .an j :: (q2 ++ post)) := by rw [← hp12, h.e, hq12]; simp
              have hmem : it' ∈ q1 ++ .an j :: (q2 ++ post) := hin ▸ List.mem_append.2 (.inr (List.mem_cons_self ..))
              rcases List.mem_append.1 hmem with hm | hm
              · exact hn.1 (by have := mem_exOf hm hx8; rw [hx'] at this; exact this)
              · rcases List.mem_cons.1 hm with hm | hm
                · exact hna8 j hm
                · exact hn.2 (by have := mem_exOf hm hx8; rw [hx'] at this; exact this)
            have hrvits : it' = .rv j := by
              cases it' with
              | rv k => rw [show k = j from hx']
              | an k => cases hs'
              | _ => exact (excl rfl fun _ e => by cases e).elim
            have hits : .rv j ∈ its := by rw [hp12, hrvits]; simp
            rw [h.e] at hits
            rcases List.mem_append.1 hits with hm | hm
            · have := h.rq j hm i2 _ heni rfl
              rw [hnl] at this; cases this
            · exact hm
          have hjpl : j ∈ pl := (h.pm j).2 ⟨hanpre, hLj, hrv⟩
          -- where it lies
          have hval : val j = .map (some (bf j)) := by
            obtain ⟨q1, q2, hq12⟩ := List.append_of_mem hanpre
            obtain ⟨o3, vf3, ob3, k1, k2, k3, k4, k5⟩ := h.kn q1 (.an j) q2 hq12
            rw [g14] at k4; cases k4
            rw [k5 hLj, g15]
          obtain ⟨es, clk, hcur, hes⟩ := h.cu j hjpl vf _ g14
          have hes' : (es.toList.map fun e => (e.key, e.val)).Perm (entsOf en (fun k => L.getD k false) ops.size j) := by simpa using hes
          have hper : (F :: own ++ plH cur bf pl).Perm (blk (bf j) (.map es clk) :: (F :: own ++ plH cur bf (pl.erase j))) := by
            have h8 := (List.perm_cons_erase hjpl).map (fun i => blk (bf i) (cur i))
            simp only [List.map_cons, hcur] at h8
            exact (h8.append_left (F :: own)).trans (List.perm_middle (a := blk (bf j) (.map es clk)) (l₁ := F :: own) (l₂ := plH cur bf (pl.erase j)))
          have s1 := h.sat.perm hper
          have hb : w.heap[bf j]? = some (.map es clk) := s1.at (List.mem_cons_self ..) (blk_self _ _)
          -- what it looks at
          have hslot : a.tmps[d]? = some (.map (some (bf j))) := by
            rw [h.sl d (hdst j d g5)]
            obtain ⟨k8, hk8⟩ := lastW_some (all := ops) (L := fun i => L.getD i false) (s := d) hjlt hLj g5
            simp only [atL, hk8]
            rw [g6 k8 (lastW_isW hk8).2.1, hval]
          have hev : ∀ {y : Operand} {v : Value}, y ∈ [k, x] → y ≠ .tmp d → ev (envL ops val (ordOf p) env) y = some v → a.eval y = v := fun {y v} hy hne he => by
            rw [← ha''.eval he]
            cases y with
            | tmp s =>
              have hs8 : s ∈ (ops[i2]).looksAt ops := by
                unfold Oper.looksAt
                refine List.mem_append.2 (.inl ?_)
                rw [List.mem_filterMap]
                refine ⟨.tmp s, ?_, rfl⟩
                rw [g2]
                simp only [Op.operands]
                rcases List.mem_cons.1 hy with rfl | hy
                · simp
                · have := List.mem_singleton.1 hy; subst this; simp
              have := hlook s hs8 fun i' j' e => by
                cases e
                rw [g5]
                intro e; cases e; exact hne rfl
              simp only [Act.eval, Array.getD_eq_getD_getElem?, this]
            | _ => rfl
          have hem : a.eval (.tmp d) = .map (some (bf j)) := by simp only [Act.eval, Array.getD_eq_getD_getElem?, hslot]; rfl
          have hek := hev (by simp) g7 g9
          have hex := hev (by simp) g8 g10
          have hfind : Instr.findNow dd kv es.toList 0 = some none := by
            refine findNow_none fun e he => ?_
            have hm : (e.key, e.val) ∈ entsOf en (fun k => L.getD k false) ops.size j := hes'.mem_iff.1 (List.mem_map.2 ⟨e, he, rfl⟩)
            rw [entsOf_eq, List.mem_filterMap] at hm
            obtain ⟨k9, -, hk9⟩ := hm
            simp only [entAt] at hk9
            split at hk9
            · rename_i j' dl kv' xv' hL9 he9
              split at hk9
              · rename_i ej
                subst ej
                cases hk9
                exact h.ed i2 k9 j' dd kv xv dl _ _ heni he9 fun e2 => by subst e2; rw [hnl] at hL9; cases hL9
              · cases hk9
            · cases hk9
          let w2 : World := { w with heap := w.heap.setIfInBounds (bf j) (.map (es.push { key := kv, val := xv, born := clk }) (clk + 1)) }
          have hlt := (Array.getElem?_eq_some_iff.1 hb).1
          have hrun : (execOp a.eval ops[i2]).run P w = .ok .skip w2 := by
            simp [execOp, g2, hem, hek, hex, Instr.mapUpdate, run_und g11, getObj, setObj, Sem.run, hb, g13, Instr.findKey, run_und g12, hfind, w2]
          have hwant : Region.wanted ops[i2] (yielded ops a.tmps) = true := by unfold Region.wanted; rw [g4]
          simp only [wpOpIn, hio, hwant, if_true]
          refine ⟨fun f _ => by simp, ?_⟩
          rw [fen_round, semAt_plain (by rw [g2]; rfl), hrun, Oper.uponIn_skip]
          let cur2 : Nat → Obj := fun l => if l = j then .map (es.push { key := kv, val := xv, born := clk }) (clk + 1) else cur l
          have u1 : cur2 j = .map (es.push { key := kv, val := xv, born := clk }) (clk + 1) := by simp [cur2]
          have u2 : ∀ l, l ≠ j → cur2 l = cur l := fun l hl => by simp only [cur2]; rw [if_neg hl]
          have s2 : Sat (blk (bf j) (.map (es.push { key := kv, val := xv, born := clk }) (clk + 1)) :: (F :: own ++ plH cur bf (pl.erase j))) w2 :=
            s1.put (by simp [w2, hlt]) rfl rfl (fun l hl => by simp only [w2]; rw [Array.getElem?_setIfInBounds_ne (Ne.symm hl)]) (fun _ => rfl)
          have hsat2 : Sat (F :: own ++ plH cur2 bf pl) w2 := by
            refine s2.perm ?_
            have h8 := (List.perm_cons_erase hjpl).map (fun i => blk (bf i) (cur2 i))
            simp only [List.map_cons, u1] at h8
            have h9 : plH cur2 bf (pl.erase j) = plH cur bf (pl.erase j) := plH_congr fun l hl => ⟨u2 l fun e => by subst e; exact (List.Nodup.not_mem_erase h.pn) hl, rfl⟩
            have h10 : (pl.erase j).map (fun i => blk (bf i) (cur2 i)) = plH cur bf (pl.erase j) := h9
            rw [h10] at h8
            exact ((h8.append_left (F :: own)).trans (List.perm_middle (a := blk (bf j) (.map (es.push { key := kv, val := xv, born := clk }) (clk + 1))) (l₁ := F :: own) (l₂ := plH cur bf (pl.erase j)))).symm
          have hgo := next w2 cur2 rfl hsat2 (fun _ e => by cases e) fun l hl vf2 ob2 ha2 => by
            have hset := entsOf_set (en := en) (j := l) hi1 hilt hnl
            rw [heni] at hset
            by_cases el : l = j
            · subst el
              rw [g14] at ha2; cases ha2
              rw [u1]
              refine ⟨_, _, rfl, ?_⟩
              simp only [if_true] at hset
              have : (es.push { key := kv, val := xv, born := clk }).toList.map (fun e => (e.key, e.val)) = es.toList.map (fun e => (e.key, e.val)) ++ [(kv, xv)] := by simp
              rw [this]
              simpa using (hes'.append_right [(kv, xv)]).trans hset.symm
            · rw [u2 l el]
              have hne : ¬ j = l := fun e => el e.symm
              simp only [hne, if_false, List.append_nil] at hset
              exact (h.cu l hl vf2 ob2 ha2).perm hset.symm
          rw [g3] at hgo ⊢
          exact hgo
        | an j =>
          obtain rfl : j = i := hix
          obtain ⟨o, vf, ob, h1, h2, h3, h4, h5⟩ := hkn
          rw [hio] at h1; cases h1
          have hlook := fun s hs => hlook s hs (fun i' j' e => by cases e)
          simp only [wpOpIn, hio, (wanted_looks hlook).trans (wanted_of ha'' h2), if_true]
          refine ⟨fun f _ => by simp, ?_⟩
          rw [fen_round, semAt_plain h3.1, eval_looks hlook (dok_plain hok hio), h3.2.2 a'' w ha'']
          show wpAnyIn (fen r) 0 P md ops (Lift F n Q) fuel (L.setIfInBounds j true) (a.put (ops[j]).dst (vf w.heap.size)) _
          let val' : Nat → Value := fun k => if k = j then vf w.heap.size else val k
          let bf' : Nat → Nat := fun k => if k = j then w.heap.size else bf k
          let cur' : Nat → Obj := fun k => if k = j then ob else cur k
          have u1 : cur' j = ob := by simp [cur']
          have u2 : ∀ k, k ≠ j → cur' k = cur k := fun k hk => by simp only [cur']; rw [if_neg hk]
          have v1 : val' j = vf w.heap.size := by simp [val']
          have v2 : ∀ k, k ≠ j → val' k = val k := fun k hk => by simp only [val']; rw [if_neg hk]
          have b1 : bf' j = w.heap.size := by simp [bf']
          have b2 : ∀ k, k ≠ j → bf' k = bf k := fun k hk => by simp only [bf']; rw [if_neg hk]
          have hjo : j ∉ ordOf pre := fun hj => by
            obtain ⟨p1, it', p2, hp12, hs', hx'⟩ := ordOf_mem hj
            have := h.kn p1 it' p2 hp12
            cases it' with
            | rv k => obtain rfl : k = j := hx'; rw [show L.getD k false = true from this] at hnl; cases hnl
            | h c k => obtain rfl : k = j := hx'; rw [show L.getD k false = true from this] at hnl; cases hnl
            | an k => cases hs'
            | fi k l =>
              obtain rfl : k = j := hx'
              have hin : It.fi k l ∈ pre := by rw [hp12]; simp
              have hn := ex_notin ho hsplit rfl
              rw [hp] at hin
              rcases List.mem_append.1 hin with hin | hin
              · exact hn.1 (mem_exOf (it := .fi k l) hin rfl)
              · rcases List.mem_cons.1 hin with hin | hin
                · cases hin
                · exact hn.2 (by rw [exOf_append]; exact List.mem_append.2 (.inl (mem_exOf (it := .fi k l) hin rfl)))
            | q k =>
              obtain rfl : k = j := hx'
              have hin : It.q k ∈ pre := by rw [hp12]; simp
              have hn := ex_notin ho hsplit rfl
              rw [hp] at hin
              rcases List.mem_append.1 hin with hin | hin
              · exact hn.1 (mem_exOf (it := .q k) hin rfl)
              · rcases List.mem_cons.1 hin with hin | hin
                · cases hin
                · exact hn.2 (by rw [exOf_append]; exact List.mem_append.2 (.inl (mem_exOf (it := .q k) hin rfl)))
            | f k =>
              obtain rfl : k = j := hx'
              have hin : It.f k ∈ pre := by rw [hp12]; simp
              have hn := ex_notin ho hsplit rfl
              rw [hp] at hin
              rcases List.mem_append.1 hin with hin | hin
              · exact hn.1 (mem_exOf (it := .f k) hin rfl)
              · rcases List.mem_cons.1 hin with hin | hin
                · cases hin
                · exact hn.2 (by rw [exOf_append]; exact List.mem_append.2 (.inl (mem_exOf (it := .f k) hin rfl)))
            | r k =>
              obtain rfl : k = j := hx'
              have hin : It.r k ∈ pre := by rw [hp12]; simp
              have hn := ex_notin ho hsplit rfl
              rw [hp] at hin
              rcases List.mem_append.1 hin with hin | hin
              · exact hn.1 (mem_exOf (it := .r k) hin rfl)
              · rcases List.mem_cons.1 hin with hin | hin
                · cases hin
                · exact hn.2 (by rw [exOf_append]; exact List.mem_append.2 (.inl (mem_exOf (it := .r k) hin rfl)))
          have hjp : j ∉ pl := fun hj => by have := ((h.pm j).1 hj).2.1; rw [hnl] at this; cases this
          have hrvpost : .rv j ∈ post := by
            have h1 := ho.ordMem j hi1
            rw [h.e, ordOf_append] at h1
            rcases List.mem_append.1 h1 with h1 | h1
            · exact absurd h1 hjo
            · obtain ⟨p1, it', p2, hp12, hs', hx'⟩ := ordOf_mem h1
              cases it' with
              | rv k => obtain rfl : k = j := hx'; rw [hp12]; simp
              | an k => cases hs'
              | fi k l =>
                exfalso
                obtain rfl : k = j := hx'
                exact (ex_notin ho hsplit rfl).2 (by rw [exOf_append]; exact List.mem_append.2 (.inr (mem_exOf (it := .fi k l) (by rw [hp12]; simp) rfl)))
              | q k =>
                exfalso
                obtain rfl : k = j := hx'
                exact (ex_notin ho hsplit rfl).2 (by rw [exOf_append]; exact List.mem_append.2 (.inr (mem_exOf (it := .q k) (by rw [hp12]; simp) rfl)))
              | f k =>
                exfalso
                obtain rfl : k = j := hx'
                exact (ex_notin ho hsplit rfl).2 (by rw [exOf_append]; exact List.mem_append.2 (.inr (mem_exOf (it := .f k) (by rw [hp12]; simp) rfl)))
              | r k =>
                exfalso
                obtain rfl : k = j := hx'
                exact (ex_notin ho hsplit rfl).2 (by rw [exOf_append]; exact List.mem_append.2 (.inr (mem_exOf (it := .r k) (by rw [hp12]; simp) rfl)))
              | h c k =>
                exfalso
                obtain rfl : k = j := hx'
                exact (ex_notin ho hsplit rfl).2 (by rw [exOf_append]; exact List.mem_append.2 (.inr (mem_exOf (it := .h c k) (by rw [hp12]; simp) rfl)))
          have vL : ∀ k, L.getD k false = true → val' k = val k := fun k hk => v2 k fun e => by rw [e, hnl] at hk; cases hk
          have vp : ∀ k ∈ ordOf pre, val' k = val k := fun k hk => v2 k fun e => hjo (e ▸ hk)
          have henj := hen (fun _ _ e => by cases e)
          refine fin (pre' := pre) (post' := post) (val' := val') (own' := own) (an' := an) (en' := en) (cur' := cur') (bf' := bf') (pl' := j :: pl) ⟨by simpa using h.s1, hsz2 _, hdf2 _, hdown, h.e, ci_slots hok h.s2 h.s4 h.sl hio hilt h.s1 hnl val' _ v1 vL, ?_, ?_, fun p' jt t' hp' => ?_, fun x hx' hxe => ?_, h.pr, List.nodup_cons.2 ⟨hjp, h.pn⟩, fun k => ?_, fun l hl vf2 ob2 ha2 => ?_, h.ei, h.ed, hrq⟩
          · rw [envL_congr vp]; exact h.ch
          · have e1 : plH cur' bf' (j :: pl) = blk w.heap.size ob :: plH cur bf pl := by
              have := plH_congr (cur := cur) (cur' := cur') (bf := bf) (bf' := bf') (pl := pl) fun k hk => ⟨u2 k fun e => hjp (e ▸ hk), b2 k fun e => hjp (e ▸ hk)⟩
              simp only [plH, List.map_cons, u1, b1] at this ⊢
              rw [this]
            rw [e1]
            have := sat_alloc h.sat ob h3.2.1
            exact this.perm (List.perm_middle (a := blk w.heap.size ob) (l₁ := F :: own) (l₂ := plH cur bf pl)).symm
          · have hk := h.kn p' jt t' hp'
            have hpo : ∀ k ∈ ordOf p', val' k = val k := fun k hk => vp k (by rw [hp', ordOf_append]; exact List.mem_append.2 (.inl hk))
            have he' : envL ops val' (ordOf p') env = envL ops val (ordOf p') env := envL_congr hpo
            have hne : jt.sets = true → jt.ix ≠ j := fun hs e => hjo (e ▸ mem_ordOf (by rw [hp']; simp) hs)
            cases jt with
            | q k =>
              obtain ⟨o, hsub, g1, g2, g3⟩ := hk
              exact ⟨o, hsub, g1, by rw [he', v2 k (hne rfl)]; exact g2, fun hl => g3 (by rwa [hLo k (hne rfl)] at hl)⟩
            | f k =>
              obtain ⟨o, g1, g2⟩ := hk
              exact ⟨o, g1, by rw [he', v2 k (hne rfl)]; exact g2⟩
            | r k =>
              obtain ⟨o, g1, g2⟩ := hk
              exact ⟨o, g1, by rw [he', v2 k (hne rfl)]; exact g2⟩
            | an k =>
              obtain ⟨o, vf2, ob2, g1, g2, g3, g4, g5⟩ := hk
              refine ⟨o, vf2, ob2, g1, by rw [he']; exact g2, by rw [he']; exact g3, g4, fun hl => ?_⟩
              by_cases ek : k = j
              · subst ek; rw [h4] at g4; cases g4; rw [v1, b1]
              · rw [v2 k ek, b2 k ek]; exact g5 (by rwa [hLo k ek] at hl)
            | rv k => show (L.setIfInBounds j true).getD k false = true; rw [hLo k (hne rfl)]; exact hk
            | h c k => show (L.setIfInBounds j true).getD k false = true; rw [hLo k (hne rfl)]; exact hk
            | fi k l =>
              obtain ⟨dd, kv, xv, en0, g1, g2⟩ := hk
              exact ⟨dd, kv, xv, en0, by rw [he']; exact g1, g2⟩
          · rw [hLo]
            · exact h.un x hx' hxe
            · intro e
              have q2 := (ex_notin ho hsplit hx).2
              rw [show (It.an j).ix = j from rfl, ← e, exOf_append] at q2
              exact q2 (List.mem_append.2 (.inr (mem_exOf hx' hxe)))
          · by_cases ek : k = j
            · subst ek
              exact ⟨fun _ => ⟨by rw [hp]; simp, hLi, hrvpost⟩, fun _ => List.mem_cons_self ..⟩
            · rw [hLo k ek, List.mem_cons, h.pm k]
              exact ⟨fun hh => hh.resolve_left ek, .inr⟩
          · by_cases el : l = j
            · subst el
              rw [h4] at ha2; cases ha2
              rw [u1, entsOf_nil fun k => ?_]
              · cases ob with
                | map es0 c0 => exact ⟨es0, c0, rfl, by simp⟩
                | _ => rfl
              · simp only [entAt]
                cases e : en k with
                | none => cases (L.setIfInBounds l true).getD k false <;> rfl
                | some x =>
                  obtain ⟨l', dd, kv, xv⟩ := x
                  by_cases ex : l' = l
                  · subst ex
                    have hkl : k ≠ l' := fun e2 => by rw [e2, henj] at e; cases e
                    rw [hLo k hkl]
                    cases hLk : L.getD k false with
                    | false => rfl
                    | true =>
                      exfalso
                      obtain ⟨p5, p6, hp56⟩ := List.append_of_mem (h.ei k _ e)
                      have h5 := (ho.c5 p5 k l' (p6 ++ post) (by rw [h.e, hp56]; simp)).2
                      have := h5.listed (L := fun j => L.getD j false) h.s4 hLk
                      rw [hnl] at this; cases this
                  · cases (L.setIfInBounds l true).getD k false <;> simp [ex]
            · rw [u2 l el]
              exact cu2 henj l ((List.mem_cons.1 hl).resolve_left el) vf2 ob2 ha2
      · -- it stands behind: it is the one that is waited for
        cases post with
        | nil => cases hmem
        | cons it rest =>
          have hwait : ∀ m, (∀ x ∈ exOf rest, Pre ops m x) → L.getD m false = false → i ∈ exOf rest → False := fun m hm hLm hir => by
            have := hready m (hm i hir); rw [hLm] at this; cases this
          cases it with
          | q _ => cases hst
          | f _ => cases hst
          | r _ => cases hst
          | an _ => cases hst
          | fi _ _ => cases hst
          | rv m =>
            have hir : i ∈ exOf rest := by simpa [exOf, It.exec] using hmem
            rcases (show L.getD m false = false ∨ ∃ k x, en k = some x ∧ x.1 = m ∧ L.getD k false = false from hst) with hst2 | ⟨k, x, hk, rfl, hst2⟩
            · exact (hwait m (ho.c2 pre m rest h.e).1 hst2 hir).elim
            · exact (hwait k ((ho.c4 pre x.1 rest h.e).1 k (h.ei k x hk)) hst2 hir).elim
          | h c m =>
            have hLm : L.getD m false = false := h.un (.h c m) (List.mem_cons_self ..) rfl
            have him : i = m := by
              have e1 : exOf (.h c m :: rest) = m :: exOf rest := rfl
              rw [e1] at hmem
              rcases List.mem_cons.1 hmem with hm | hm
              · exact hm
              · exact (hwait m (ho.c1 pre c m rest h.e) hLm hm).elim
            subst him
            obtain ⟨a'', ha'', hlook⟩ := ci_frame hok ho hdst ha0 h.s2 h.s4 h.sl h.e rfl (by exact hio) (by exact hnl) (by exact hready)
            have hlook := fun s hs => hlook s hs (fun i' j' e => by cases e)
            obtain ⟨o, ownM, ownC, R, k1, k2, k34, k5, k7, k6⟩ := h.ch
            rw [hio] at k1; cases k1
            have pp : (F :: own ++ plH cur bf pl).Perm (ownM ++ (ownC ++ (F :: plH cur bf pl))) := by
              have e1 : (F :: own ++ plH cur bf pl).Perm (own ++ (F :: plH cur bf pl)) := (List.perm_middle (a := F) (l₁ := own) (l₂ := plH cur bf pl)).symm
              refine e1.trans ?_
              have := k2.append_right (F :: plH cur bf pl)
              simpa [List.append_assoc] using this
            have cont : ∀ v own' w', R v own' → Sat (own' ++ (ownC ++ (F :: plH cur bf pl))) w' → wpAnyIn (fen r) 0 P md ops (Lift F n Q) fuel (L.setIfInBounds i true) (a.put (ops[i]).dst v) w' := ?_
            · rcases k34 with ⟨k3, k4⟩ | ⟨k3, -, k4⟩
              · exact hop_wp (X := ownC ++ (F :: plH cur bf pl)) k4 hio ((wanted_looks hlook).trans (wanted_of ha'' k3)) ha'' (eval_looks hlook (dok_plain hok hio)) (h.sat.perm pp) cont
              · simp only [wpOpIn, hio, (wanted_looks hlook).trans (wanted_of ha'' k3)]
                exact ⟨fun f _ => by simp, cont undef ownM w k4 (h.sat.perm pp)⟩
            intro v own' w' hR s2
            let val' : Nat → Value := fun k => if k = i then v else val k
            have v1 : val' i = v := by simp [val']
            have v2 : ∀ k, k ≠ i → val' k = val k := fun k hk => by simp only [val']; rw [if_neg hk]
            have vL : ∀ k, L.getD k false = true → val' k = val k := fun k hk => v2 k fun e => by rw [e, hnl] at hk; cases hk
            have hjo : i ∉ ordOf pre := ord_notin ho h.e rfl
            have vp : ∀ k ∈ ordOf pre, val' k = val k := fun k hk => v2 k fun e => hjo (e ▸ hk)
            have hnx := ex_notin ho h.e rfl
            have he2 : its = (pre ++ [.h c i]) ++ rest := by rw [h.e]; simp
            have heni : en i = none := by
              cases e : en i with
              | none => rfl
              | some x => exact (hnx.1 (mem_exOf (it := .fi i x.1) (h.ei i x e) rfl)).elim
            refine fin (pre' := pre ++ [.h c i]) (post' := rest) (val' := val') (own' := own' ++ ownC) (an' := an) (en' := en) (cur' := cur) (bf' := bf) (pl' := pl) ⟨by simpa using h.s1, hsz2 _, hdf2 _, hdown, he2, ci_slots hok h.s2 h.s4 h.sl hio hilt h.s1 hnl val' _ v1 vL, ?_, ?_, fun p' jt t' hp' => ?_, fun x hx' hxe => ?_, ?_, h.pn, fun k => ?_, cu2 heni, fun k x hk => List.mem_append.2 (.inl (h.ei k x hk)), h.ed, fun j hj => hrq j ((List.mem_append.1 hj).resolve_right fun e => by cases List.mem_singleton.1 e)⟩
            · have e1 : ordOf (pre ++ [.h c i]) = ordOf pre ++ [i] := by rw [ordOf_append]; rfl
              rw [e1, envL_one, v1, envL_congr vp]; exact k6 v own' hR
            · refine s2.perm ?_
              have e1 : (own' ++ (ownC ++ (F :: plH cur bf pl))).Perm (F :: (own' ++ ownC) ++ plH cur bf pl) := by
                rw [← List.append_assoc]; exact List.perm_middle (a := F) (l₁ := own' ++ ownC) (l₂ := plH cur bf pl)
              exact e1
            · rcases snoc_split hp' with ⟨t2, rfl⟩ | ⟨rfl, rfl, -⟩
              · have hk := h.kn p' jt t2 rfl
                have hne : jt.exec = true → jt.ix ≠ i := fun hx e => hnx.1 (by rw [show (It.h c i).ix = jt.ix from e.symm]; exact mem_exOf (by simp) hx)
                have hpo : ∀ k ∈ ordOf p', val' k = val k := fun k hk => vp k (by rw [ordOf_append]; exact List.mem_append.2 (.inl hk))
                have he' : envL ops val' (ordOf p') env = envL ops val (ordOf p') env := envL_congr hpo
                cases jt with
                | q k =>
                  obtain ⟨o, hsub, g1, g2, g3⟩ := hk
                  refine ⟨o, hsub, g1, by rw [he', v2 k (hne rfl)]; exact g2, fun hl => ?_⟩
                  rw [hLo k (hne rfl)] at hl
                  cases c with
                  | true =>
                    have := hready k (ho.c3 _ i rest h.e k (by simp))
                    rw [hl] at this; cases this
                  | false =>
                    obtain ⟨Y, hY⟩ := g3 hl
                    obtain ⟨N, hN⟩ := k5 rfl v own' hR
                    refine ⟨Y ++ N, ?_⟩
                    have q1 : (own' ++ ownC).Perm (own ++ N) := by
                      refine (hN.append_right ownC).trans ?_
                      have : ((ownM ++ N) ++ ownC).Perm ((ownM ++ ownC) ++ N) := by
                        rw [List.append_assoc, List.append_assoc]
                        exact (List.perm_append_comm (l₁ := N) (l₂ := ownC)).append_left ownM
                      exact this.trans (k2.symm.append_right N)
                    refine q1.trans ?_
                    rw [← List.append_assoc]; exact hY.append_right N
                | f k =>
                  obtain ⟨o, g1, g2⟩ := hk
                  exact ⟨o, g1, by rw [he', v2 k (hne rfl)]; exact g2⟩
                | r k =>
                  obtain ⟨o, g1, g2⟩ := hk
                  exact ⟨o, g1, by rw [he', v2 k (hne rfl)]; exact g2⟩
                | an k =>
                  obtain ⟨o, vf2, ob2, g1, g2, g3, g4, g5⟩ := hk
                  exact ⟨o, vf2, ob2, g1, by rw [he']; exact g2, by rw [he']; exact g3, g4, fun hl => by
                    rw [v2 k (hne rfl)]; exact g5 (by rwa [hLo k (hne rfl)] at hl)⟩
                | rv k =>
                  show (L.setIfInBounds i true).getD k false = true
                  by_cases ek : k = i
                  · subst ek; exact hLi
                  · rw [hLo k ek]; exact hk
                | h c' k => show (L.setIfInBounds i true).getD k false = true; rw [hLo k (hne rfl)]; exact hk
                | fi k l =>
                  obtain ⟨dd, kv, xv, en0, g1, g2⟩ := hk
                  exact ⟨dd, kv, xv, en0, by rw [he']; exact g1, g2⟩
              · exact hLi
            · rw [hLo]
              · exact h.un x (List.mem_cons_of_mem _ hx') hxe
              · intro e
                exact hnx.2 (by rw [show (It.h c i).ix = x.ix from e.symm]; exact mem_exOf hx' hxe)
            · cases c with
              | true =>
                obtain ⟨Y, hY⟩ := k7 rfl
                exact ⟨Y ++ own', (List.perm_append_comm (l₁ := own') (l₂ := ownC)).trans (by rw [← List.append_assoc]; exact hY.append_right own')⟩
              | false =>
                obtain ⟨N, hN⟩ := k5 rfl v own' hR
                obtain ⟨Y, hY⟩ := h.pr
                have q1 : (own' ++ ownC).Perm (own ++ N) := by
                  refine (hN.append_right ownC).trans ?_
                  have : ((ownM ++ N) ++ ownC).Perm ((ownM ++ ownC) ++ N) := by
                    rw [List.append_assoc, List.append_assoc]
                    exact (List.perm_append_comm (l₁ := N) (l₂ := ownC)).append_left ownM
                  exact this.trans (k2.symm.append_right N)
                exact ⟨Y ++ N, q1.trans (by rw [← List.append_assoc]; exact hY.append_right N)⟩
            · rw [h.pm k]
              constructor
              · rintro ⟨g1, g2, g3⟩
                refine ⟨List.mem_append.2 (.inl g1), ?_, ?_⟩
                · rw [hLo k fun e => by rw [e, hnl] at g2; cases g2]; exact g2
                · rcases List.mem_cons.1 g3 with g3 | g3
                  · cases g3
                  · exact g3
              · rintro ⟨g1, g2, g3⟩
                have g1' : .an k ∈ pre := by
                  rcases List.mem_append.1 g1 with g1 | g1
                  · exact g1
                  · cases List.mem_singleton.1 g1
                have hk : k ≠ i := fun e => hnx.1 (by rw [show (It.h c i).ix = (It.an k).ix from e.symm]; exact mem_exOf g1' rfl)
                exact ⟨g1', by rwa [hLo k hk] at g2, List.mem_cons_of_mem _ g3⟩
  have hrep : ∀ j, (Array.replicate ops.size false).getD j false = false := fun j => by
    rw [Array.getD_eq_getD_getElem?, Array.getElem?_replicate]; split <;> rfl
  have h0 : CI P F n ops prot (fun env own => Q .normal env own ds) its env a0 ds [] its (fun _ => undef) own (fun _ => none) (fun _ => none) (fun _ => .map #[] 0) (fun _ => 0) [] (Array.replicate ops.size false) a0 { w0 with drawn := w0.drawn + 1 } := by
    refine ⟨by simp, ha0.size, hd0, fun i o hi => ?_, rfl, fun s hs => ?_, h, ?_, fun p it t hp => ?_, fun x _ _ => hrep _, hpr, List.nodup_nil, fun i => ?_, fun l hl => (by cases hl), fun k x hk => (by cases hk), fun k l j dk kv xv dl kv' xv' hk => (by cases hk), fun j hj => (by cases hj)⟩
    · rw [hrep] at hi; cases hi
    · have hz : ∀ k, lastW ops (fun j => (Array.replicate ops.size false).getD j false) s k = none := by
        intro k
        induction k with
        | zero => rfl
        | succ k ih =>
          simp only [hrep] at ih
          simp only [lastW, hrep, Bool.false_and, Bool.false_eq_true, if_false]
          exact ih
      simp only [atL, hz]
    · exact (hs0.heap (w' := { w0 with drawn := w0.drawn + 1 }) rfl rfl rfl).perm (by simp [plH])
    · simp at hp
    · simp
  obtain ⟨pre', post', val', own', an', en', pl', hc', hst'⟩ := advance ho h0
  refine wpAnyIn_sound ops.size t' (Array.replicate ops.size false) a0 _ (key ops.size _ a0 _ ⟨pre', post', val', own', an', en', _, _, pl', hc', hst'⟩ ?_)
  have : ∀ k, cnt (Array.replicate ops.size false) k = 0 := by
    intro k
    unfold cnt
    rw [List.length_eq_zero_iff, List.filter_eq_nil_iff]
    intro i _
    simp [hrep]
  rw [this]; omega
end
end Go.SL.DM
end
