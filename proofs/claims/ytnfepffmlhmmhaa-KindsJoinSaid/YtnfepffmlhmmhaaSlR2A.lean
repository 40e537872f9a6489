/- A region that draws its order, with operations that make blocks, such that turn memory one behind the other, and entries put into a new map in whatever order. -/
import Derived.Test.YtnfepffmlhmmhaaSlQ
namespace Go.SL.DM
open Go.SL

/-- An operation that makes one block, of known contents. -/
def NewOp (P : Program) (n : Nat) (o : Oper) (env : Env) (vf : Nat → Value) (ob : Obj) : Prop :=
  plainOp o.op = true ∧ (∀ off, fzo ob off = false) ∧ ∀ a w, Has n env a → (execOp a.eval o).run P w = .ok (.value (vf w.heap.size)) { w with heap := w.heap.push ob }

/-- What is done with an operation: it is quiet; it looks at no memory; it looks at what stays as it is ('prot'); it makes a block (and the block is shown later); it turns memory (if it takes something away: 'true'). -/
inductive It
  | q (i : Nat)
  | f (i : Nat)
  | r (i : Nat)
  | an (i : Nat)
  | rv (i : Nat)
  | h (c : Bool) (m : Nat)
  | fi (i j : Nat)
def It.ix : It → Nat
  | .q i | .f i | .r i | .an i | .rv i | .h _ i | .fi i _ => i
def It.sets : It → Bool
  | .an _ => false
  | _ => true
def It.exec : It → Bool
  | .rv _ => false
  | _ => true
def ordOf (l : List It) : List Nat := (l.filter It.sets).map It.ix
def exOf (l : List It) : List Nat := (l.filter It.exec).map It.ix
theorem ordOf_append (l m : List It) : ordOf (l ++ m) = ordOf l ++ ordOf m := by simp [ordOf]
theorem exOf_append (l m : List It) : exOf (l ++ m) = exOf l ++ exOf m := by simp [exOf]
theorem ordOf_mem {l : List It} {x : Nat} (h : x ∈ ordOf l) : ∃ p it t, l = p ++ it :: t ∧ it.sets = true ∧ it.ix = x := by
  simp only [ordOf, List.mem_map, List.mem_filter] at h
  obtain ⟨it, ⟨h1, h2⟩, h3⟩ := h
  obtain ⟨p, t, e⟩ := List.append_of_mem h1
  exact ⟨p, it, t, e, h2, h3⟩
theorem exOf_mem {l : List It} {x : Nat} (h : x ∈ exOf l) : ∃ p it t, l = p ++ it :: t ∧ it.exec = true ∧ it.ix = x := by
  simp only [exOf, List.mem_map, List.mem_filter] at h
  obtain ⟨it, ⟨h1, h2⟩, h3⟩ := h
  obtain ⟨p, t, e⟩ := List.append_of_mem h1
  exact ⟨p, it, t, e, h2, h3⟩
theorem mem_exOf {l : List It} {it : It} (h : it ∈ l) (he : it.exec = true) : it.ix ∈ exOf l := by
  simp only [exOf, List.mem_map, List.mem_filter]; exact ⟨it, ⟨h, he⟩, rfl⟩
theorem mem_ordOf {l : List It} {it : It} (h : it ∈ l) (he : it.sets = true) : it.ix ∈ ordOf l := by
  simp only [ordOf, List.mem_map, List.mem_filter]; exact ⟨it, ⟨h, he⟩, rfl⟩

def isAn (i : Nat) : It → Bool
  | .an j => Nat.beq j i
  | _ => false
def isFi (j : Nat) : It → Bool
  | .fi _ k => Nat.beq k j
  | _ => false
def fiOk (bs : List Nat) (i : Nat) (l : List Nat) : It → Bool
  | .fi k j => !Nat.beq j i || l.all (fun x => (bs.getD x 0).testBit k)
  | _ => true
def fiE (k : Nat) (f : Nat → Bool) : It → Bool
  | .fi i j => !Nat.beq i k || f j
  | _ => true
def qOk (bs : List Nat) (m : Nat) : It → Bool
  | .q i => (bs.getD m 0).testBit i
  | _ => true
def itB (bs : List Nat) (pre r : List It) : It → Bool
  | .h c m => (exOf r).all (fun x => (bs.getD x 0).testBit m) && (!c || pre.all (qOk bs m))
  | .rv i => (exOf r).all (fun x => (bs.getD x 0).testBit i) && pre.any (isAn i) && pre.all (fiOk bs i (exOf r)) && r.all (fun it => !isFi i it)
  | .fi i j => pre.any (isAn j) && (bs.getD i 0).testBit j
  | _ => true
/-- May an item stand here, as far as one is concerned that is ahead of it? -/
def edgeB (pre : List It) (it : It) (k : Nat) : Bool := match it with
  | .fi _ j => Nat.beq k j || ((ordOf pre).contains k && pre.all (fiE k fun j' => Nat.beq j' j || (ordOf pre).contains j'))
  | _ => (ordOf pre).contains k && pre.all (fiE k fun j' => (ordOf pre).contains j')
def walkB (all : Array Oper) (bs : List Nat) : List It → List It → Bool
  | _, [] => true
  | pre, it :: r => (!it.exec || (match all[it.ix]? with
      | some o => o.after.toList.all fun e => !Region.binds .any e || edgeB pre it e.on
      | none => false)) && itB bs pre r it && walkB all bs (pre ++ [it]) r
theorem edgeB_ok {pre : List It} {it : It} {k : Nat} (h : edgeB pre it k = true) : (∃ i, it = .fi i k) ∨ (k ∈ ordOf pre ∧ ∀ j', .fi k j' ∈ pre → j' ∈ ordOf pre ∨ ∃ i, it = .fi i j') := by
  have fin : ∀ {f : Nat → Bool}, pre.all (fiE k f) = true → ∀ j', .fi k j' ∈ pre → f j' = true := fun {f} hh j' hj => by
    have := List.all_eq_true.1 hh _ hj
    simpa [fiE] using this
  unfold edgeB at h
  split at h
  · rename_i i j
    simp only [Bool.or_eq_true, Bool.and_eq_true] at h
    rcases h with h | ⟨h1, h2⟩
    · exact .inl ⟨i, by rw [Nat.eq_of_beq_eq_true h]⟩
    · refine .inr ⟨by simpa using h1, fun j' hj => ?_⟩
      have := fin h2 j' hj
      simp only [Bool.or_eq_true] at this
      rcases this with h3 | h3
      · exact .inr ⟨i, by rw [Nat.eq_of_beq_eq_true h3]⟩
      · exact .inl (by simpa using h3)
  · simp only [Bool.and_eq_true] at h
    exact .inr ⟨by simpa using h.1, fun j' hj => .inl (by simpa using fin h.2 j' hj)⟩
def itsOk (all : Array Oper) (its : List It) : Bool :=
  nodupB (exOf its) && nodupB (ordOf its) && (List.range all.size).all (fun i => (exOf its).contains i && (ordOf its).contains i) && (ordOf its).all (fun i => Nat.blt i all.size) &&
    ascL all (ordOf its) && walkB all (bits all.toList []) [] its

structure ItsOk (all : Array Oper) (its : List It) : Prop where
  exNodup : (exOf its).Nodup
  ordNodup : (ordOf its).Nodup
  exMem : ∀ i, i < all.size → i ∈ exOf its
  ordMem : ∀ i, i < all.size → i ∈ ordOf its
  ordLt : ∀ i ∈ ordOf its, i < all.size
  asc : AscW all (ordOf its)
  lin : ∀ p it t, its = p ++ it :: t → it.exec = true → ∀ k, Pre all k it.ix → k ∈ ordOf p ∨ ∃ i, it = .fi i k
  c1 : ∀ p c m t, its = p ++ .h c m :: t → ∀ x ∈ exOf t, Pre all m x
  c2 : ∀ p i t, its = p ++ .rv i :: t → (∀ x ∈ exOf t, Pre all i x) ∧ .an i ∈ p
  c4 : ∀ p i t, its = p ++ .rv i :: t → (∀ k, .fi k i ∈ p → ∀ x ∈ exOf t, Pre all k x) ∧ ∀ k, .fi k i ∉ t
  c5 : ∀ p i j t, its = p ++ .fi i j :: t → .an j ∈ p ∧ Pre all j i
  c3 : ∀ p m t, its = p ++ .h true m :: t → ∀ i, .q i ∈ p → Pre all i m

theorem walkB_at {all : Array Oper} {bs : List Nat} : ∀ {r pre : List It}, walkB all bs pre r = true → ∀ p it t, r = p ++ it :: t →
    (it.exec = true → ∀ o, all[it.ix]? = some o → ∀ e ∈ o.after, Region.binds .any e = true → edgeB (pre ++ p) it e.on = true) ∧ itB bs (pre ++ p) t it = true := by
  intro r
  induction r with
  | nil => intro pre _ p it t e; simp at e
  | cons x r ih =>
    intro pre h p it t e
    simp only [walkB, Bool.and_eq_true] at h
    cases p with
    | nil =>
      simp only [List.nil_append, List.cons.injEq] at e
      obtain ⟨rfl, rfl⟩ := e
      rw [List.append_nil]
      refine ⟨fun hx o ho ed hed hb => ?_, h.1.2⟩
      have h1 := h.1.1
      rw [hx, ho] at h1
      simp only [Bool.not_true, Bool.false_or, List.all_eq_true, Bool.or_eq_true, Bool.not_eq_true'] at h1
      rcases h1 ed (by simpa using hed) with h2 | h2
      · rw [hb] at h2; cases h2
      · exact h2
    | cons y p =>
      simp only [List.cons_append, List.cons.injEq] at e
      obtain ⟨rfl, rfl⟩ := e
      have := ih h.2 p it t rfl
      simpa [List.append_assoc] using this
theorem itsOk_spec {all : Array Oper} {its : List It} (h : itsOk all its = true) : ItsOk all its := by
  simp only [itsOk, Bool.and_eq_true] at h
  obtain ⟨⟨⟨⟨⟨h1, h2⟩, h3⟩, h4⟩, h5⟩, h6⟩ := h
  have hw := fun p it t e => by
    have := walkB_at h6 p it t e
    rw [List.nil_append] at this; exact this
  have hx : ∀ i, i < all.size → i ∈ exOf its ∧ i ∈ ordOf its := fun i hi => by
    have := List.all_eq_true.1 h3 i (List.mem_range.2 hi)
    simpa using this
  have c2 : ∀ p i t, its = p ++ .rv i :: t → (∀ x ∈ exOf t, Pre all i x) ∧ .an i ∈ p := fun p i t e => by
    have := (hw p _ t e).2
    simp only [itB, Bool.and_eq_true, List.all_eq_true, List.any_eq_true] at this
    refine ⟨fun x hx => bits_pre (this.1.1.1 x hx), ?_⟩
    obtain ⟨it, hit, hb⟩ := this.1.1.2
    cases it with
    | an j => simp only [isAn] at hb; rw [Nat.eq_of_beq_eq_true hb] at hit; exact hit
    | _ => cases hb
  have c4 : ∀ p i t, its = p ++ .rv i :: t → (∀ k, .fi k i ∈ p → ∀ x ∈ exOf t, Pre all k x) ∧ ∀ k, .fi k i ∉ t := fun p i t e => by
    have := (hw p _ t e).2
    simp only [itB, Bool.and_eq_true, List.all_eq_true, List.any_eq_true] at this
    refine ⟨fun k hk x hx => ?_, fun k hk => ?_⟩
    · have h8 := this.1.2 _ hk
      simp only [fiOk, Bool.or_eq_true, List.all_eq_true] at h8
      rcases h8 with h8 | h8
      · simp at h8
      · exact bits_pre (h8 x hx)
    · have h8 := this.2 _ hk
      simp [isFi] at h8
  have c5 : ∀ p i j t, its = p ++ .fi i j :: t → .an j ∈ p ∧ Pre all j i := fun p i j t e => by
    have := (hw p _ t e).2
    simp only [itB, Bool.and_eq_true, List.any_eq_true] at this
    refine ⟨?_, bits_pre this.2⟩
    obtain ⟨it, hit, hb⟩ := this.1
    cases it with
    | an j => simp only [isAn] at hb; rw [Nat.eq_of_beq_eq_true hb] at hit; exact hit
    | _ => cases hb
  refine ⟨nodupB_spec h1, nodupB_spec h2, fun i hi => (hx i hi).1, fun i hi => (hx i hi).2, fun i hi => Nat.le_of_ble_eq_true (List.all_eq_true.1 h4 i hi), ascL_spec h5, ?_, fun p c m t e x hx => ?_, c2, c4, c5, fun p m t e i hi => ?_⟩
  · intro p
    induction p using (measure List.length).wf.induction with
    | _ p ih =>
      intro it t he hex j hj
      have one : ∀ o, all[it.ix]? = some o → ∀ e ∈ o.after, Region.binds .any e = true → (∃ i, it = .fi i e.on) ∨ (e.on ∈ ordOf p ∧ ∀ j', .fi e.on j' ∈ p → j' ∈ ordOf p ∨ ∃ i, it = .fi i j') := fun o ho e he hb => edgeB_ok ((hw p it t ‹_›).1 hex o ho e he hb)
      -- all that is ahead of one that is announced
      have anP : ∀ k, .an k ∈ p → Pre all j k → j ∈ ordOf p := fun k hk hjk => by
        obtain ⟨p3, p4, rfl⟩ := List.append_of_mem hk
        rcases ih p3 (by simp [InvImage, WellFoundedRelation.rel]) (.an k) (p4 ++ it :: t) (by rw [he]; simp) rfl j hjk with h8 | ⟨i, h8⟩
        · rw [ordOf_append]; exact List.mem_append.2 (.inl h8)
        · cases h8
      cases hj with
      | one hi he' hb hon =>
        rcases one _ hi _ he' hb with h8 | ⟨h8, -⟩
        · exact .inr (hon ▸ h8)
        · exact .inl (hon ▸ h8)
      | more hi he' hb hk hj' =>
        rcases one _ hi _ he' hb with ⟨i, h8⟩ | ⟨hkp, hfl⟩
        · left
          rw [hk] at h8
          exact anP _ (c5 p i _ t (by rw [he, h8])).1 hj'
        · rw [hk] at hkp hfl
          obtain ⟨p1, it', p2, rfl, hs, rfl⟩ := ordOf_mem hkp
          have key : it'.exec = true → j ∈ ordOf (p1 ++ it' :: p2) ∨ ∃ i, it = .fi i j := fun hx' => by
            rcases ih p1 (by simp [InvImage, WellFoundedRelation.rel]) it' (p2 ++ it :: t) (by rw [he]; simp) hx' j hj' with h9 | ⟨i, h9⟩
            · left; rw [ordOf_append]; exact List.mem_append.2 (.inl h9)
            · subst h9
              exact hfl j (List.mem_append.2 (.inr (List.mem_cons_self ..)))
          cases it' with
          | rv k =>
            have hc := (c2 p1 k (p2 ++ it :: t) (by rw [he]; simp)).2
            exact .inl (anP k (by simp [hc]) hj')
          | _ => exact key rfl
  · have := (hw p _ t e).2
    simp only [itB, Bool.and_eq_true, List.all_eq_true] at this
    exact bits_pre (this.1 x hx)
  · have := (hw p _ t e).2
    simp only [itB, Bool.and_eq_true, List.all_eq_true, Bool.not_true, Bool.false_or] at this
    exact bits_pre (this.2 _ hi)

abbrev An := Nat → Option ((Nat → Value) × Obj)
def extE (all : Array Oper) (i : Nat) (v : Value) (env : Env) : Env := match (all[i]?).bind (·.dst) with | some d => (d, v) :: env | none => env
def putA (an : An) (i : Nat) (x : (Nat → Value) × Obj) : An := fun j => if j = i then some x else an j
theorem envL_one {all : Array Oper} {vs : Nat → Value} {l : List Nat} {i : Nat} {env : Env} : envL all vs (l ++ [i]) env = extE all i (vs i) (envL all vs l env) := envL_snoc

/-- What is to be put into a map: which map; of what keys; the key, and the value. -/
abbrev En := Nat → Option (Nat × TypeDesc × Value × Value)
def putE (en : En) (i : Nat) (x : Nat × TypeDesc × Value × Value) : En := fun j => if j = i then some x else en j
def entsOf (en : En) (L : Nat → Bool) (N j : Nat) : List (Value × Value) := (List.range N).filterMap fun k => match L k, en k with
  | true, some (j', _, kv, xv) => if j' = j then some (kv, xv) else none
  | _, _ => none
/-- What a new block holds, once so much was put into it. -/
def FinO (ents : List (Value × Value)) (ob o : Obj) : Prop := match ob with
  | .map es0 _ => ∃ es clk, o = .map es clk ∧ (es.toList.map fun e => (e.key, e.val)).Perm (es0.toList.map (fun e => (e.key, e.val)) ++ ents)
  | ob => o = ob
/-- An entry that is put into a new map. -/
structure InsAt (P : Program) (all : Array Oper) (env : Env) (an : An) (en : En) (i j : Nat) (dd : TypeDesc) (kv xv : Value) : Prop where
  ex : ∃ (o : Oper) (t : TypeId) (d : Nat) (k x : Operand) (kt et : TypeId) (vf : Nat → Value), all[i]? = some o ∧ o.op = .insert t (.tmp d) k x ∧ o.dst = none ∧ o.guard = none ∧ (all[j]?).bind (·.dst) = some d ∧
    (∀ l, (all[l]?).bind (·.dst) = some d → l = j) ∧ k ≠ .tmp d ∧ x ≠ .tmp d ∧ ev env k = some kv ∧ ev env x = some xv ∧ P.underlying t = some (.map kt et) ∧ P.underlying kt = some dd ∧
    (∀ w, (Instr.checkKey false 10000 kt kv).run P w = .ok () w) ∧ an j = some (vf, .map #[] 0) ∧ (∀ b, vf b = .map (some b)) ∧
    ∀ l dd' kv' xv', en l = some (j, dd', kv', xv') → Instr.sameNow dd kv kv' = some false ∧ Instr.sameNow dd' kv' kv = some false
def Chain (P : Program) (F : Heap) (n : Nat) (all : Array Oper) (prot : List Heap) (K : Env → List Heap → Prop) : List It → Env → List Heap → An → En → Prop
  | [], env, own, _, _ => K env own
  | .q i :: r, env, own, an, en => ∃ o v, all[i]? = some o ∧ condAt P F n all own env o v ∧ Chain P F n all prot K r (extE all i v env) own an en
  | .f i :: r, env, own, an, en => ∃ o v, all[i]? = some o ∧ condAt P emp n all [] env o v ∧ Chain P F n all prot K r (extE all i v env) own an en
  | .r i :: r, env, own, an, en => ∃ o v, all[i]? = some o ∧ condAt P F n all prot env o v ∧ Chain P F n all prot K r (extE all i v env) own an en
  | .an i :: r, env, own, an, en => ∃ o vf ob, all[i]? = some o ∧ wantedE all env o = some true ∧ NewOp P n o env vf ob ∧ Chain P F n all prot K r env own (putA an i (vf, ob)) en
  | .rv i :: r, env, own, an, en => ∃ vf ob, an i = some (vf, ob) ∧ ∀ b ob', FinO (entsOf en (fun _ => true) all.size i) ob ob' → Chain P F n all prot K r (extE all i (vf b) env) (blk b ob' :: own) an en
  | .fi i j :: r, env, own, an, en => ∃ dd kv xv, InsAt P all env an en i j dd kv xv ∧ Chain P F n all prot K r env own an (putE en i (j, dd, kv, xv))
  | .h c m :: r, env, own, an, en => ∃ o ownM ownC R, all[m]? = some o ∧ own.Perm (ownM ++ ownC) ∧ ((wantedE all env o = some true ∧ HOp P ownM n o env R) ∨ (wantedE all env o = some false ∧ plainOp o.op = true ∧ R undef ownM)) ∧
      (c = false → ∀ v own', R v own' → ∃ N, own'.Perm (ownM ++ N)) ∧ (c = true → ∃ Y, ownC.Perm (prot ++ Y)) ∧ ∀ v own', R v own' → Chain P F n all prot K r (extE all m v env) (own' ++ ownC) an en

end Go.SL.DM
