/- A region that draws its order, with operations that make blocks, and such that turn memory one behind the other. -/
import Derived.Test.YtobcmglbdmaceaaGreatDoorSlG2
set_option linter.unusedVariables false
set_option linter.unusedSimpArgs false
set_option linter.unusedSectionVars false
section
namespace Go.SL

/-- An operation that makes one block, of known contents. -/
def NewOp (P : Program) (n : Nat) (o : Oper) (env : Env) (vf : Nat → Value) (ob : Obj) : Prop :=
  plainOp o.op = true ∧ (∀ off, fzo ob off = false) ∧ ∀ a w, Has n env a → (execOp a.eval o).run P w = .ok (.value (vf w.heap.size)) { w with heap := w.heap.push ob }

/-- What is done with an operation: it is quiet; it looks at no memory; it looks at what stays as it is ('prot'); it makes a block (and the block is shown later); it turns memory (if it takes something away: 'true'). -/
inductive It
  | q (i : Nat)
  | f (i : Nat)
  | r (i : Nat)
  | an (i : Nat)
  | rv (i : Nat)
  | h (c : Bool) (m : Nat)
def It.ix : It → Nat
  | .q i | .f i | .r i | .an i | .rv i | .h _ i => i
def It.sets : It → Bool
  | .an _ => false
  | _ => true
def It.exec : It → Bool
  | .rv _ => false
  | _ => true
def ordOf (l : List It) : List Nat := (l.filter It.sets).map It.ix
def exOf (l : List It) : List Nat := (l.filter It.exec).map It.ix
theorem ordOf_append (l m : List It) : ordOf (l ++ m) = ordOf l ++ ordOf m := by simp [ordOf]
theorem exOf_append (l m : List It) : exOf (l ++ m) = exOf l ++ exOf m := by simp [exOf]
theorem ordOf_mem {l : List It} {x : Nat} (h : x ∈ ordOf l) : ∃ p it t, l = p ++ it :: t ∧ it.sets = true ∧ it.ix = x := by
  simp only [ordOf, List.mem_map, List.mem_filter] at h
  obtain ⟨it, ⟨h1, h2⟩, h3⟩ := h
  obtain ⟨p, t, e⟩ := List.append_of_mem h1
  exact ⟨p, it, t, e, h2, h3⟩
theorem exOf_mem {l : List It} {x : Nat} (h : x ∈ exOf l) : ∃ p it t, l = p ++ it :: t ∧ it.exec = true ∧ it.ix = x := by
  simp only [exOf, List.mem_map, List.mem_filter] at h
  obtain ⟨it, ⟨h1, h2⟩, h3⟩ := h
  obtain ⟨p, t, e⟩ := List.append_of_mem h1
  exact ⟨p, it, t, e, h2, h3⟩
theorem mem_exOf {l : List It} {it : It} (h : it ∈ l) (he : it.exec = true) : it.ix ∈ exOf l := by
  simp only [exOf, List.mem_map, List.mem_filter]; exact ⟨it, ⟨h, he⟩, rfl⟩
theorem mem_ordOf {l : List It} {it : It} (h : it ∈ l) (he : it.sets = true) : it.ix ∈ ordOf l := by
  simp only [ordOf, List.mem_map, List.mem_filter]; exact ⟨it, ⟨h, he⟩, rfl⟩

def isAn (i : Nat) : It → Bool
  | .an j => Nat.beq j i
  | _ => false
def qOk (bs : List Nat) (m : Nat) : It → Bool
  | .q i => (bs.getD m 0).testBit i
  | _ => true
def itB (bs : List Nat) (pre r : List It) : It → Bool
  | .h c m => (exOf r).all (fun x => (bs.getD x 0).testBit m) && (!c || pre.all (qOk bs m))
  | .rv i => (exOf r).all (fun x => (bs.getD x 0).testBit i) && pre.any (isAn i)
  | _ => true
def walkB (all : Array Oper) (bs : List Nat) : List It → List It → Bool
  | _, [] => true
  | pre, it :: r => (!it.exec || (match all[it.ix]? with
      | some o => o.after.toList.all fun e => !Region.binds .any e || (ordOf pre).contains e.on
      | none => false)) && itB bs pre r it && walkB all bs (pre ++ [it]) r
def itsOk (all : Array Oper) (its : List It) : Bool :=
  nodupB (exOf its) && nodupB (ordOf its) && (List.range all.size).all (fun i => (exOf its).contains i && (ordOf its).contains i) && (ordOf its).all (fun i => Nat.blt i all.size) &&
    ascL all (ordOf its) && walkB all (bits all.toList []) [] its

structure ItsOk (all : Array Oper) (its : List It) : Prop where
  exNodup : (exOf its).Nodup
  ordNodup : (ordOf its).Nodup
  exMem : ∀ i, i < all.size → i ∈ exOf its
  ordMem : ∀ i, i < all.size → i ∈ ordOf its
  ordLt : ∀ i ∈ ordOf its, i < all.size
  asc : AscW all (ordOf its)
  lin : ∀ p it t, its = p ++ it :: t → it.exec = true → ∀ j, Pre all j it.ix → j ∈ ordOf p
  c1 : ∀ p c m t, its = p ++ .h c m :: t → ∀ x ∈ exOf t, Pre all m x
  c2 : ∀ p i t, its = p ++ .rv i :: t → (∀ x ∈ exOf t, Pre all i x) ∧ .an i ∈ p
  c3 : ∀ p m t, its = p ++ .h true m :: t → ∀ i, .q i ∈ p → Pre all i m

theorem walkB_at {all : Array Oper} {bs : List Nat} : ∀ {r pre : List It}, walkB all bs pre r = true → ∀ p it t, r = p ++ it :: t →
    (it.exec = true → ∀ o, all[it.ix]? = some o → ∀ e ∈ o.after, Region.binds .any e = true → e.on ∈ ordOf (pre ++ p)) ∧ itB bs (pre ++ p) t it = true := by
  intro r
  induction r with
  | nil => intro pre _ p it t e; simp at e
  | cons x r ih =>
    intro pre h p it t e
    simp only [walkB, Bool.and_eq_true] at h
    cases p with
    | nil =>
      simp only [List.nil_append, List.cons.injEq] at e
      obtain ⟨rfl, rfl⟩ := e
      rw [List.append_nil]
      refine ⟨fun hx o ho ed hed hb => ?_, h.1.2⟩
      have h1 := h.1.1
      rw [hx, ho] at h1
      simp only [Bool.not_true, Bool.false_or, List.all_eq_true, Bool.or_eq_true, Bool.not_eq_true'] at h1
      rcases h1 ed (by simpa using hed) with h2 | h2
      · rw [hb] at h2; cases h2
      · simpa using h2
    | cons y p =>
      simp only [List.cons_append, List.cons.injEq] at e
      obtain ⟨rfl, rfl⟩ := e
      have := ih h.2 p it t rfl
      simpa [List.append_assoc] using this
theorem itsOk_spec {all : Array Oper} {its : List It} (h : itsOk all its = true) : ItsOk all its := by
  simp only [itsOk, Bool.and_eq_true] at h
  obtain ⟨⟨⟨⟨⟨h1, h2⟩, h3⟩, h4⟩, h5⟩, h6⟩ := h
  have hw := fun p it t e => by
    have := walkB_at h6 p it t e
    rw [List.nil_append] at this; exact this
  have hx : ∀ i, i < all.size → i ∈ exOf its ∧ i ∈ ordOf its := fun i hi => by
    have := List.all_eq_true.1 h3 i (List.mem_range.2 hi)
    simpa using this
  have c2 : ∀ p i t, its = p ++ .rv i :: t → (∀ x ∈ exOf t, Pre all i x) ∧ .an i ∈ p := fun p i t e => by
    have := (hw p _ t e).2
    simp only [itB, Bool.and_eq_true, List.all_eq_true, List.any_eq_true] at this
    refine ⟨fun x hx => bits_pre (this.1 x hx), ?_⟩
    obtain ⟨it, hit, hb⟩ := this.2
    cases it with
    | an j => simp only [isAn] at hb; rw [Nat.eq_of_beq_eq_true hb] at hit; exact hit
    | _ => cases hb
  refine ⟨nodupB_spec h1, nodupB_spec h2, fun i hi => (hx i hi).1, fun i hi => (hx i hi).2, fun i hi => Nat.le_of_ble_eq_true (List.all_eq_true.1 h4 i hi), ascL_spec h5, ?_, fun p c m t e x hx => ?_, c2, fun p m t e i hi => ?_⟩
  · intro p
    induction p using (measure List.length).wf.induction with
    | _ p ih =>
      intro it t he hex j hj
      have one : ∀ o, all[it.ix]? = some o → ∀ e ∈ o.after, Region.binds .any e = true → e.on ∈ ordOf p := (hw p it t he).1 hex
      cases hj with
      | one hi he' hb hon => exact hon ▸ one _ hi _ he' hb
      | more hi he' hb hk hj' =>
        have hkp := hk ▸ one _ hi _ he' hb
        obtain ⟨p1, it', p2, rfl, hs, rfl⟩ := ordOf_mem hkp
        have key : it'.exec = true → j ∈ ordOf (p1 ++ it' :: p2) := fun hx' => by
          have := ih p1 (by simp [InvImage, WellFoundedRelation.rel]) it' (p2 ++ it :: t) (by rw [he]; simp) hx' j hj'
          rw [ordOf_append]; exact List.mem_append.2 (.inl this)
        cases it' with
        | rv k =>
          have hc := (c2 p1 k (p2 ++ it :: t) (by rw [he]; simp)).2
          obtain ⟨p3, p4, rfl⟩ := List.append_of_mem hc
          have := ih p3 (by simp [InvImage, WellFoundedRelation.rel]) (.an k) (p4 ++ .rv k :: (p2 ++ it :: t)) (by rw [he]; simp) rfl j hj'
          rw [ordOf_append, ordOf_append]; exact List.mem_append.2 (.inl (List.mem_append.2 (.inl this)))
        | _ => exact key rfl
  · have := (hw p _ t e).2
    simp only [itB, Bool.and_eq_true, List.all_eq_true] at this
    exact bits_pre (this.1 x hx)
  · have := (hw p _ t e).2
    simp only [itB, Bool.and_eq_true, List.all_eq_true, Bool.not_true, Bool.false_or] at this
    exact bits_pre (this.2 _ hi)

abbrev An := Nat → Option ((Nat → Value) × Obj)
def extE (all : Array Oper) (i : Nat) (v : Value) (env : Env) : Env := match (all[i]?).bind (·.dst) with | some d => (d, v) :: env | none => env
def putA (an : An) (i : Nat) (x : (Nat → Value) × Obj) : An := fun j => if j = i then some x else an j
theorem envL_one {all : Array Oper} {vs : Nat → Value} {l : List Nat} {i : Nat} {env : Env} : envL all vs (l ++ [i]) env = extE all i (vs i) (envL all vs l env) := envL_snoc

/-- Every other operation is surely ahead of this one. -/
def lastB (all : Array Oper) (m : Nat) : Bool := (List.range all.size).all fun i => Nat.beq i m || ((bits all.toList []).getD m 0).testBit i
theorem lastB_spec {all : Array Oper} {m : Nat} (h : lastB all m = true) : ∀ i, i < all.size → i = m ∨ Pre all i m := fun i hi => by
  have := List.all_eq_true.1 h i (List.mem_range.2 hi)
  rcases Bool.or_eq_true _ _ ▸ this with h | h
  · exact .inl (Nat.eq_of_beq_eq_true h)
  · exact .inr (bits_pre h)

def Chain (P : Program) (F : Heap) (n : Nat) (all : Array Oper) (prot : List Heap) (K : Env → List Heap → Prop) : List It → Env → List Heap → An → Prop
  | [], env, own, _ => K env own
  | .q i :: r, env, own, an => ∃ o v, all[i]? = some o ∧ condAt P F n all own env o v ∧ Chain P F n all prot K r (extE all i v env) own an
  | .f i :: r, env, own, an => ∃ o v, all[i]? = some o ∧ condAt P emp n all [] env o v ∧ Chain P F n all prot K r (extE all i v env) own an
  | .r i :: r, env, own, an => ∃ o v, all[i]? = some o ∧ condAt P F n all prot env o v ∧ Chain P F n all prot K r (extE all i v env) own an
  | .an i :: r, env, own, an => ∃ o vf ob, all[i]? = some o ∧ wantedE all env o = some true ∧ NewOp P n o env vf ob ∧ Chain P F n all prot K r env own (putA an i (vf, ob))
  | .rv i :: r, env, own, an => ∃ vf ob, an i = some (vf, ob) ∧ ∀ b, Chain P F n all prot K r (extE all i (vf b) env) (blk b ob :: own) an
  | .h c m :: r, env, own, an => ∃ o ownM ownC R, all[m]? = some o ∧ own.Perm (ownM ++ ownC) ∧ ((wantedE all env o = some true ∧ HOp P ownM n o env R) ∨ (wantedE all env o = some false ∧ plainOp o.op = true ∧ R undef ownM)) ∧
      (c = false → ∀ v own', R v own' → ∃ N, own'.Perm (ownM ++ N)) ∧ (c = true → (∃ Y, ownC.Perm (prot ++ Y)) ∨ lastB all m = true) ∧ ∀ v own', R v own' → Chain P F n all prot K r (extE all m v env) (own' ++ ownC) an

section
variable (P : Program) (F : Heap) (n : Nat) (all : Array Oper) (prot : List Heap) (K : Env → List Heap → Prop) (its : List It) (env0 : Env) (a0 : Act) (ds : List Deferred)
def Kn (val : Nat → Value) (an : An) (own : List Heap) (L : Array Bool) (bf : Nat → Nat) (p : List It) : It → Prop
  | .q i => ∃ o hsub, all[i]? = some o ∧ condAt P F n all hsub (envL all val (ordOf p) env0) o (val i) ∧ (L.getD i false = false → ∃ Y, own.Perm (hsub ++ Y))
  | .f i => ∃ o, all[i]? = some o ∧ condAt P emp n all [] (envL all val (ordOf p) env0) o (val i)
  | .r i => ∃ o, all[i]? = some o ∧ condAt P F n all prot (envL all val (ordOf p) env0) o (val i)
  | .an i => ∃ o vf ob, all[i]? = some o ∧ wantedE all (envL all val (ordOf p) env0) o = some true ∧ NewOp P n o (envL all val (ordOf p) env0) vf ob ∧ an i = some (vf, ob) ∧ (L.getD i false = true → val i = vf (bf i))
  | .rv i => L.getD i false = true
  | .h _ m => L.getD m false = true
def plH (an : An) (bf : Nat → Nat) (pl : List Nat) : List Heap := pl.map fun i => match an i with | some (_, ob) => blk (bf i) ob | none => emp
def atL (val : Nat → Value) (L : Nat → Bool) (s : Nat) : Option Value := match lastW all L s all.size with | some j => some (val j) | none => a0.tmps[s]?
structure CI (pre post : List It) (val : Nat → Value) (own : List Heap) (an : An) (bf : Nat → Nat) (pl : List Nat) (L : Array Bool) (a : Act) (w : World) : Prop where
  s1 : L.size = all.size
  s2 : a.tmps.size = n
  s3 : a.defers = ds
  s4 : ∀ i o, L.getD i false = true → all[i]? = some o → ∀ e ∈ o.after, Region.binds .any e = true → L.getD e.on false = true
  e : its = pre ++ post
  sl : ∀ s, s < n → a.tmps[s]? = atL all a0 val (fun i => L.getD i false) s
  ch : Chain P F n all prot K post (envL all val (ordOf pre) env0) own an
  sat : Sat (F :: own ++ plH an bf pl) w
  kn : ∀ p it t, pre = p ++ it :: t → Kn P F n all prot env0 val an own L bf p it
  un : ∀ it ∈ post, it.exec = true → L.getD it.ix false = false
  pr : ∀ i, i < all.size → L.getD i false = false → ∃ Y, own.Perm (prot ++ Y)
  pn : pl.Nodup
  pm : ∀ i, i ∈ pl ↔ (.an i ∈ pre ∧ L.getD i false = true ∧ .rv i ∈ post)
end

section
variable {P : Program} {F : Heap} {n : Nat} {all : Array Oper} {prot : List Heap} {K : Env → List Heap → Prop} {its : List It} {env0 : Env} {a0 : Act} {ds : List Deferred}

theorem ex_notin (ho : ItsOk all its) {p t : List It} {it : It} (e : its = p ++ it :: t) (hx : it.exec = true) : it.ix ∉ exOf p ∧ it.ix ∉ exOf t := by
  have h := ho.exNodup
  rw [e, exOf_append] at h
  have e2 : exOf (it :: t) = it.ix :: exOf t := by simp [exOf, hx]
  rw [e2] at h
  obtain ⟨h1, h2, h3⟩ := List.nodup_append.1 h
  exact ⟨fun hp => h3 _ hp _ (List.mem_cons_self ..) rfl, (List.nodup_cons.1 h2).1⟩
/-- What is laid ahead of a place was done ahead of it. -/
theorem ord_ex (ho : ItsOk all its) {p t : List It} (e : its = p ++ t) {x : Nat} (hx : x ∈ ordOf p) : ∃ p1 it p2, p = p1 ++ it :: p2 ∧ it.exec = true ∧ it.ix = x := by
  obtain ⟨p1, it, p2, rfl, hs, rfl⟩ := ordOf_mem hx
  cases it with
  | rv i =>
    have hc := (ho.c2 p1 i (p2 ++ t) (by rw [e]; simp)).2
    obtain ⟨p3, p4, rfl⟩ := List.append_of_mem hc
    exact ⟨p3, .an i, p4 ++ .rv i :: p2, by simp, rfl, rfl⟩
  | q i => exact ⟨p1, _, p2, rfl, rfl, rfl⟩
  | f i => exact ⟨p1, _, p2, rfl, rfl, rfl⟩
  | r i => exact ⟨p1, _, p2, rfl, rfl, rfl⟩
  | an i => cases hs
  | h c i => exact ⟨p1, _, p2, rfl, rfl, rfl⟩
theorem ord_notin (ho : ItsOk all its) {p t : List It} {it : It} (e : its = p ++ it :: t) (hx : it.exec = true) : it.ix ∉ ordOf p := fun h => by
  obtain ⟨p1, it', p2, rfl, hx', e'⟩ := ord_ex ho e h
  exact (ex_notin ho e hx).1 (by rw [← e', exOf_append]; exact List.mem_append.2 (.inr (mem_exOf (List.mem_cons_self ..) hx')))
theorem asc_prefix (ho : ItsOk all its) {p t : List It} (e : its = p ++ t) : AscW all (ordOf p) := by
  have := ho.asc; rw [e, ordOf_append] at this; exact (List.pairwise_append.1 this).1
theorem lt_prefix (ho : ItsOk all its) {p t : List It} (e : its = p ++ t) : ∀ i ∈ ordOf p, i < all.size := fun i hi => ho.ordLt i (by rw [e, ordOf_append]; exact List.mem_append.2 (.inl hi))

theorem has_prefix (ho : ItsOk all its) (hdst : ∀ (i d : Nat), (all[i]?).bind (·.dst) = some d → d < n) (ha0 : Has n env0 a0) {p t : List It} (e : its = p ++ t) {val : Nat → Value} {a : Act} (hsz : a.tmps.size = n)
    (ht : ∀ s, s < n → a.tmps[s]? = atL all a0 val (fun j => (ordOf p).contains j) s) : Has n (envL all val (ordOf p) env0) a := by
  refine ⟨hsz, fun s u hu => ?_⟩
  rw [look_envL _ (asc_prefix ho e) (lt_prefix ho e)] at hu
  by_cases hs : s < n
  · rw [ht s hs]
    simp only [atL]
    cases hl : lastW all (fun j => (ordOf p).contains j) s all.size with
    | some j => rw [hl] at hu; exact hu
    | none => rw [hl] at hu; exact ha0.get s u hu
  · exfalso
    cases hl : lastW all (fun j => (ordOf p).contains j) s all.size with
    | some j => exact hs (hdst j s (lastW_isW hl).2.1)
    | none =>
      rw [hl] at hu
      have := ha0.get s u hu
      rw [Array.getElem?_eq_none (by rw [ha0.size]; omega)] at this; cases this

/-- A frame that has what the place of an operation has laid ahead of it. -/
theorem ci_frame (hok : dok all = true) (ho : ItsOk all its) (hdst : ∀ (i d : Nat), (all[i]?).bind (·.dst) = some d → d < n) (ha0 : Has n env0 a0) {L : Array Bool} {a : Act} {val : Nat → Value}
    (s2 : a.tmps.size = n) (s4 : ∀ i o, L.getD i false = true → all[i]? = some o → ∀ e ∈ o.after, Region.binds .any e = true → L.getD e.on false = true)
    (sl : ∀ s, s < n → a.tmps[s]? = atL all a0 val (fun i => L.getD i false) s) {p t : List It} {it : It} (e : its = p ++ it :: t) (hx : it.exec = true) {o : Oper} (hio : all[it.ix]? = some o)
    (hnl : L.getD it.ix false = false) (hready : ∀ j, Pre all j it.ix → L.getD j false = true) :
    ∃ a'', Has n (envL all val (ordOf p) env0) a'' ∧ ∀ s ∈ o.looksAt all, a.tmps[s]? = a''.tmps[s]? := by
  have hlisted : ∀ j k, Pre all j k → L.getD k false = true → L.getD j false = true := fun j k hj => hj.listed (L := fun j => L.getD j false) s4
  have hsame : ∀ s ∈ readsOf all o, lastW all (fun j => L.getD j false) s all.size = lastW all (fun j => (ordOf p).contains j) s all.size := by
    intro s hs
    refine lastW_congr fun j hj hw => ?_
    by_cases ej : j = it.ix
    · rw [ej, hnl]; symm; simpa using ord_notin ho e hx
    · rcases dok_spec hok hio hs hw ej with ⟨g1, g2⟩ | ⟨g1, g2⟩
      · rw [hready j g2]; symm; simpa using ho.lin p it t e hx j g2
      · have hf1 : L.getD j false = false := by
          cases hy : L.getD j false with
          | false => rfl
          | true => have := hlisted _ j g2 hy; rw [hnl] at this; cases this
        have hf2 : j ∉ ordOf p := fun hjp => by
          obtain ⟨p1, it', p2, rfl, hx', rfl⟩ := ord_ex ho e hjp
          have := ho.lin p1 it' (p2 ++ it :: t) (by rw [e]; simp) hx' _ g2
          exact ord_notin ho e hx (by rw [ordOf_append]; exact List.mem_append.2 (.inl this))
        rw [hf1]; symm; simpa using hf2
  refine ⟨{ tmps := Array.ofFn (n := n) fun s => (atL all a0 val (fun j => (ordOf p).contains j) s.val).getD undef, defers := [] }, ?_, ?_⟩
  all_goals
    have hat : ∀ s, s < n → (Array.ofFn (n := n) fun s => (atL all a0 val (fun j => (ordOf p).contains j) s.val).getD undef)[s]? = atL all a0 val (fun j => (ordOf p).contains j) s := by
      intro s hs
      rw [Array.getElem?_eq_getElem (by simpa using hs)]
      simp only [Array.getElem_ofFn]
      simp only [atL]
      cases hl : lastW all (fun j => (ordOf p).contains j) s all.size with
      | some j => rfl
      | none =>
        simp only []
        rw [Array.getElem?_eq_getElem (by rw [ha0.size]; exact hs)]; rfl
  · exact has_prefix ho hdst ha0 (t := it :: t) e (by simp) hat
  · intro s hs
    by_cases hsn : s < n
    · rw [sl s hsn]
      show _ = (Array.ofFn (n := n) fun s => (atL all a0 val (fun j => (ordOf p).contains j) s.val).getD undef)[s]?
      rw [hat s hsn]
      simp only [atL]
      rw [hsame s (List.mem_append.2 (.inl hs))]
    · have hge : n ≤ s := Nat.not_lt.1 hsn
      rw [Array.getElem?_eq_none (by rw [s2]; exact hge), Array.getElem?_eq_none (by simpa using hge)]

/-- The slots behind an operation. -/
theorem ci_slots (hok : dok all = true) {L : Array Bool} {a : Act} {val : Nat → Value} {i : Nat} {o : Oper}
    (s2 : a.tmps.size = n) (s4 : ∀ i o, L.getD i false = true → all[i]? = some o → ∀ e ∈ o.after, Region.binds .any e = true → L.getD e.on false = true)
    (sl : ∀ s, s < n → a.tmps[s]? = atL all a0 val (fun i => L.getD i false) s) (hio : all[i]? = some o) (hilt : i < L.size) (hsz : L.size = all.size) (hnl : L.getD i false = false)
    (val' : Nat → Value) (u : Value) (hu : val' i = u) (hsm : ∀ j, L.getD j false = true → val' j = val j) : ∀ s, s < n → (a.put o.dst u).tmps[s]? = atL all a0 val' (fun j => (L.setIfInBounds i true).getD j false) s := by
  have hlisted : ∀ j k, Pre all j k → L.getD k false = true → L.getD j false = true := fun j k hj => hj.listed (L := fun j => L.getD j false) s4
  intro s hs
  by_cases hd : o.dst = some s
  · have hmem : s ∈ readsOf all o := List.mem_append.2 (.inr (by rw [hd]; simp))
    have hl : lastW all (fun j => (L.setIfInBounds i true).getD j false) s all.size = some i := by
      rw [lastW_none_above (i := i + 1) (by omega) (L := fun j => (L.setIfInBounds i true).getD j false) (fun j g1 g2 g3 g4 => ?_)]
      · simp only [lastW, getD_set hilt, if_true, Bool.true_and, hio, Option.bind_some, hd]; simp
      · rw [getD_set hilt, if_neg (by omega)] at g3
        rcases dok_spec hok hio hmem g4 (by omega) with ⟨g5, g6⟩ | ⟨g5, g6⟩
        · omega
        · have := hlisted i j g6 g3
          rw [hnl] at this; cases this
    simp only [atL, hl]
    rw [hd, hu]
    simp only [Act.put]
    simp [s2, hs]
  · have hl : lastW all (fun j => (L.setIfInBounds i true).getD j false) s all.size = lastW all (fun j => L.getD j false) s all.size := by
      refine lastW_congr fun j hj hw => ?_
      rw [getD_set hilt]
      by_cases e : j = i
      · subst e; rw [hio] at hw; exact absurd hw hd
      · rw [if_neg e]
    have h7s := sl s hs
    have hput : (a.put o.dst u).tmps[s]? = a.tmps[s]? := by
      cases hd' : o.dst with
      | none => rfl
      | some d =>
        have : d ≠ s := fun e => hd (e ▸ hd')
        simp only [Act.put]
        rw [Array.getElem?_setIfInBounds_ne this]
    rw [hput, h7s]
    simp only [atL, hl]
    cases hlw : lastW all (fun j => L.getD j false) s all.size with
    | none => rfl
    | some j => simp only []; rw [hsm j (lastW_isW hlw).1]

theorem atL_congr {val val' : Nat → Value} {L : Array Bool} (h : ∀ j, L.getD j false = true → val' j = val j) (s : Nat) : atL all a0 val (fun i => L.getD i false) s = atL all a0 val' (fun i => L.getD i false) s := by
  simp only [atL]
  cases hl : lastW all (fun j => L.getD j false) s all.size with
  | none => rfl
  | some j => simp only []; rw [h j (lastW_isW hl).1]
/-- What is known of an item stays known, whatever else comes to be known. -/
theorem Kn.congr {val val' : Nat → Value} {an an' : An} {own own' : List Heap} {L : Array Bool} {bf : Nat → Nat} {p : List It} {it : It} (h : Kn P F n all prot env0 val an own L bf p it)
    (hv : ∀ j ∈ ordOf p, val' j = val j) (hi : val' it.ix = val it.ix) (ha : an' it.ix = an it.ix) (ho : ∃ N, own'.Perm (own ++ N)) : Kn P F n all prot env0 val' an' own' L bf p it := by
  have he : envL all val' (ordOf p) env0 = envL all val (ordOf p) env0 := envL_congr hv
  cases it with
  | q i =>
    obtain ⟨o, hsub, h1, h2, h3⟩ := h
    refine ⟨o, hsub, h1, by rw [he, show val' i = val i from hi]; exact h2, fun hl => ?_⟩
    obtain ⟨Y, hY⟩ := h3 hl
    obtain ⟨N, hN⟩ := ho
    exact ⟨Y ++ N, by rw [← List.append_assoc]; exact hN.trans (hY.append_right N)⟩
  | f i =>
    obtain ⟨o, h1, h2⟩ := h
    exact ⟨o, h1, by rw [he, show val' i = val i from hi]; exact h2⟩
  | r i =>
    obtain ⟨o, h1, h2⟩ := h
    exact ⟨o, h1, by rw [he, show val' i = val i from hi]; exact h2⟩
  | an i =>
    obtain ⟨o, vf, ob, h1, h2, h3, h4, h5⟩ := h
    exact ⟨o, vf, ob, h1, by rw [he]; exact h2, by rw [he]; exact h3, (show an' i = an i from ha).trans h4, fun hl => (show val' i = val i from hi).trans (h5 hl)⟩
  | rv i => exact h
  | h c m => exact h

theorem snoc_split {pre p t : List It} {x it : It} (h : pre ++ [x] = p ++ it :: t) : (∃ t', pre = p ++ it :: t') ∨ (p = pre ∧ it = x ∧ t = []) := by
  rcases List.eq_nil_or_concat t with rfl | ⟨t', y, rfl⟩
  · obtain ⟨h1, h2⟩ := List.append_inj' h rfl
    simp only [List.cons.injEq, and_true] at h2
    exact .inr ⟨h1.symm, h2.symm, rfl⟩
  · left
    rw [List.concat_eq_append, ← List.cons_append, ← List.append_assoc] at h
    exact ⟨t', (List.append_inj' h rfl).1⟩
/-- What stands behind is not listed, or is waited for. -/
def Stuck (L : Array Bool) : List It → Prop
  | [] => True
  | .h _ _ :: _ => True
  | .rv i :: _ => L.getD i false = false
  | _ => False
theorem plH_congr {an an' : An} {bf bf' : Nat → Nat} {pl : List Nat} (h : ∀ i ∈ pl, an' i = an i ∧ bf' i = bf i) : plH an' bf' pl = plH an bf pl := by
  unfold plH
  refine List.map_congr_left fun i hi => ?_
  rw [(h i hi).1, (h i hi).2]

theorem advance (ho : ItsOk all its) {L : Array Bool} {a : Act} {w : World} {bf : Nat → Nat} : ∀ {post pre : List It} {val : Nat → Value} {own : List Heap} {an : An} {pl : List Nat}, CI P F n all prot K its env0 a0 ds pre post val own an bf pl L a w →
    ∃ pre' post' val' own' an' pl', CI P F n all prot K its env0 a0 ds pre' post' val' own' an' bf pl' L a w ∧ Stuck L post' := by
  intro post
  induction post with
  | nil => intro pre val own an pl h; exact ⟨_, _, _, _, _, _, h, trivial⟩
  | cons it r ih =>
    intro pre val own an pl h
    have hu := h.un it (List.mem_cons_self ..)
    have hun : ∀ x ∈ r, x.exec = true → L.getD x.ix false = false := fun x hx => h.un x (List.mem_cons_of_mem _ hx)
    have he : its = (pre ++ [it]) ++ r := by rw [h.e]; simp
    have hi : it.sets = true → it.ix ∉ ordOf pre := fun hs hm => by
      have := ho.ordNodup
      rw [h.e, ordOf_append] at this
      refine (List.nodup_append.1 this).2.2 _ hm it.ix ?_ rfl
      simp [ordOf, hs]
    -- a quiet one
    have quiet : ∀ (i : Nat) (o : Oper) (v : Value) (hx : it.exec = true) (hix : it.ix = i) (hs : it.sets = true), (∀ i, it ≠ .rv i) → (∀ i, it ≠ .an i) → Chain P F n all prot K r (extE all i v (envL all val (ordOf pre) env0)) own an →
        (∀ val' : Nat → Value, val' i = v → (∀ j, j ≠ i → val' j = val j) → Kn P F n all prot env0 val' an own L bf pre it) →
        ∃ pre' post' val' own' an' pl', CI P F n all prot K its env0 a0 ds pre' post' val' own' an' bf pl' L a w ∧ Stuck L post' := by
      intro i o v hx hix hs hnr hna hch hkn
      have hnl : L.getD i false = false := hix ▸ hu hx
      have hi' : i ∉ ordOf pre := hix ▸ hi hs
      let val' : Nat → Value := fun j => if j = i then v else val j
      have v1 : val' i = v := by simp [val']
      have v2 : ∀ j, j ≠ i → val' j = val j := fun j hj => by simp only [val']; rw [if_neg hj]
      have vL : ∀ j, L.getD j false = true → val' j = val j := fun j hj => v2 j fun e => by rw [e, hnl] at hj; cases hj
      have vp : ∀ j ∈ ordOf pre, val' j = val j := fun j hj => v2 j fun e => hi' (e ▸ hj)
      refine ih (pre := pre ++ [it]) (val := val') (own := own) (an := an) (pl := pl) ⟨h.s1, h.s2, h.s3, h.s4, he, fun s hs => ?_, ?_, h.sat, fun p jt t hp => ?_, hun, h.pr, h.pn, fun j => ?_⟩
      · rw [h.sl s hs, atL_congr vL]
      · have e1 : ordOf (pre ++ [it]) = ordOf pre ++ [i] := by rw [ordOf_append]; simp [ordOf, hs, hix]
        rw [e1, envL_one, v1, envL_congr vp]; exact hch
      · rcases snoc_split hp with ⟨t', rfl⟩ | ⟨rfl, rfl, -⟩
        · refine (h.kn p jt t' rfl).congr (fun j hj => vp j (by rw [ordOf_append]; exact List.mem_append.2 (.inl hj))) (v2 _ fun e => ?_) rfl ⟨[], by simp⟩
          by_cases hjx : jt.exec = true
          · refine (ex_notin ho (p := p ++ jt :: t') (t := r) (it := it) (by rw [h.e]) hx).1 ?_
            rw [hix, ← e]; exact mem_exOf (by simp) hjx
          · cases jt with
            | rv k => exact hi' (by rw [← e]; exact mem_ordOf (it := .rv k) (by simp) rfl)
            | _ => exact absurd rfl hjx
        · exact hkn val' v1 v2
      · rw [h.pm j]
        refine ⟨fun ⟨g1, g2, g3⟩ => ⟨List.mem_append.2 (.inl g1), g2, ?_⟩, fun ⟨g1, g2, g3⟩ => ⟨?_, g2, List.mem_cons_of_mem _ g3⟩⟩
        · rcases List.mem_cons.1 g3 with g3 | g3
          · exact absurd g3.symm (hnr j)
          · exact g3
        · rcases List.mem_append.1 g1 with g1 | g1
          · exact g1
          · exact absurd (List.mem_singleton.1 g1).symm (hna j)
    cases it with
    | q i =>
      obtain ⟨o, v, h1, h2, h3⟩ := h.ch
      refine quiet i o v rfl rfl rfl (fun _ e => by cases e) (fun _ e => by cases e) h3 fun val' v1 v2 => ⟨o, own, h1, ?_, fun _ => ⟨[], by simp⟩⟩
      rw [v1, envL_congr fun j hj => v2 j fun e => hi rfl (e ▸ hj)]; exact h2
    | f i =>
      obtain ⟨o, v, h1, h2, h3⟩ := h.ch
      refine quiet i o v rfl rfl rfl (fun _ e => by cases e) (fun _ e => by cases e) h3 fun val' v1 v2 => ⟨o, h1, ?_⟩
      rw [v1, envL_congr fun j hj => v2 j fun e => hi rfl (e ▸ hj)]; exact h2
    | r i =>
      obtain ⟨o, v, h1, h2, h3⟩ := h.ch
      refine quiet i o v rfl rfl rfl (fun _ e => by cases e) (fun _ e => by cases e) h3 fun val' v1 v2 => ⟨o, h1, ?_⟩
      rw [v1, envL_congr fun j hj => v2 j fun e => hi rfl (e ▸ hj)]; exact h2
    | an i =>
      obtain ⟨o, vf, ob, h1, h2, h3, h4⟩ := h.ch
      have hnl : L.getD i false = false := hu rfl
      have ha : ∀ j, j ≠ i → putA an i (vf, ob) j = an j := fun j hj => by simp only [putA]; rw [if_neg hj]
      have hpl : ∀ j ∈ pl, j ≠ i := fun j hj e => by have := ((h.pm j).1 hj).2.1; rw [e, hnl] at this; cases this
      refine ih (pre := pre ++ [.an i]) (val := val) (own := own) (an := putA an i (vf, ob)) (pl := pl) ⟨h.s1, h.s2, h.s3, h.s4, he, h.sl, ?_, ?_, fun p jt t hp => ?_, hun, h.pr, h.pn, fun j => ?_⟩
      · have e1 : ordOf (pre ++ [.an i]) = ordOf pre := by rw [ordOf_append]; simp [ordOf, It.sets]
        rw [e1]; exact h4
      · rw [plH_congr (an := an) (bf := bf) fun j hj => ⟨ha j (hpl j hj), rfl⟩]; exact h.sat
      · rcases snoc_split hp with ⟨t', rfl⟩ | ⟨rfl, rfl, -⟩
        · by_cases ej : jt.ix = i
          · by_cases hjx : jt.exec = true
            · exfalso
              refine (ex_notin ho (p := p ++ jt :: t') (t := r) (it := .an i) (by rw [h.e]) rfl).1 ?_
              rw [show (It.an i).ix = i from rfl, ← ej]; exact mem_exOf (by simp) hjx
            · cases jt with
              | rv k => exact h.kn p (.rv k) t' rfl
              | _ => exact absurd rfl hjx
          · exact (h.kn p jt t' rfl).congr (fun _ _ => rfl) rfl (ha _ ej) ⟨[], by simp⟩
        · exact ⟨o, vf, ob, h1, h2, h3, by simp [putA], fun hl => by rw [hnl] at hl; cases hl⟩
      · rw [h.pm j]
        refine ⟨fun ⟨g1, g2, g3⟩ => ⟨List.mem_append.2 (.inl g1), g2, ?_⟩, fun ⟨g1, g2, g3⟩ => ⟨?_, g2, List.mem_cons_of_mem _ g3⟩⟩
        · rcases List.mem_cons.1 g3 with g3 | g3
          · cases g3
          · exact g3
        · rcases List.mem_append.1 g1 with g1 | g1
          · exact g1
          · have := List.mem_singleton.1 g1
            cases this; rw [hnl] at g2; cases g2
    | rv i =>
      cases hL : L.getD i false with
      | false => exact ⟨_, _, _, _, _, _, h, hL⟩
      | true =>
        obtain ⟨vf, ob, h1, h2⟩ := h.ch
        have hc := ho.c2 pre i r h.e
        obtain ⟨p3, p4, hp34⟩ := List.append_of_mem hc.2
        obtain ⟨o, vf', ob', k1, k2, k3, k4, k5⟩ := h.kn p3 (.an i) p4 hp34
        rw [h1] at k4; cases k4
        have hpi : i ∈ pl := (h.pm i).2 ⟨hc.2, hL, List.mem_cons_self ..⟩
        have hper : (plH an bf pl).Perm (blk (bf i) ob :: plH an bf (pl.erase i)) := by
          have := (List.perm_cons_erase hpi).map (fun i => match an i with | some (_, ob) => blk (bf i) ob | none => emp)
          simp only [List.map_cons, h1] at this
          exact this
        refine ih (pre := pre ++ [.rv i]) (val := val) (own := blk (bf i) ob :: own) (an := an) (pl := pl.erase i) ⟨h.s1, h.s2, h.s3, h.s4, he, h.sl, ?_, ?_, fun p jt t hp => ?_, hun, (fun k hk hkl => by obtain ⟨Y, hY⟩ := h.pr k hk hkl; exact ⟨blk (bf i) ob :: Y, (hY.cons _).trans (List.perm_middle (a := blk (bf i) ob) (l₁ := prot) (l₂ := Y)).symm⟩), h.pn.erase _, fun j => ?_⟩
        · have e1 : ordOf (pre ++ [.rv i]) = ordOf pre ++ [i] := by rw [ordOf_append]; rfl
          rw [e1, envL_one, k5 hL]; exact h2 (bf i)
        · refine h.sat.perm ?_
          have := (hper.append_left (F :: own)).trans (List.perm_middle (a := blk (bf i) ob) (l₁ := F :: own) (l₂ := plH an bf (pl.erase i)))
          refine this.trans ?_
          simpa using List.Perm.swap F (blk (bf i) ob) (own ++ plH an bf (pl.erase i))
        · rcases snoc_split hp with ⟨t', rfl⟩ | ⟨rfl, rfl, -⟩
          · exact (h.kn p jt t' rfl).congr (fun _ _ => rfl) rfl rfl ⟨[blk (bf i) ob], by simpa using (List.perm_append_comm (l₁ := [blk (bf i) ob]) (l₂ := own))⟩
          · exact hL
        · rw [List.Nodup.mem_erase_iff h.pn, h.pm j]
          constructor
          · rintro ⟨g0, g1, g2, g3⟩
            refine ⟨List.mem_append.2 (.inl g1), g2, ?_⟩
            rcases List.mem_cons.1 g3 with g3 | g3
            · cases g3; exact absurd rfl g0
            · exact g3
          · rintro ⟨g1, g2, g3⟩
            refine ⟨fun e => ?_, ?_, g2, List.mem_cons_of_mem _ g3⟩
            · subst e
              have := ho.ordNodup
              rw [he, ordOf_append] at this
              refine (List.nodup_append.1 this).2.2 j ?_ j (mem_ordOf (it := .rv j) g3 rfl) rfl
              exact mem_ordOf (it := .rv j) (by simp) rfl
            · rcases List.mem_append.1 g1 with g1 | g1
              · exact g1
              · cases List.mem_singleton.1 g1
    | h c m => exact ⟨_, _, _, _, _, _, h, trivial⟩

theorem swp_drawC {P : Program} {r : Option Nat} {F : Heap} {n : Nat} {Q : SPost} {env : Env} {own : List Heap} {ds : List Deferred} {id : Nat} {ops : Array Oper} {its : List It} (prot : List Heap) (hpr : ∃ Y, own.Perm (prot ++ Y))
    (hok : dok ops = true) (hac : acyOk ops = true) (hits : itsOk ops its = true) (hdst : ∀ (i d : Nat), (ops[i]?).bind (·.dst) = some d → d < n)
    (h : Chain P F n ops prot (fun env own => Q .normal env own ds) its env own (fun _ => none)) : SWP P r F n (.region id ops true) Q env own ds := by
  intro a0 w0 ha0 hd0 hs0
  refine wpIn_region_draw fun t => ?_
  obtain ⟨md, t', hmd, hsch⟩ := schedule_mode (mixed := P.follows .mixedOrders) hac t
  rw [hsch]
  have ho := itsOk_spec hits
  let Inv : Array Bool → Act → World → Prop := fun L a w => ∃ pre post val own an bf pl, CI P F n ops prot (fun env own => Q .normal env own ds) its env a0 ds pre post val own an bf pl L a w ∧ Stuck L post
  have hend : ∀ L a w, Inv L a w → (∀ i, i < ops.size → L.getD i false = true) → Lift F n Q .normal a w := by
    rintro L a w ⟨pre, post, val, own, an, bf, pl, h, hst⟩ hall
    have hpost : post = [] := by
      cases post with
      | nil => rfl
      | cons it r =>
        exfalso
        have hlt : it.exec = true → False := fun hx => by
          have h1 := h.un it (List.mem_cons_self ..) hx
          have hs : it.sets = true ∨ it.sets = false := by cases it.sets <;> simp
          have : it.ix < ops.size := by
            have hm : it.ix ∈ exOf its := by rw [h.e]; exact mem_exOf (by simp) hx
            cases it with
            | an i =>
              -- it is shown somewhere
              by_cases hb : i < ops.size
              · exact hb
              · exfalso; cases hst
            | q i => exact ho.ordLt i (by rw [h.e]; exact mem_ordOf (it := .q i) (by simp) rfl)
            | f i => exact ho.ordLt i (by rw [h.e]; exact mem_ordOf (it := .f i) (by simp) rfl)
            | r i => exact ho.ordLt i (by rw [h.e]; exact mem_ordOf (it := .r i) (by simp) rfl)
            | rv i => cases hx
            | h c i => exact ho.ordLt i (by rw [h.e]; exact mem_ordOf (it := .h c i) (by simp) rfl)
          rw [hall _ this] at h1; cases h1
        cases it with
        | rv i =>
          have : i < ops.size := ho.ordLt i (by rw [h.e]; exact mem_ordOf (it := .rv i) (by simp) rfl)
          have hst' : L.getD i false = false := hst
          rw [hall _ this] at hst'; cases hst'
        | _ => exact hlt rfl
    subst hpost
    have hpre : its = pre := by rw [h.e, List.append_nil]
    have hpl : pl = [] := by
      cases pl with
      | nil => rfl
      | cons i l => have := ((h.pm i).1 (List.mem_cons_self ..)).2.2; cases this
    have hsat := h.sat
    rw [hpl] at hsat
    refine ⟨by simp, _, _, has_prefix ho hdst ha0 (p := its) (t := []) (val := val) (by simp) h.s2 (fun s hs => ?_), by simpa [plH] using hsat, ?_⟩
    · rw [h.sl s hs]
      simp only [atL]
      rw [lastW_congr (L := fun i => L.getD i false) (L' := fun j => (ordOf its).contains j) fun j hj _ => by rw [hall j hj]; simpa using ho.ordMem j hj]
    · rw [h.s3, hpre]; exact h.ch
  have key : ∀ fuel L a w, Inv L a w → fuel + cnt L ops.size = ops.size → wpAnyIn (fen r) 0 P md ops (Lift F n Q) fuel L a w := by
    intro fuel
    induction fuel with
    | zero =>
      intro L a w hI hf
      have hall := cnt_full ops.size (by omega : cnt L ops.size = ops.size)
      refine ⟨?_, hend L a w hI hall⟩
      obtain ⟨pre, post, val, own, an, bf, pl, h, hst⟩ := hI
      unfold Region.ready
      rw [List.filter_eq_nil_iff]
      intro i hi
      have hi' := List.mem_range.1 hi
      have hL := hall i hi'
      have hLt : L.getD i true = true := by
        have hlt : i < L.size := by rw [h.s1]; exact hi'
        simp only [Array.getD, hlt, dif_pos] at hL ⊢; exact hL
      simp [hLt]
    | succ fuel ih =>
      intro L a w hI hf
      refine ⟨fun hr => hend L a w hI (by obtain ⟨pre, post, val, own, an, bf, pl, h, hst⟩ := hI; exact topo_listed hmd h.s1 hr), fun i hi => ?_⟩
      obtain ⟨pre, post, val, own, an, bf, pl, h, hst⟩ := hI
      unfold Region.ready at hi
      rw [List.mem_filter] at hi
      obtain ⟨hi1, hi2⟩ := hi
      have hi1 := List.mem_range.1 hi1
      have hilt : i < L.size := by rw [h.s1]; exact hi1
      have hio : ops[i]? = some ops[i] := Array.getElem?_eq_getElem hi1
      simp only [hio, Option.map_some, Option.getD_some, Bool.and_eq_true, Bool.not_eq_true', Array.all_eq_true'] at hi2
      obtain ⟨hnl0, hrd⟩ := hi2
      have hnl : L.getD i false = false := by simp only [Array.getD, hilt, dif_pos] at hnl0 ⊢; exact hnl0
      have hrd' : ∀ e ∈ ops[i].after, Region.binds .any e = true → L.getD e.on false = true := fun e he hb => by
        have := hrd e he; rw [binds_any hb] at this; simpa using this
      have hready : ∀ j, Pre ops j i → L.getD j false = true := fun j hj => hj.ready (L := fun j => L.getD j false) h.s4 hio hrd'
      have hdown : ∀ j o, (L.setIfInBounds i true).getD j false = true → ops[j]? = some o → ∀ e ∈ o.after, Region.binds .any e = true → (L.setIfInBounds i true).getD e.on false = true := by
        intro j o hj ho e he hb
        rw [getD_set hilt] at hj ⊢
        by_cases e' : e.on = i
        · rw [if_pos e']
        · rw [if_neg e']
          by_cases ej : j = i
          · subst ej; rw [hio] at ho; cases ho; exact hrd' e he hb
          · rw [if_neg ej] at hj; exact h.s4 j o hj ho e he hb
      have hcnt : fuel + cnt (L.setIfInBounds i true) ops.size = ops.size := by rw [cnt_set hilt hnl, if_pos hi1]; omega
      have hsz2 : ∀ u, (a.put (ops[i]).dst u).tmps.size = n := fun u => by cases (ops[i]).dst <;> simp [Act.put, h.s2]
      have hdf2 : ∀ u, (a.put (ops[i]).dst u).defers = ds := fun u => by cases (ops[i]).dst <;> simp [Act.put, h.s3]
      have hLo : ∀ j, j ≠ i → (L.setIfInBounds i true).getD j false = L.getD j false := fun j hj => by rw [getD_set hilt, if_neg hj]
      have hLi : (L.setIfInBounds i true).getD i false = true := by rw [getD_set hilt, if_pos rfl]
      have hold : ∀ k, (L.setIfInBounds i true).getD k false = false → L.getD k false = false := fun k hk => by
        by_cases e : k = i
        · rw [e, hLi] at hk; cases hk
        · rwa [hLo k e] at hk
      have fin : ∀ {pre' post' val' own' an' bf' pl' a' w'}, CI P F n ops prot (fun env own => Q .normal env own ds) its env a0 ds pre' post' val' own' an' bf' pl' (L.setIfInBounds i true) a' w' → wpAnyIn (fen r) 0 P md ops (Lift F n Q) fuel (L.setIfInBounds i true) a' w' := fun hc => by
        obtain ⟨pre', post', val', own', an', pl', hc', hst'⟩ := advance ho hc
        exact ih _ _ _ ⟨pre', post', val', own', an', _, pl', hc', hst'⟩ hcnt
      -- where it stands
      have hmem := ho.exMem i hi1
      rw [h.e, exOf_append] at hmem
      rcases List.mem_append.1 hmem with hmem | hmem
      · obtain ⟨p, it, t2, hp, hx, hix⟩ := exOf_mem hmem
        have hsplit : its = p ++ it :: (t2 ++ post) := by rw [h.e, hp]; simp
        have hio' : ops[it.ix]? = some ops[i] := by rw [hix]; exact hio
        obtain ⟨a'', ha'', hlook⟩ := ci_frame hok ho hdst ha0 h.s2 h.s4 h.sl hsplit hx hio' (by rw [hix]; exact hnl) (by rw [hix]; exact hready)
        have hkn := h.kn p it t2 hp
        -- the state behind one whose value was known
        have next : ∀ w', val i = val i → Sat (F :: own ++ plH an bf pl) w' → (∀ j, it ≠ .an j) → wpAnyIn (fen r) 0 P md ops (Lift F n Q) fuel (L.setIfInBounds i true) (a.put (ops[i]).dst (val i)) w' := fun w' _ hs' hna => by
          refine fin (pre' := pre) (post' := post) (val' := val) (own' := own) (an' := an) (bf' := bf) (pl' := pl) ⟨by simpa using h.s1, hsz2 _, hdf2 _, hdown, h.e, ci_slots hok h.s2 h.s4 h.sl hio hilt h.s1 hnl val _ rfl (fun _ _ => rfl), h.ch, hs', fun p' jt t' hp' => ?_, fun x hx' hxe => ?_, (fun k hk hkl => h.pr k hk (hold k hkl)), h.pn, fun j => ?_⟩
          · have hk := h.kn p' jt t' hp'
            cases jt with
            | q j =>
              obtain ⟨o, hsub, h1, h2, h3⟩ := hk
              refine ⟨o, hsub, h1, h2, fun hl => h3 ?_⟩
              by_cases ej : j = i
              · subst ej; rw [hLi] at hl; cases hl
              · rwa [hLo j ej] at hl
            | f j => exact hk
            | r j => exact hk
            | an j =>
              obtain ⟨o, vf, ob, h1, h2, h3, h4, h5⟩ := hk
              refine ⟨o, vf, ob, h1, h2, h3, h4, fun hl => h5 ?_⟩
              by_cases ej : j = i
              · exfalso
                subst ej
                have hj2 : its = p' ++ .an j :: (t' ++ post) := by rw [h.e, hp']; simp
                have q1 := ex_notin ho hj2 rfl
                have hin : it ∈ pre := by rw [hp]; simp
                rw [hp'] at hin
                rcases List.mem_append.1 hin with hin | hin
                · exact q1.1 (by rw [show (It.an j).ix = it.ix from hix.symm]; exact mem_exOf hin hx)
                · rcases List.mem_cons.1 hin with hin | hin
                  · exact hna j hin
                  · exact q1.2 (by rw [exOf_append, show (It.an j).ix = it.ix from hix.symm]; exact List.mem_append.2 (.inl (mem_exOf hin hx)))
              · rwa [hLo j ej] at hl
            | rv j =>
              show (L.setIfInBounds i true).getD j false = true
              by_cases ej : j = i
              · subst ej; exact hLi
              · rw [hLo j ej]; exact hk
            | h c j =>
              show (L.setIfInBounds i true).getD j false = true
              by_cases ej : j = i
              · subst ej; exact hLi
              · rw [hLo j ej]; exact hk
          · rw [hLo]
            · exact h.un x hx' hxe
            · intro e
              have q2 := (ex_notin ho hsplit hx).2
              rw [hix, ← e, exOf_append] at q2
              exact q2 (List.mem_append.2 (.inr (mem_exOf hx' hxe)))
          · rw [h.pm j]
            by_cases ej : j = i
            · subst ej
              rw [hnl, hLi]
              refine ⟨fun g => by simp at g, fun ⟨g1, _, g3⟩ => ?_⟩
              exfalso
              obtain ⟨q1, q2, hq⟩ := List.append_of_mem g1
              have hj2 : its = q1 ++ .an j :: (q2 ++ post) := by rw [h.e, hq]; simp
              have hn := ex_notin ho hj2 rfl
              have hin : it ∈ pre := by rw [hp]; simp
              rw [hq] at hin
              rcases List.mem_append.1 hin with hin | hin
              · exact hn.1 (by rw [show (It.an j).ix = it.ix from hix.symm]; exact mem_exOf hin hx)
              · rcases List.mem_cons.1 hin with hin | hin
                · exact hna j hin
                · exact hn.2 (by rw [exOf_append, show (It.an j).ix = it.ix from hix.symm]; exact List.mem_append.2 (.inl (mem_exOf hin hx)))
            · rw [hLo j ej]
        -- one that is quiet
        have quiet : ∀ {F1 : Heap} {own1 Y : List Heap} , condAt P F1 n ops own1 (envL ops val (ordOf p) env) ops[i] (val i) → Sat (F1 :: own1 ++ Y) w →
            (∀ w', Sat (F1 :: own1 ++ Y) w' → Sat (F :: own ++ plH an bf pl) w') → (∀ j, it ≠ .an j) →
            wpOpIn (fen r) 0 P ops (Lift F n Q) i (wpAnyIn (fen r) 0 P md ops (Lift F n Q) fuel (L.setIfInBounds i true)) a w := by
          intro F1 own1 Y hc hs hk hna
          rcases hc.1 with ⟨hg, hvv⟩ | ⟨hg, hu, hpl⟩
          · simp only [wpOpIn, hio, (wanted_looks hlook).trans (wanted_of ha'' hg), if_true]
            refine ⟨fun f _ => by simp, ?_⟩
            rw [fen_round, semAt_plain hvv.1, eval_looks hlook (dok_plain hok hio)]
            obtain ⟨w', s', g1 | ⟨g1, g2⟩ | ⟨f, args, g1, g2⟩⟩ := hvv.2 a'' w Y ha'' hs
            · rw [g1]; exact next w' rfl (hk w' s') hna
            · rw [g1]
              have := next w' rfl (hk w' s') hna
              rw [g2] at this; exact this
            · rw [g1]
              refine ⟨fun hx => by simp at hx, (callsIn_fen _ g2).mono ?_⟩
              rintro e w'' ⟨rfl, s2⟩
              exact next w'' rfl (hk w'' s2) hna
          · simp only [wpOpIn, hio, (wanted_looks hlook).trans (wanted_of ha'' hg)]
            refine ⟨fun f _ => by simp, ?_⟩
            have := next w rfl (hk w hs) hna
            rw [hu] at this; exact this
        cases it with
        | q j =>
          obtain rfl : j = i := hix
          obtain ⟨o, hsub, h1, h2, h3⟩ := hkn
          rw [hio] at h1; cases h1
          obtain ⟨Y, hY⟩ := h3 hnl
          have pp : (F :: own ++ plH an bf pl).Perm (F :: hsub ++ (Y ++ plH an bf pl)) := by
            have := (hY.append_right (plH an bf pl)).cons F
            simpa [List.append_assoc] using this
          exact quiet h2 (h.sat.perm pp) (fun w' s' => s'.perm pp.symm) (fun _ e => by cases e)
        | f j =>
          obtain rfl : j = i := hix
          obtain ⟨o, h1, h2⟩ := hkn
          rw [hio] at h1; cases h1
          have hemp : Sat (emp :: (F :: own ++ plH an bf pl)) w := ⟨fun k hk => by
            rcases List.mem_cons.1 hk with rfl | hk
            · intro b o e; cases e
            · exact h.sat.le k hk, List.pairwise_cons.2 ⟨fun _ _ _ _ _ e _ => (by cases e), h.sat.dj⟩⟩
          exact quiet (Y := F :: own ++ plH an bf pl) h2 (by simpa using hemp) (fun w' s' => s'.tail) (fun _ e => by cases e)
        | r j =>
          obtain rfl : j = i := hix
          obtain ⟨o, h1, h2⟩ := hkn
          rw [hio] at h1; cases h1
          obtain ⟨Y, hY⟩ := h.pr j (by simpa using hi1) hnl
          have pp : (F :: own ++ plH an bf pl).Perm (F :: prot ++ (Y ++ plH an bf pl)) := by
            have := (hY.append_right (plH an bf pl)).cons F
            simpa [List.append_assoc] using this
          exact quiet h2 (h.sat.perm pp) (fun w' s' => s'.perm pp.symm) (fun _ e => by cases e)
        | rv j => cases hx
        | h c j =>
          obtain rfl : j = i := hix
          rw [show L.getD j false = true from hkn] at hnl; cases hnl
        | an j =>
          obtain rfl : j = i := hix
          obtain ⟨o, vf, ob, h1, h2, h3, h4, h5⟩ := hkn
          rw [hio] at h1; cases h1
          simp only [wpOpIn, hio, (wanted_looks hlook).trans (wanted_of ha'' h2), if_true]
          refine ⟨fun f _ => by simp, ?_⟩
          rw [fen_round, semAt_plain h3.1, eval_looks hlook (dok_plain hok hio), h3.2.2 a'' w ha'']
          show wpAnyIn (fen r) 0 P md ops (Lift F n Q) fuel (L.setIfInBounds j true) (a.put (ops[j]).dst (vf w.heap.size)) _
          let val' : Nat → Value := fun k => if k = j then vf w.heap.size else val k
          let bf' : Nat → Nat := fun k => if k = j then w.heap.size else bf k
          have v1 : val' j = vf w.heap.size := by simp [val']
          have v2 : ∀ k, k ≠ j → val' k = val k := fun k hk => by simp only [val']; rw [if_neg hk]
          have b1 : bf' j = w.heap.size := by simp [bf']
          have b2 : ∀ k, k ≠ j → bf' k = bf k := fun k hk => by simp only [bf']; rw [if_neg hk]
          have hjo : j ∉ ordOf pre := fun hj => by
            obtain ⟨p1, it', p2, hp12, hs', hx'⟩ := ordOf_mem hj
            have := h.kn p1 it' p2 hp12
            cases it' with
            | rv k => obtain rfl : k = j := hx'; rw [show L.getD k false = true from this] at hnl; cases hnl
            | h c k => obtain rfl : k = j := hx'; rw [show L.getD k false = true from this] at hnl; cases hnl
            | an k => cases hs'
            | q k =>
              obtain rfl : k = j := hx'
              have hin : It.q k ∈ pre := by rw [hp12]; simp
              have hn := ex_notin ho hsplit rfl
              rw [hp] at hin
              rcases List.mem_append.1 hin with hin | hin
              · exact hn.1 (mem_exOf (it := .q k) hin rfl)
              · rcases List.mem_cons.1 hin with hin | hin
                · cases hin
                · exact hn.2 (by rw [exOf_append]; exact List.mem_append.2 (.inl (mem_exOf (it := .q k) hin rfl)))
            | f k =>
              obtain rfl : k = j := hx'
              have hin : It.f k ∈ pre := by rw [hp12]; simp
              have hn := ex_notin ho hsplit rfl
              rw [hp] at hin
              rcases List.mem_append.1 hin with hin | hin
              · exact hn.1 (mem_exOf (it := .f k) hin rfl)
              · rcases List.mem_cons.1 hin with hin | hin
                · cases hin
                · exact hn.2 (by rw [exOf_append]; exact List.mem_append.2 (.inl (mem_exOf (it := .f k) hin rfl)))
            | r k =>
              obtain rfl : k = j := hx'
              have hin : It.r k ∈ pre := by rw [hp12]; simp
              have hn := ex_notin ho hsplit rfl
              rw [hp] at hin
              rcases List.mem_append.1 hin with hin | hin
              · exact hn.1 (mem_exOf (it := .r k) hin rfl)
              · rcases List.mem_cons.1 hin with hin | hin
                · cases hin
                · exact hn.2 (by rw [exOf_append]; exact List.mem_append.2 (.inl (mem_exOf (it := .r k) hin rfl)))
          have hjp : j ∉ pl := fun hj => by have := ((h.pm j).1 hj).2.1; rw [hnl] at this; cases this
          have hrvpost : .rv j ∈ post := by
            have h1 := ho.ordMem j hi1
            rw [h.e, ordOf_append] at h1
            rcases List.mem_append.1 h1 with h1 | h1
            · exact absurd h1 hjo
            · obtain ⟨p1, it', p2, hp12, hs', hx'⟩ := ordOf_mem h1
              cases it' with
              | rv k => obtain rfl : k = j := hx'; rw [hp12]; simp
              | an k => cases hs'
              | q k =>
                exfalso
                obtain rfl : k = j := hx'
                exact (ex_notin ho hsplit rfl).2 (by rw [exOf_append]; exact List.mem_append.2 (.inr (mem_exOf (it := .q k) (by rw [hp12]; simp) rfl)))
              | f k =>
                exfalso
                obtain rfl : k = j := hx'
                exact (ex_notin ho hsplit rfl).2 (by rw [exOf_append]; exact List.mem_append.2 (.inr (mem_exOf (it := .f k) (by rw [hp12]; simp) rfl)))
              | r k =>
                exfalso
                obtain rfl : k = j := hx'
                exact (ex_notin ho hsplit rfl).2 (by rw [exOf_append]; exact List.mem_append.2 (.inr (mem_exOf (it := .r k) (by rw [hp12]; simp) rfl)))
              | h c k =>
                exfalso
                obtain rfl : k = j := hx'
                exact (ex_notin ho hsplit rfl).2 (by rw [exOf_append]; exact List.mem_append.2 (.inr (mem_exOf (it := .h c k) (by rw [hp12]; simp) rfl)))
          have vL : ∀ k, L.getD k false = true → val' k = val k := fun k hk => v2 k fun e => by rw [e, hnl] at hk; cases hk
          have vp : ∀ k ∈ ordOf pre, val' k = val k := fun k hk => v2 k fun e => hjo (e ▸ hk)
          refine fin (pre' := pre) (post' := post) (val' := val') (own' := own) (an' := an) (bf' := bf') (pl' := j :: pl) ⟨by simpa using h.s1, hsz2 _, hdf2 _, hdown, h.e, ci_slots hok h.s2 h.s4 h.sl hio hilt h.s1 hnl val' _ v1 vL, ?_, ?_, fun p' jt t' hp' => ?_, fun x hx' hxe => ?_, (fun k hk hkl => h.pr k hk (hold k hkl)), List.nodup_cons.2 ⟨hjp, h.pn⟩, fun k => ?_⟩
          · rw [envL_congr vp]; exact h.ch
          · have e1 : plH an bf' (j :: pl) = blk w.heap.size ob :: plH an bf pl := by
              have := plH_congr (an := an) (an' := an) (bf := bf) (bf' := bf') (pl := pl) fun k hk => ⟨rfl, b2 k fun e => hjp (e ▸ hk)⟩
              simp only [plH, List.map_cons, h4, b1] at this ⊢
              rw [this]
            rw [e1]
            have := sat_alloc h.sat ob h3.2.1
            exact this.perm (List.perm_middle (a := blk w.heap.size ob) (l₁ := F :: own) (l₂ := plH an bf pl)).symm
          · have hk := h.kn p' jt t' hp'
            have hpo : ∀ k ∈ ordOf p', val' k = val k := fun k hk => vp k (by rw [hp', ordOf_append]; exact List.mem_append.2 (.inl hk))
            have he' : envL ops val' (ordOf p') env = envL ops val (ordOf p') env := envL_congr hpo
            have hne : jt.sets = true → jt.ix ≠ j := fun hs e => hjo (e ▸ mem_ordOf (by rw [hp']; simp) hs)
            cases jt with
            | q k =>
              obtain ⟨o, hsub, g1, g2, g3⟩ := hk
              exact ⟨o, hsub, g1, by rw [he', v2 k (hne rfl)]; exact g2, fun hl => g3 (by rwa [hLo k (hne rfl)] at hl)⟩
            | f k =>
              obtain ⟨o, g1, g2⟩ := hk
              exact ⟨o, g1, by rw [he', v2 k (hne rfl)]; exact g2⟩
            | r k =>
              obtain ⟨o, g1, g2⟩ := hk
              exact ⟨o, g1, by rw [he', v2 k (hne rfl)]; exact g2⟩
            | an k =>
              obtain ⟨o, vf2, ob2, g1, g2, g3, g4, g5⟩ := hk
              refine ⟨o, vf2, ob2, g1, by rw [he']; exact g2, by rw [he']; exact g3, g4, fun hl => ?_⟩
              by_cases ek : k = j
              · subst ek; rw [h4] at g4; cases g4; rw [v1, b1]
              · rw [v2 k ek, b2 k ek]; exact g5 (by rwa [hLo k ek] at hl)
            | rv k => show (L.setIfInBounds j true).getD k false = true; rw [hLo k (hne rfl)]; exact hk
            | h c k => show (L.setIfInBounds j true).getD k false = true; rw [hLo k (hne rfl)]; exact hk
          · rw [hLo]
            · exact h.un x hx' hxe
            · intro e
              have q2 := (ex_notin ho hsplit hx).2
              rw [show (It.an j).ix = j from rfl, ← e, exOf_append] at q2
              exact q2 (List.mem_append.2 (.inr (mem_exOf hx' hxe)))
          · by_cases ek : k = j
            · subst ek
              exact ⟨fun _ => ⟨by rw [hp]; simp, hLi, hrvpost⟩, fun _ => List.mem_cons_self ..⟩
            · rw [hLo k ek, List.mem_cons, h.pm k]
              exact ⟨fun hh => hh.resolve_left ek, .inr⟩
      · -- it stands behind: it is the one that is waited for
        cases post with
        | nil => cases hmem
        | cons it rest =>
          have hwait : ∀ m, (∀ x ∈ exOf rest, Pre ops m x) → L.getD m false = false → i ∈ exOf rest → False := fun m hm hLm hir => by
            have := hready m (hm i hir); rw [hLm] at this; cases this
          cases it with
          | q _ => cases hst
          | f _ => cases hst
          | r _ => cases hst
          | an _ => cases hst
          | rv m => exact (hwait m (ho.c2 pre m rest h.e).1 hst (by simpa [exOf, It.exec] using hmem)).elim
          | h c m =>
            have hLm : L.getD m false = false := h.un (.h c m) (List.mem_cons_self ..) rfl
            have him : i = m := by
              have e1 : exOf (.h c m :: rest) = m :: exOf rest := rfl
              rw [e1] at hmem
              rcases List.mem_cons.1 hmem with hm | hm
              · exact hm
              · exact (hwait m (ho.c1 pre c m rest h.e) hLm hm).elim
            subst him
            obtain ⟨a'', ha'', hlook⟩ := ci_frame hok ho hdst ha0 h.s2 h.s4 h.sl h.e rfl (by exact hio) (by exact hnl) (by exact hready)
            obtain ⟨o, ownM, ownC, R, k1, k2, k34, k5, k7, k6⟩ := h.ch
            rw [hio] at k1; cases k1
            have pp : (F :: own ++ plH an bf pl).Perm (ownM ++ (ownC ++ (F :: plH an bf pl))) := by
              have e1 : (F :: own ++ plH an bf pl).Perm (own ++ (F :: plH an bf pl)) := (List.perm_middle (a := F) (l₁ := own) (l₂ := plH an bf pl)).symm
              refine e1.trans ?_
              have := k2.append_right (F :: plH an bf pl)
              simpa [List.append_assoc] using this
            have cont : ∀ v own' w', R v own' → Sat (own' ++ (ownC ++ (F :: plH an bf pl))) w' → wpAnyIn (fen r) 0 P md ops (Lift F n Q) fuel (L.setIfInBounds i true) (a.put (ops[i]).dst v) w' := ?_
            · rcases k34 with ⟨k3, k4⟩ | ⟨k3, -, k4⟩
              · exact hop_wp (X := ownC ++ (F :: plH an bf pl)) k4 hio ((wanted_looks hlook).trans (wanted_of ha'' k3)) ha'' (eval_looks hlook (dok_plain hok hio)) (h.sat.perm pp) cont
              · simp only [wpOpIn, hio, (wanted_looks hlook).trans (wanted_of ha'' k3)]
                exact ⟨fun f _ => by simp, cont undef ownM w k4 (h.sat.perm pp)⟩
            intro v own' w' hR s2
            let val' : Nat → Value := fun k => if k = i then v else val k
            have v1 : val' i = v := by simp [val']
            have v2 : ∀ k, k ≠ i → val' k = val k := fun k hk => by simp only [val']; rw [if_neg hk]
            have vL : ∀ k, L.getD k false = true → val' k = val k := fun k hk => v2 k fun e => by rw [e, hnl] at hk; cases hk
            have hjo : i ∉ ordOf pre := ord_notin ho h.e rfl
            have vp : ∀ k ∈ ordOf pre, val' k = val k := fun k hk => v2 k fun e => hjo (e ▸ hk)
            have hnx := ex_notin ho h.e rfl
            have he2 : its = (pre ++ [.h c i]) ++ rest := by rw [h.e]; simp
            refine fin (pre' := pre ++ [.h c i]) (post' := rest) (val' := val') (own' := own' ++ ownC) (an' := an) (bf' := bf) (pl' := pl) ⟨by simpa using h.s1, hsz2 _, hdf2 _, hdown, he2, ci_slots hok h.s2 h.s4 h.sl hio hilt h.s1 hnl val' _ v1 vL, ?_, ?_, fun p' jt t' hp' => ?_, fun x hx' hxe => ?_, ?_, h.pn, fun k => ?_⟩
            · have e1 : ordOf (pre ++ [.h c i]) = ordOf pre ++ [i] := by rw [ordOf_append]; rfl
              rw [e1, envL_one, v1, envL_congr vp]; exact k6 v own' hR
            · refine s2.perm ?_
              have e1 : (own' ++ (ownC ++ (F :: plH an bf pl))).Perm (F :: (own' ++ ownC) ++ plH an bf pl) := by
                rw [← List.append_assoc]; exact List.perm_middle (a := F) (l₁ := own' ++ ownC) (l₂ := plH an bf pl)
              exact e1
            · rcases snoc_split hp' with ⟨t2, rfl⟩ | ⟨rfl, rfl, -⟩
              · have hk := h.kn p' jt t2 rfl
                have hne : jt.exec = true → jt.ix ≠ i := fun hx e => hnx.1 (by rw [show (It.h c i).ix = jt.ix from e.symm]; exact mem_exOf (by simp) hx)
                have hpo : ∀ k ∈ ordOf p', val' k = val k := fun k hk => vp k (by rw [ordOf_append]; exact List.mem_append.2 (.inl hk))
                have he' : envL ops val' (ordOf p') env = envL ops val (ordOf p') env := envL_congr hpo
                cases jt with
                | q k =>
                  obtain ⟨o, hsub, g1, g2, g3⟩ := hk
                  refine ⟨o, hsub, g1, by rw [he', v2 k (hne rfl)]; exact g2, fun hl => ?_⟩
                  rw [hLo k (hne rfl)] at hl
                  cases c with
                  | true =>
                    have := hready k (ho.c3 _ i rest h.e k (by simp))
                    rw [hl] at this; cases this
                  | false =>
                    obtain ⟨Y, hY⟩ := g3 hl
                    obtain ⟨N, hN⟩ := k5 rfl v own' hR
                    refine ⟨Y ++ N, ?_⟩
                    have q1 : (own' ++ ownC).Perm (own ++ N) := by
                      refine (hN.append_right ownC).trans ?_
                      have : ((ownM ++ N) ++ ownC).Perm ((ownM ++ ownC) ++ N) := by
                        rw [List.append_assoc, List.append_assoc]
                        exact (List.perm_append_comm (l₁ := N) (l₂ := ownC)).append_left ownM
                      exact this.trans (k2.symm.append_right N)
                    refine q1.trans ?_
                    rw [← List.append_assoc]; exact hY.append_right N
                | f k =>
                  obtain ⟨o, g1, g2⟩ := hk
                  exact ⟨o, g1, by rw [he', v2 k (hne rfl)]; exact g2⟩
                | r k =>
                  obtain ⟨o, g1, g2⟩ := hk
                  exact ⟨o, g1, by rw [he', v2 k (hne rfl)]; exact g2⟩
                | an k =>
                  obtain ⟨o, vf2, ob2, g1, g2, g3, g4, g5⟩ := hk
                  exact ⟨o, vf2, ob2, g1, by rw [he']; exact g2, by rw [he']; exact g3, g4, fun hl => by
                    rw [v2 k (hne rfl)]; exact g5 (by rwa [hLo k (hne rfl)] at hl)⟩
                | rv k =>
                  show (L.setIfInBounds i true).getD k false = true
                  by_cases ek : k = i
                  · subst ek; exact hLi
                  · rw [hLo k ek]; exact hk
                | h c' k => show (L.setIfInBounds i true).getD k false = true; rw [hLo k (hne rfl)]; exact hk
              · exact hLi
            · rw [hLo]
              · exact h.un x (List.mem_cons_of_mem _ hx') hxe
              · intro e
                exact hnx.2 (by rw [show (It.h c i).ix = x.ix from e.symm]; exact mem_exOf hx' hxe)
            · cases c with
              | true =>
                intro k hk hkl
                rcases k7 rfl with ⟨Y, hY⟩ | hlast
                case inr =>
                  exfalso
                  rcases lastB_spec hlast k hk with rfl | hp
                  · rw [hLi] at hkl; cases hkl
                  · have := hready k hp; rw [hold k hkl] at this; cases this
                exact ⟨Y ++ own', (List.perm_append_comm (l₁ := own') (l₂ := ownC)).trans (by rw [← List.append_assoc]; exact hY.append_right own')⟩
              | false =>
                obtain ⟨N, hN⟩ := k5 rfl v own' hR
                intro k hk hkl
                obtain ⟨Y, hY⟩ := h.pr k hk (hold k hkl)
                have q1 : (own' ++ ownC).Perm (own ++ N) := by
                  refine (hN.append_right ownC).trans ?_
                  have : ((ownM ++ N) ++ ownC).Perm ((ownM ++ ownC) ++ N) := by
                    rw [List.append_assoc, List.append_assoc]
                    exact (List.perm_append_comm (l₁ := N) (l₂ := ownC)).append_left ownM
                  exact this.trans (k2.symm.append_right N)
                exact ⟨Y ++ N, q1.trans (by rw [← List.append_assoc]; exact hY.append_right N)⟩
            · rw [h.pm k]
              constructor
              · rintro ⟨g1, g2, g3⟩
                refine ⟨List.mem_append.2 (.inl g1), ?_, ?_⟩
                · rw [hLo k fun e => by rw [e, hnl] at g2; cases g2]; exact g2
                · rcases List.mem_cons.1 g3 with g3 | g3
                  · cases g3
                  · exact g3
              · rintro ⟨g1, g2, g3⟩
                have g1' : .an k ∈ pre := by
                  rcases List.mem_append.1 g1 with g1 | g1
                  · exact g1
                  · cases List.mem_singleton.1 g1
                have hk : k ≠ i := fun e => hnx.1 (by rw [show (It.h c i).ix = (It.an k).ix from e.symm]; exact mem_exOf g1' rfl)
                exact ⟨g1', by rwa [hLo k hk] at g2, List.mem_cons_of_mem _ g3⟩
  have hrep : ∀ j, (Array.replicate ops.size false).getD j false = false := fun j => by
    rw [Array.getD_eq_getD_getElem?, Array.getElem?_replicate]; split <;> rfl
  have h0 : CI P F n ops prot (fun env own => Q .normal env own ds) its env a0 ds [] its (fun _ => undef) own (fun _ => none) (fun _ => 0) [] (Array.replicate ops.size false) a0 { w0 with drawn := w0.drawn + 1 } := by
    refine ⟨by simp, ha0.size, hd0, fun i o hi => ?_, rfl, fun s hs => ?_, h, ?_, fun p it t hp => ?_, fun x _ _ => hrep _, fun _ _ _ => hpr, List.nodup_nil, fun i => ?_⟩
    · rw [hrep] at hi; cases hi
    · have hz : ∀ k, lastW ops (fun j => (Array.replicate ops.size false).getD j false) s k = none := by
        intro k
        induction k with
        | zero => rfl
        | succ k ih =>
          simp only [hrep] at ih
          simp only [lastW, hrep, Bool.false_and, Bool.false_eq_true, if_false]
          exact ih
      simp only [atL, hz]
    · exact (hs0.heap (w' := { w0 with drawn := w0.drawn + 1 }) rfl rfl rfl).perm (by simp [plH])
    · simp at hp
    · simp
  obtain ⟨pre', post', val', own', an', pl', hc', hst'⟩ := advance ho h0
  refine wpAnyIn_sound ops.size t' (Array.replicate ops.size false) a0 _ (key ops.size _ a0 _ ⟨pre', post', val', own', an', _, pl', hc', hst'⟩ ?_)
  have : ∀ k, cnt (Array.replicate ops.size false) k = 0 := by
    intro k
    unfold cnt
    rw [List.length_eq_zero_iff, List.filter_eq_nil_iff]
    intro i _
    simp [hrep]
  rw [this]; omega
end
end Go.SL
end
section
/- The walk of a region that draws its order, piece by piece. -/
set_option linter.unusedVariables false
namespace Go.SL

inductive Sg
  | q (l : List Nat)
  | f (l : List Nat)
  | r (l : List Nat)
  | an (i : Nat)
  | rv (i : Nat)
  | h (c : Bool) (m : Nat)
def Sg.its : Sg → List It
  | .q l => l.map It.q
  | .f l => l.map It.f
  | .r l => l.map It.r
  | .an i => [.an i]
  | .rv i => [.rv i]
  | .h c m => [.h c m]
def allIts : List Sg → List It
  | [] => []
  | s :: r => s.its ++ allIts r

def ChU (P : Program) (r : Option Nat) (F : Heap) (n : Nat) (all : Array Oper) (prot : List Heap) (Q : SPost) (ds : List Deferred) : List Sg → Env → List Heap → An → Prop
  | [], env, own, _ => Q .normal env own ds
  | .q l :: s, env, own, an => QOps P F n all own (fun env' => ChU P r F n all prot Q ds s env' own an) l env
  | .f l :: s, env, own, an => QOps P emp n all [] (fun env' => ChU P r F n all prot Q ds s env' own an) l env
  | .r l :: s, env, own, an => QOps P F n all prot (fun env' => ChU P r F n all prot Q ds s env' own an) l env
  | .an i :: s, env, own, an => ∃ o vf ob, all[i]? = some o ∧ wantedE all env o = some true ∧ NewOp P n o env vf ob ∧ ChU P r F n all prot Q ds s env own (putA an i (vf, ob))
  | .rv i :: s, env, own, an => ∃ vf ob, an i = some (vf, ob) ∧ ∀ b, ChU P r F n all prot Q ds s (extE all i (vf b) env) (blk b ob :: own) an
  | .h c m :: s, env, own, an => ∃ o ownM ownC R, all[m]? = some o ∧ own.Perm (ownM ++ ownC) ∧ ((wantedE all env o = some true ∧ HOp P ownM n o env R) ∨ (wantedE all env o = some false ∧ plainOp o.op = true ∧ R undef ownM)) ∧
      (c = false → ∀ v own', R v own' → ∃ N, own'.Perm (ownM ++ N)) ∧ (c = true → (∃ Y, ownC.Perm (prot ++ Y)) ∨ lastB all m = true) ∧ ∀ v own', R v own' → ChU P r F n all prot Q ds s (extE all m v env) (own' ++ ownC) an

section
variable {P : Program} {r : Option Nat} {F : Heap} {n : Nat} {prot : List Heap} {Q : SPost} {env : Env} {own rest hs ownM ownC : List Heap} {ds : List Deferred} {all : Array Oper} {s : List Sg} {o : Oper} {id : Nat} {an : An}

theorem chain_q {K : Env → List Heap → Prop} {F1 : Heap} {own1 : List Heap} {it : Nat → It} {own : List Heap} {an : An} (hit : ∀ i rr env o v, all[i]? = some o → condAt P F1 n all own1 env o v → Chain P F n all prot K rr (extE all i v env) own an → Chain P F n all prot K (it i :: rr) env own an)
    {rr : List It} : ∀ {l : List Nat} {env : Env}, QOps P F1 n all own1 (fun env' => Chain P F n all prot K rr env' own an) l env → Chain P F n all prot K (l.map it ++ rr) env own an := by
  intro l
  induction l with
  | nil => intro env h; exact h
  | cons i l ih =>
    intro env h
    simp only [QOps] at h
    obtain ⟨o, v, h1, h2, h3, h4⟩ := h
    refine hit i _ env o v h1 ⟨h2, h3⟩ (ih ?_)
    have : extE all i v env = (match o.dst with | some d => (d, v) :: env | none => env) := by simp only [extE, h1, Option.bind_some] <;> cases o.dst <;> rfl
    rw [this]; exact h4
theorem chain_of : ∀ {s : List Sg} {env : Env} {own : List Heap} {an : An}, ChU P r F n all prot Q ds s env own an → Chain P F n all prot (fun env own => Q .normal env own ds) (allIts s) env own an := by
  intro s
  induction s with
  | nil => intro env own an h; exact h
  | cons x s ih =>
    intro env own an h
    cases x with
    | q l => exact chain_q (it := It.q) (own1 := own) (F1 := F) (fun i rr env o v h1 h2 h3 => ⟨o, v, h1, h2, h3⟩) (qops_mono (fun env h => ih h) h)
    | f l => exact chain_q (it := It.f) (fun i rr env o v h1 h2 h3 => ⟨o, v, h1, h2, h3⟩) (qops_mono (fun env h => ih h) h)
    | r l => exact chain_q (it := It.r) (fun i rr env o v h1 h2 h3 => ⟨o, v, h1, h2, h3⟩) (qops_mono (fun env h => ih h) h)
    | an i =>
      obtain ⟨o, vf, ob, h1, h2, h3, h4⟩ := h
      exact ⟨o, vf, ob, h1, h2, h3, ih h4⟩
    | rv i =>
      obtain ⟨vf, ob, h1, h2⟩ := h
      exact ⟨vf, ob, h1, fun b => ih (h2 b)⟩
    | h c m =>
      obtain ⟨o, ownM, ownC, R, h1, h2, h3, h5, h7, h6⟩ := h
      exact ⟨o, ownM, ownC, R, h1, h2, h3, h5, h7, fun v own' hR => ih (h6 v own' hR)⟩

theorem sl_drawC (s : List Sg) (prot : List Heap) [tp : TakeL own prot rest] {ops : Array Oper} (hok : dok ops = true) (hac : acyOk ops = true) (hits : itsOk ops (allIts s) = true) (hdst : dstB ops n = true)
    (h : ChU P r F n ops prot Q ds s env own (fun _ => none)) : SWP P r F n (.region id ops true) Q env own ds :=
  swp_drawC prot ⟨rest, tp.perm⟩ hok hac hits (dstB_spec hdst) (chain_of h)
theorem chu_nil (h : Q .normal env own ds) : ChU P r F n all prot Q ds [] env own an := h
theorem chu_q {l : List Nat} {A : List Oper} (hA : pickO all l = some A) (h : SOL true P r F n all A (Thn (fun env1 _ _ => ChU P r F n all prot Q ds s env1 own an) (fun _ _ _ _ => False)) env own ds) : ChU P r F n all prot Q ds (.q l :: s) env own an :=
  h l (pickO_eq hA)
theorem chu_f {l : List Nat} {A : List Oper} (hA : pickO all l = some A) (h : SOL true P r emp n all A (Thn (fun env1 _ _ => ChU P r F n all prot Q ds s env1 own an) (fun _ _ _ _ => False)) env [] ds) : ChU P r F n all prot Q ds (.f l :: s) env own an :=
  h l (pickO_eq hA)
theorem chu_r {l : List Nat} {A : List Oper} (hA : pickO all l = some A) (h : SOL true P r F n all A (Thn (fun env1 _ _ => ChU P r F n all prot Q ds s env1 own an) (fun _ _ _ _ => False)) env prot ds) : ChU P r F n all prot Q ds (.r l :: s) env own an :=
  h l (pickO_eq hA)
theorem chu_rv {i d : Nat} {vf : Nat → Value} {ob : Obj} (hi : all[i]? = some o) (hd : o.dst = some d) (ha : an i = some (vf, ob)) (h : ∀ b, ChU P r F n all prot Q ds s ((d, vf b) :: env) (blk b ob :: own) an) : ChU P r F n all prot Q ds (.rv i :: s) env own an := by
  refine ⟨vf, ob, ha, fun b => ?_⟩
  have : extE all i (vf b) env = (d, vf b) :: env := by simp only [extE, hi, Option.bind_some, hd]
  rw [this]; exact h b
theorem chu_new {i : Nat} {vf : Nat → Value} {ob : Obj} (hi : all[i]? = some o) (hg : wantedE all env o = some true) (hn : NewOp P n o env vf ob) (h : ChU P r F n all prot Q ds s env own (putA an i (vf, ob))) : ChU P r F n all prot Q ds (.an i :: s) env own an :=
  ⟨o, vf, ob, hi, hg, hn, h⟩
theorem chu_h {c : Bool} {m d : Nat} {R : Value → List Heap → Prop} (hi : all[m]? = some o) (hd : o.dst = some d) (hg : wantedE all env o = some true) [t : TakeL own hs rest] (hop : HOp P hs n o env R)
    (hgr : c = false → ∀ v own', R v own' → ∃ N, own'.Perm (hs ++ N)) (hpc : c = true → (∃ Y, rest.Perm (prot ++ Y)) ∨ lastB all m = true) (h : ∀ v own', R v own' → ∃ own2, appH own' rest = some own2 ∧ ChU P r F n all prot Q ds s ((d, v) :: env) own2 an) : ChU P r F n all prot Q ds (.h c m :: s) env own an := by
  refine ⟨o, hs, rest, R, hi, t.perm, .inl ⟨hg, hop⟩, hgr, hpc, fun v own' hR => ?_⟩
  obtain ⟨own2, e2, h2⟩ := h v own' hR
  have : extE all m v env = (d, v) :: env := by simp only [extE, hi, Option.bind_some, hd]
  rw [this, ← appH_eq e2]; exact h2
theorem chu_h0 {c : Bool} {m : Nat} {R : Value → List Heap → Prop} (hi : all[m]? = some o) (hd : o.dst = none) (hg : wantedE all env o = some true) [t : TakeL own hs rest] (hop : HOp P hs n o env R)
    (hgr : c = false → ∀ v own', R v own' → ∃ N, own'.Perm (hs ++ N)) (hpc : c = true → (∃ Y, rest.Perm (prot ++ Y)) ∨ lastB all m = true) (h : ∀ v own', R v own' → ∃ own2, appH own' rest = some own2 ∧ ChU P r F n all prot Q ds s env own2 an) : ChU P r F n all prot Q ds (.h c m :: s) env own an := by
  refine ⟨o, hs, rest, R, hi, t.perm, .inl ⟨hg, hop⟩, hgr, hpc, fun v own' hR => ?_⟩
  obtain ⟨own2, e2, h2⟩ := h v own' hR
  have : extE all m v env = env := by simp only [extE, hi, Option.bind_some, hd]
  rw [this, ← appH_eq e2]; exact h2
/-- A guarded operation that is not carried out, where a heavy one was looked for. -/
theorem chu_pass {c : Bool} {m d : Nat} [tp : TakeL own prot rest] (hi : all[m]? = some o) (hd : o.dst = some d) (hg : wantedE all env o = some false) (hp : plainOp o.op = true) (h : ChU P r F n all prot Q ds s ((d, undef) :: env) own an) : ChU P r F n all prot Q ds (.h c m :: s) env own an := by
  refine ⟨o, [], own, fun v own' => v = undef ∧ own' = [], hi, List.Perm.refl _, .inr ⟨hg, hp, rfl, rfl⟩, ?_, fun _ => .inl ⟨rest, tp.perm⟩, ?_⟩
  · rintro - v own' ⟨rfl, rfl⟩; exact ⟨[], List.Perm.refl _⟩
  · rintro v own' ⟨rfl, rfl⟩
    have : extE all m undef env = (d, undef) :: env := by simp only [extE, hi, Option.bind_some, hd]
    rw [this]; exact h

/-! New blocks. -/
theorem new_alloc {t : TypeId} {de : TypeDesc} {z : Value} {ti : TypeInfo} {cs : List Value} [ty : Ty P t de z ti] (ho : o.op = .alloc t) (hz : cellsO z = some cs) :
    NewOp P n o env (fun b => .pointer (some ⟨b, 0, none⟩)) (.cells ⟨cs⟩ t (0, 0)) :=
  ⟨by rw [ho]; rfl, fun _ => by simp [fzo], fun a w _ => by simp [execOp, ho, Instr.alloc, ty.z, newVar, newRow, cellsO_eq hz]⟩
theorem new_box {t : TypeId} {x : Operand} {v : Value} {cs : List Value} (ho : o.op = .box t x) (hx : ev env x = some v) (hz : cellsO v = some cs) :
    NewOp P n o env (fun b => .pointer (some ⟨b, 0, none⟩)) (.cells ⟨cs⟩ t (0, 0)) :=
  ⟨by rw [ho]; rfl, fun _ => by simp [fzo], fun a w ha => by simp [execOp, ho, Instr.box, ha.eval hx, newVar, newRow, cellsO_eq hz]⟩
theorem new_buildSlice {t e : TypeId} {sz bytes len : Nat} {ps : Array (Nat × Operand)} {qs : List (Nat × Value)} {zv : Value} {zc zs cs : List Value} {de : TypeDesc} {ti : TypeInfo} [g : TyG P t e sz bytes] [z : Ty P e de zv ti]
    (ho : o.op = .buildSlice t len ps) (hp : evps env ps.toList = some qs)
    (hzc : cellsO zv = some zc) (hzl : zc.length = sz) (hz : zrep len zc = some zs) (hb : buildO (fun i => some (i * sz, sz)) zs qs = some cs) (hbig : Nat.ble (len * sz) 16777216 = true) :
    NewOp P n o env (fun b => .slice (some ⟨b, 0, none⟩) len len) (.cells ⟨cs⟩ e (0, 0)) := by
  refine ⟨by rw [ho]; rfl, fun _ => by simp [fzo], fun A w hA => ?_⟩
  obtain ⟨i, z', g1, g2, g3, g4, g5, g6⟩ := g.all
  have e1 : (ps.map fun (p : Nat × Operand) => (p.1, A.eval p.2)) = (⟨qs⟩ : Array (Nat × Value)) := Array.ext' (by simpa using evps_eval hA hp)
  have hbig' : ¬ 16777216 < len * sz := by have := Nat.le_of_ble_eq_true hbig; omega
  have hzr := zrep_eq zc len
  rw [hz] at hzr
  simp only [Option.some.injEq] at hzr
  have hfill := fill_eq hb
  have hsz : (sizeOf e).run P w = .ok sz w := by rw [run_size g2, g5]
  have hzero : ((Array.range (len * sz)).map fun j => (⟨zc⟩ : Array Value)[j % (⟨zc⟩ : Array Value).size]!) = ⟨zs⟩ := by
    apply Array.ext'
    apply List.ext_getElem?
    intro j
    have hs0 : (⟨zc⟩ : Array Value).size = sz := hzl
    rw [hs0]
    by_cases hj : j < len * sz
    · have hszpos : 0 < sz := Nat.pos_of_ne_zero fun e => by rw [e] at hj; simp at hj
      have hm : j % sz < zc.length := by rw [hzl]; exact Nat.mod_lt _ hszpos
      rw [hzr, zrep_at zc len j (by rw [hzl]; exact hj), hzl]
      simp [hj, hm]
    · rw [hzr, List.getElem?_eq_none (by simp; omega), List.getElem?_eq_none (by simp [hzl]; omega)]
  simp only [execOp, ho]
  rw [show (ps.map fun (x : Nat × Operand) => match x with | (i, x) => (i, A.eval x)) = (⟨qs⟩ : Array (Nat × Value)) from e1]
  by_cases h0 : len * sz = 0
  · have hzs : zs = [] := by
      have : zs.length = len * sz := by rw [hzr]; simp [hzl]
      rw [h0] at this; exact List.length_eq_zero_iff.1 this
    rw [hzs] at hfill
    have hm0 : (Array.range 0).map (fun (_ : Nat) => (default : Value)) = ⟨[]⟩ := by simp
    simp [Instr.buildSlice, run_und g1, hsz, h0, hm0, hfill, newRow]
  · have hc := cellsO_eq hzc
    have hzero' : ((Array.range (len * sz)).map fun j => zv.cells[j % zv.cells.size]!) = ⟨zs⟩ := by rw [hc]; exact hzero
    simp [Instr.buildSlice, run_und g1, hsz, h0, hbig', z.z, hzero', hfill, newRow]

/-! Heavy operations. -/
/-- A call by a contract. -/
theorem hop_T {c : Call} {x : Operand} {f : FuncId} {first captured : Array Value} {vs vall : List Value} {hs : List Heap} {R : Ending → List Heap → Prop} [Enters P f]
    (ho : o.op = .call c) (hc : c.callee = .value x) (hx : ev env x = some (.func (.func f) first captured)) (hvs : evs env c.args.toList = some vs)
    (hall : appO first.toList vs captured.toList = some vall) (h : T P f vall hs R) (hret : ∀ (e : Ending) (own' : List Heap), R e own' → ∃ v, e = .returned v) :
    HOp P hs n o env fun v own' => R (.returned v) own' :=
  hop_call ho hc hx hvs hall (h.mono fun e own' hR => by obtain ⟨v, rfl⟩ := hret e own' hR; exact ⟨v, rfl, hR⟩)
theorem hop_P {c : Call} {x : Operand} {f : FuncId} {first captured : Array Value} {vs vall : List Value} {hs : List Heap} {v : Value} [Enters P f]
    (ho : o.op = .call c) (hc : c.callee = .value x) (hx : ev env x = some (.func (.func f) first captured)) (hvs : evs env c.args.toList = some vs)
    (hall : appO first.toList vs captured.toList = some vall) (h : PFn P f vall hs v) :
    HOp P hs n o env fun v' own' => v' = v ∧ own' = hs :=
  hop_call ho hc hx hvs hall (h.mono fun e own' ⟨h1, h2⟩ => ⟨v, h1, rfl, h2⟩)
theorem hop_store {t T : TypeId} {x y : Operand} {b off : Nat} {v : Value} {cs vs cs' : List Value} {d : TypeDesc} {z : Value} {ti : TypeInfo} [ty : Ty P t d z ti]
    (ho : o.op = .store t x y) (hx : ev env x = some (.pointer (some ⟨b, off, none⟩))) (hy : ev env y = some v)
    (hv : cellsO v = some vs) (hsz : vs.length = ti.size) (h1 : vs.all (·.oneCell') = true) (hc : spliceO cs off vs = some cs') :
    HOp P [blk b (.cells ⟨cs⟩ T (0, 0))] n o env fun _ own' => own' = [blk b (.cells ⟨cs'⟩ T (0, 0))] := by
  refine ⟨by rw [ho]; rfl, fun a w X ha hs => ?_⟩
  obtain ⟨g1, g2⟩ := spliceO_eq hc
  have s1 : Sat (blk b (.cells ⟨cs⟩ T (0, 0)) :: X) w := by simpa using hs
  have hb : w.heap[b]? = some (.cells ⟨cs⟩ T (0, 0)) := s1.at (List.mem_cons_self ..) (blk_self _ _)
  have hst := run_storeCells_at P b off T vs 0 ⟨cs⟩ w hb (by simpa using g2) (by simpa using h1)
  have hrow : ((⟨cs⟩ : Array Value).toList.take (off + 0) ++ vs ++ (⟨cs⟩ : Array Value).toList.drop (off + 0 + vs.length)).toArray = ⟨cs'⟩ := by rw [g1]; rfl
  rw [hrow] at hst
  have hc' := cellsO_eq hv
  have hrun : (execOp a.eval o).run P w = .ok .skip (w.setRow b ⟨cs'⟩) := by
    simp [execOp, ho, Instr.storeAt, ha.eval hx, ha.eval hy, Instr.sureAddr, storeVar, run_size ty.i, hc', hsz, hst]
  refine ⟨w.setRow b ⟨cs'⟩, .inr (.inl ⟨_, hrun, ?_, rfl⟩)⟩
  have s2 := s1.put (setRow_heap w b _ ⟨cs'⟩ T (0, 0) hb) (by rfl) (by rfl) (fun k hk => setRow_other w b k _ hk) (fun _ => rfl)
  simpa using s2
theorem hop_append {t e : TypeId} {sz bytes : Nat} {c : Call} {x y : Operand} {h hn : Heap} {base : Option Addr} {len cap m mc : Nat} {cs news : List Value} {a : Addr} [g : TyG P t e sz bytes]
    (ho : o.op = .call c) (hc : c.callee = .builtin .append) (hax : c.args = #[x, y]) (hat : c.argTypes = #[t, t])
    (hx : ev env x = some (.slice base len cap)) (hy : ev env y = some (.slice (some a) m mc)) (mm : Sl hn (some a) news) (os : OS h base len cap e sz cs)
    (hm : 0 < m) (hnl : news.length = m * sz) (hpos : 0 < sz) (h1 : news.all (·.oneCell') = true) (hroom : (len + m) * bytes ≤ 70368744177664) (hlen : len + m ≤ 70368744177664) :
    HOp P [h, hn] n o env fun v own' => ∃ h' base' cap', v = .slice base' (len + m) cap' ∧ own' = [h', hn] ∧ OS h' base' (len + m) cap' e sz (cs ++ news) := by
  refine ⟨by rw [ho]; rfl, fun A w X hA hs => ?_⟩
  obtain ⟨i, z, g1, g2, g3, g4, g5, g6⟩ := g.all
  subst g5; subst g6
  have s2 : Sat (h :: hn :: X) w := by simpa using hs
  have hnew : ∀ j v, news[j]? = some v → w.cell? (a.add j) = some v := fun j v hj => by
    have mi : SlIn [h, hn] (some a) news := ⟨hn, by simp, mm⟩
    obtain ⟨a', e1, e2, e3⟩ := mi.cell hs hj
    cases e1
    obtain ⟨b, off, sp⟩ := a
    simp only at e2
    subst e2
    rw [addr_add]; exact e3
  obtain ⟨h', base', cap', w', hrun, os', s3⟩ := run_grow (P := P) (ty := o.type) (c := mc) g1 g2 g3 g4 os s2 hm hnl hnew (by simpa using h1) hroom hlen
  refine ⟨w', .inl ⟨.slice base' (len + m) cap', [h', hn], ?_, by simpa using s3, h', base', cap', rfl, rfl, os'⟩⟩
  simp [execOp, ho, resolve, hc, hax, hat, invoke, builtin, hA.eval hx, hA.eval hy, hrun]
theorem grow_refl {R : Value → List Heap → Prop} {hs : List Heap} (h : ∀ v own', R v own' → ∃ N, own' = hs ++ N) : false = false → ∀ v own', R v own' → ∃ N, own'.Perm (hs ++ N) := fun _ v own' hR => by
  obtain ⟨N, rfl⟩ := h v own' hR; exact ⟨N, List.Perm.refl _⟩
theorem grow_c {R : Value → List Heap → Prop} {hs : List Heap} : true = false → ∀ v own', R v own' → ∃ N, own'.Perm (hs ++ N) := fun h => by cases h
/-! Steps for the walk's driver. -/
theorem chu_P {m d : Nat} {cl : Call} {x : Operand} {f : FuncId} {first captured : Array Value} {vs vall : List Value} {v : Value} [Enters P f]
    (hi : all[m]? = some o) (hd : o.dst = some d) (hg : wantedE all env o = some true) [t : TakeL own hs rest]
    (ho : o.op = .call cl) (hc : cl.callee = .value x) (hx : ev env x = some (.func (.func f) first captured)) (hvs : evs env cl.args.toList = some vs)
    (hall : appO first.toList vs captured.toList = some vall) (hp : PFn P f vall hs v) {own2 : List Heap} (h2 : appH hs rest = some own2) (h : ChU P r F n all prot Q ds s ((d, v) :: env) own2 an) : ChU P r F n all prot Q ds (.h false m :: s) env own an :=
  chu_h hi hd hg (hop_P ho hc hx hvs hall hp) (fun _ v own' hR => ⟨[], by rw [hR.2]; simp⟩) (fun h => by cases h) fun v' own' hR => by
    obtain ⟨rfl, rfl⟩ := hR; exact ⟨own2, h2, h⟩
theorem chu_Pif {m d : Nat} {cl : Call} {x : Operand} {f : FuncId} {first captured : Array Value} {vs vall : List Value} {p : Prop} [Decidable p] [Enters P f]
    (hi : all[m]? = some o) (hd : o.dst = some d) (hg : wantedE all env o = some true) [t : TakeL own hs rest]
    (ho : o.op = .call cl) (hc : cl.callee = .value x) (hx : ev env x = some (.func (.func f) first captured)) (hvs : evs env cl.args.toList = some vs)
    (hall : appO first.toList vs captured.toList = some vall) (hp : PFn P f vall hs (.bool (decide p))) {own2 : List Heap} (h2 : appH hs rest = some own2)
    (h : p → ChU P r F n all prot Q ds s ((d, .bool true) :: env) own2 an) (h' : ¬ p → ChU P r F n all prot Q ds s ((d, .bool false) :: env) own2 an) : ChU P r F n all prot Q ds (.h false m :: s) env own an := by
  by_cases hpp : p
  · exact chu_P hi hd hg ho hc hx hvs hall hp h2 (by rw [decide_eq_true hpp]; exact h hpp)
  · exact chu_P hi hd hg ho hc hx hvs hall hp h2 (by rw [decide_eq_false hpp]; exact h' hpp)
theorem chu_Py {m d : Nat} {cl : Call} {x : Operand} {f : FuncId} {first captured : Array Value} {vs vall : List Value} {p : Prop} [Decidable p] [Enters P f]
    (hi : all[m]? = some o) (hd : o.dst = some d) (hg : wantedE all env o = some true) [t : TakeL own hs rest]
    (ho : o.op = .call cl) (hc : cl.callee = .value x) (hx : ev env x = some (.func (.func f) first captured)) (hvs : evs env cl.args.toList = some vs)
    (hall : appO first.toList vs captured.toList = some vall) (hp : PFn P f vall hs (.bool (decide p))) {own2 : List Heap} (h2 : appH hs rest = some own2) (hpp : p)
    (h : ChU P r F n all prot Q ds s ((d, .bool true) :: env) own2 an) : ChU P r F n all prot Q ds (.h false m :: s) env own an :=
  chu_P hi hd hg ho hc hx hvs hall hp h2 (by rw [decide_eq_true hpp]; exact h)
theorem chu_Pn {m d : Nat} {cl : Call} {x : Operand} {f : FuncId} {first captured : Array Value} {vs vall : List Value} {p : Prop} [Decidable p] [Enters P f]
    (hi : all[m]? = some o) (hd : o.dst = some d) (hg : wantedE all env o = some true) [t : TakeL own hs rest]
    (ho : o.op = .call cl) (hc : cl.callee = .value x) (hx : ev env x = some (.func (.func f) first captured)) (hvs : evs env cl.args.toList = some vs)
    (hall : appO first.toList vs captured.toList = some vall) (hp : PFn P f vall hs (.bool (decide p))) {own2 : List Heap} (h2 : appH hs rest = some own2) (hpp : ¬ p)
    (h : ChU P r F n all prot Q ds s ((d, .bool false) :: env) own2 an) : ChU P r F n all prot Q ds (.h false m :: s) env own an :=
  chu_P hi hd hg ho hc hx hvs hall hp h2 (by rw [decide_eq_false hpp]; exact h)
theorem chu_T {m d : Nat} {cl : Call} {x : Operand} {f : FuncId} {first captured : Array Value} {vs vall : List Value} {R : Ending → List Heap → Prop} [Enters P f]
    (hi : all[m]? = some o) (hd : o.dst = some d) (hg : wantedE all env o = some true) [t : TakeL own hs rest]
    (ho : o.op = .call cl) (hc : cl.callee = .value x) (hx : ev env x = some (.func (.func f) first captured)) (hvs : evs env cl.args.toList = some vs)
    (hall : appO first.toList vs captured.toList = some vall) (hp : T P f vall hs R) (hgr : ∀ (e : Ending) (own' : List Heap), R e own' → ∃ N, own' = hs ++ N)
    (h : ∀ (e : Ending) (own' : List Heap), R e own' → ∃ v own2, e = .returned v ∧ appH own' rest = some own2 ∧ ChU P r F n all prot Q ds s ((d, v) :: env) own2 an) : ChU P r F n all prot Q ds (.h false m :: s) env own an :=
  chu_h hi hd hg (hop_T ho hc hx hvs hall hp fun e own' hR => by obtain ⟨v, _, h1, _⟩ := h e own' hR; exact ⟨v, h1⟩)
    (fun _ v own' hR => by obtain ⟨N, rfl⟩ := hgr _ _ hR; exact ⟨N, List.Perm.refl _⟩) (fun h => by cases h) fun v own' hR => by
    obtain ⟨v', own2, h1, h2, h3⟩ := h _ own' hR
    cases h1; exact ⟨own2, h2, h3⟩
theorem chu_store {m : Nat} {t T : TypeId} {x y : Operand} {b off : Nat} {v : Value} {cs vs cs' : List Value} {d : TypeDesc} {z : Value} {ti : TypeInfo} [ty : Ty P t d z ti]
    (hi : all[m]? = some o) (hd : o.dst = none) (hg : wantedE all env o = some true) (ho : o.op = .store t x y) (hx : ev env x = some (.pointer (some ⟨b, off, none⟩))) (hy : ev env y = some v)
    (hv : cellsO v = some vs) (hsz : vs.length = ti.size) (h1 : vs.all (·.oneCell') = true) [at_ : At own b (.cells ⟨cs⟩ T (0, 0))] (hc : spliceO cs off vs = some cs') [tk : TakeL own [blk b (.cells ⟨cs⟩ T (0, 0))] rest] {rest2 : List Heap} [tp : TakeL rest prot rest2]
    (h : ChU P r F n all prot Q ds s env (blk b (.cells ⟨cs'⟩ T (0, 0)) :: rest) an) : ChU P r F n all prot Q ds (.h true m :: s) env own an :=
  chu_h0 hi hd hg (hop_store ho hx hy hv hsz h1 hc) grow_c (fun _ => .inl ⟨rest2, tp.perm⟩) fun v' own' hR => by
    subst hR; exact ⟨_, rfl, h⟩
/-- A store behind every other operation of the region: nothing needs to stay any more. -/
theorem chu_storeL {m : Nat} {t T : TypeId} {x y : Operand} {b off : Nat} {v : Value} {cs vs cs' : List Value} {d : TypeDesc} {z : Value} {ti : TypeInfo} [ty : Ty P t d z ti]
    (hi : all[m]? = some o) (hl : lastB all m = true) (hd : o.dst = none) (hg : wantedE all env o = some true) (ho : o.op = .store t x y) (hx : ev env x = some (.pointer (some ⟨b, off, none⟩))) (hy : ev env y = some v)
    (hv : cellsO v = some vs) (hsz : vs.length = ti.size) (h1 : vs.all (·.oneCell') = true) [at_ : At own b (.cells ⟨cs⟩ T (0, 0))] (hc : spliceO cs off vs = some cs') [tk : TakeL own [blk b (.cells ⟨cs⟩ T (0, 0))] rest]
    (h : ChU P r F n all prot Q ds s env (blk b (.cells ⟨cs'⟩ T (0, 0)) :: rest) an) : ChU P r F n all prot Q ds (.h true m :: s) env own an :=
  chu_h0 hi hd hg (hop_store ho hx hy hv hsz h1 hc) grow_c (fun _ => .inr hl) fun v' own' hR => by
    subst hR; exact ⟨_, rfl, h⟩
class SlAt (own : List Heap) (base : Option Addr) (h : outParam Heap) (cs : outParam (List Value)) : Prop where
  sl : Sl h base cs
instance SlAt.head {h : Heap} {r : List Heap} {base : Option Addr} {cs : List Value} [t : Sl h base cs] : SlAt (h :: r) base h cs := ⟨t⟩
instance (priority := low) SlAt.tail {k h : Heap} {r : List Heap} {base : Option Addr} {cs : List Value} [t : SlAt r base h cs] : SlAt (k :: r) base h cs := ⟨t.sl⟩
theorem chu_append {m : Nat} {t e : TypeId} {sz bytes : Nat} {cl : Call} {x y : Operand} {hh hn : Heap} {base : Option Addr} {len cap mm mc d : Nat} {cs news : List Value} {a : Addr} [g : TyG P t e sz bytes]
    (hi : all[m]? = some o) (hd : o.dst = some d) (hg : wantedE all env o = some true)
    (ho : o.op = .call cl) (hc : cl.callee = .builtin .append) (hax : cl.args = #[x, y]) (hat : cl.argTypes = #[t, t])
    (hx : ev env x = some (.slice base len cap)) (hy : ev env y = some (.slice (some a) mm mc)) [sa : SlAt own (some a) hn news] (os : OS hh base len cap e sz cs) [tk : TakeL own [hh, hn] rest] {rest2 : List Heap} [tp : TakeL rest prot rest2]
    (hm : 0 < mm) (hnl : news.length = mm * sz) (hpos : 0 < sz) (h1 : news.all (·.oneCell') = true) (hroom : (len + mm) * bytes ≤ 70368744177664) (hlen : len + mm ≤ 70368744177664)
    (h : ∀ h' base' cap', OS h' base' (len + mm) cap' e sz (cs ++ news) → ChU P r F n all prot Q ds s ((d, .slice base' (len + mm) cap') :: env) (h' :: hn :: rest) an) : ChU P r F n all prot Q ds (.h true m :: s) env own an :=
  chu_h hi hd hg (hop_append ho hc hax hat hx hy sa.sl os hm hnl hpos h1 hroom hlen) grow_c (fun _ => .inl ⟨rest2, tp.perm⟩) fun v own' hR => by
    obtain ⟨h', b', c', rfl, rfl, os'⟩ := hR; exact ⟨_, rfl, h h' b' c' os'⟩
end
section
variable {P : Program} {own : List Heap} {n : Nat} {env : Env} {o : Oper}
/-- A slice's array. -/
theorem opv_arrayAt {t e : TypeId} {k sz : Nat} {x : Operand} {base : Option Addr} {len cap : Nat} {cs : List Value} [h1 : TyR P t k e sz] (ho : o.op = .sliceToArrayPointer t x) (hx : ev env x = some (.slice base len cap)) [m : SlIn own base cs]
    (hpos : Nat.blt 0 cs.length = true) (hk : Nat.ble k len = true) : OpV P own n o env (ept base 0) :=
  ⟨by rw [ho]; rfl, fun a w X hA s => ⟨w, s, .inl (by
    have hpos := Nat.le_of_ble_eq_true hpos
    have hk := Nat.le_of_ble_eq_true hk
    obtain ⟨ad, hb, hsp, -⟩ := m.cell s (k := 0) (v := cs[0]) (by simp)
    subst hb
    obtain ⟨bb, off, spot⟩ := ad
    simp only at hsp
    subst hsp
    have hnl : ¬ len < k := by omega
    simp [execOp, ho, hA.eval hx, Instr.arrayAt, run_und h1.u, hnl, ept])⟩⟩
end
end Go.SL
end
section
/- Rows of laws: structs of numbers, slices of arrays and of structs of numbers. -/
namespace Go.SL
open Go.RowKit Go.ChangeShapes Go.WideShapes

theorem mapM_mem {α β : Type} {f : α → Option β} : ∀ {l : List α} {r : List β}, l.mapM f = some r → ∀ x ∈ l, ∃ y, f x = some y
  | [], _, _, x, hx => by cases hx
  | a :: l, r, h, x, hx => by
    rw [List.mapM_cons] at h
    cases h1 : f a with
    | none => rw [h1] at h; simp at h
    | some y =>
      rw [h1] at h
      cases h2 : l.mapM f with
      | none => simp [h2] at h
      | some ys =>
        rcases List.mem_cons.1 hx with rfl | hx
        · exact ⟨y, h1⟩
        · exact mapM_mem h2 x hx
/-- What a struct's fields are. -/
theorem struct_open {H : Type} {enc : TypeId × Value → H} {P : Program} {w : World} {sp : Nat → Bool} {held : Bool} {t : TypeId} {fs : Array Field} {fuel m : Nat} {cs : List Value} {x : DataW H × List MemPlace}
    (ht : P.underlying t = some (.struct fs)) (hn : P.cellsOf t = m) (h : DataW.trod enc P w 0 sp held fuel t cs = some x) :
    cs.length = m ∧ ∃ n, ∀ f ∈ fs.toList, ∃ y, DataW.trod enc P w 0 sp held n f.type ((cs.drop f.offset).take (P.cellsOf f.type)) = some y := by
  cases fuel with
  | zero => cases h
  | succ fuel =>
    simp only [DataW.trod, ht] at h
    split at h
    · rename_i hl
      rw [hn] at hl
      refine ⟨hl, fuel, ?_⟩
      simp only [Option.map_eq_some_iff] at h
      obtain ⟨xs, hx, -⟩ := h
      exact mapM_mem hx
    · cases h
def isIntK (P : Program) (k : IntKind) (t : TypeId) : Bool := match P.underlying t with
  | some (.int k') => decide (k' = k)
  | _ => false
theorem isIntK_eq {P : Program} {k : IntKind} {t : TypeId} (h : isIntK P k t = true) : P.underlying t = some (.int k) := by
  unfold isIntK at h
  split at h
  · rename_i k' e; rw [e, of_decide_eq_true h]
  · cases h
/-- A list that is made of numbers, cell by cell. -/
theorem ints_of_cells {cs : List Value} {k : IntKind} (h : ∀ i (hi : i < cs.length), ∃ z, cs[i] = .int k z ∧ (Lit.int k z).wf = true) : ∃ zs : List Int, cs = zs.map (.int k) ∧ ∀ z ∈ zs, (Lit.int k z).wf = true := by
  induction cs with
  | nil => exact ⟨[], rfl, fun z hz => by cases hz⟩
  | cons c cs ih =>
    obtain ⟨z, hz, hw⟩ := h 0 (by simp)
    obtain ⟨zs, e, hws⟩ := ih fun i hi => h (i + 1) (by simpa using hi)
    refine ⟨z :: zs, by rw [e] at *; simp at hz; rw [hz]; rfl, fun q hq => ?_⟩
    rcases List.mem_cons.1 hq with rfl | hq
    · exact hw
    · exact hws q hq
theorem int_cell {H : Type} {enc : TypeId × Value → H} {P : Program} {w : World} {sp : Nat → Bool} {held : Bool} {t : TypeId} {k : IntKind} {fuel i : Nat} {cs : List Value} (hi : i < cs.length) {y : DataW H × List MemPlace}
    (ht : P.underlying t = some (.int k)) (hc : P.cellsOf t = 1) (h : DataW.trod enc P w 0 sp held fuel t ((cs.drop i).take (P.cellsOf t)) = some y) : ∃ z, cs[i] = .int k z ∧ (Lit.int k z).wf = true := by
  have e1 : (cs.drop i).take 1 = [cs[i]] := by rw [List.drop_eq_getElem_cons hi]; rfl
  rw [hc, e1] at h
  obtain ⟨z, hz1, -, hz2⟩ := DataW.trod_int ht h
  simp only [List.cons.injEq, and_true] at hz1
  exact ⟨z, hz1, hz2⟩
def structInts (P : Program) (k : IntKind) (fs : Array Field) (m : Nat) : Bool :=
  (fs.toList.map (·.offset) == List.range m) && fs.toList.all fun f => isIntK P k f.type && Nat.beq (P.cellsOf f.type) 1
theorem struct_open_ints {H : Type} {enc : TypeId × Value → H} {P : Program} {w : World} {sp : Nat → Bool} {held : Bool} {t : TypeId} {fs : Array Field} {k : IntKind} {fuel m : Nat} {cs : List Value} {x : DataW H × List MemPlace}
    (ht : P.underlying t = some (.struct fs)) (hn : P.cellsOf t = m) (hk : structInts P k fs m = true) (h : DataW.trod enc P w 0 sp held fuel t cs = some x) :
    ∃ zs : List Int, zs.length = m ∧ cs = zs.map (.int k) ∧ ∀ z ∈ zs, (Lit.int k z).wf = true := by
  obtain ⟨hl, n, hf⟩ := struct_open ht hn h
  simp only [structInts, Bool.and_eq_true, beq_iff_eq, List.all_eq_true] at hk
  obtain ⟨zs, e, hw⟩ := ints_of_cells (cs := cs) (k := k) fun i hi => by
    have : i ∈ fs.toList.map (·.offset) := by rw [hk.1]; exact List.mem_range.2 (hl ▸ hi)
    obtain ⟨f, hfm, rfl⟩ := List.mem_map.1 this
    obtain ⟨y, hy⟩ := hf f hfm
    exact int_cell hi (isIntK_eq (hk.2 f hfm).1) (Nat.eq_of_beq_eq_true (hk.2 f hfm).2) hy
  refine ⟨zs, ?_, e, hw⟩
  have := congrArg List.length e
  simp at this; omega
/-- Numbers, lot by lot. -/
theorem ints_of_lots {k : IntKind} {sz : Nat} (hpos : 0 < sz) {cs : List Value} {len : Nat} (hl : cs.length = len * sz) (h : ∀ i, i < len → ∃ zs : List Int, (cs.drop (i * sz)).take sz = zs.map (.int k) ∧ ∀ z ∈ zs, (Lit.int k z).wf = true) :
    ∃ zs : List Int, cs = zs.map (.int k) ∧ ∀ z ∈ zs, (Lit.int k z).wf = true := ints_of_cells fun i hi => by
  have hq : i / sz < len := by rw [Nat.div_lt_iff_lt_mul hpos]; omega
  obtain ⟨zs, e, hw⟩ := h (i / sz) hq
  have hr := Nat.mod_lt i hpos
  have hd : i / sz * sz + i % sz = i := by rw [Nat.mul_comm]; exact Nat.div_add_mod i sz
  have e2 : ((cs.drop (i / sz * sz)).take sz)[i % sz]? = some cs[i] := by
    rw [List.getElem?_take, if_pos hr, List.getElem?_drop, hd, List.getElem?_eq_getElem hi]
  rw [e, List.getElem?_map, Option.map_eq_some_iff] at e2
  obtain ⟨z, hz, hz2⟩ := e2
  exact ⟨z, hz2.symm, hw z (List.mem_of_getElem? hz)⟩
/-- The numbers of a slice of arrays. -/
theorem sl_open_arrs {H : Type} {enc : TypeId × Value → H} {P : Program} {w : World} {sp : Nat → Bool} {held : Bool} {t e e2 : TypeId} {k : IntKind} {m fuel : Nat} {base : Option Addr} {len cap : Nat} {x : DataW H × List MemPlace}
    (ht : P.underlying t = some (.slice e)) (he : P.underlying e = some (.array m e2)) (he2 : P.underlying e2 = some (.int k)) (hsz : P.cellsOf e2 = 1) (hn : P.cellsOf e = m) (hpos : 0 < m) (h : DataW.trod enc P w 0 sp held fuel t [.slice base len cap] = some x) :
    ∃ zs : List Int, zs.length = len * m ∧ Sl (wh w) base (zs.map (.int k)) ∧ len ≤ maxLen ∧ len ≤ cap ∧ ∀ z ∈ zs, (Lit.int k z).wf = true := by
  obtain ⟨cs, h1, h2, h3, hlc, n, h4⟩ := sl_open ht hn hpos h
  obtain ⟨zs, e, hw⟩ := ints_of_lots hpos h1 fun i hi => by
    obtain ⟨y, hy⟩ := h4 i hi
    obtain ⟨zs, -, e, hw⟩ := arr_open_ints he he2 hsz hn hy
    exact ⟨zs, e, hw⟩
  subst e
  exact ⟨zs, by simpa using h1, h2, h3, hlc, hw⟩
/-- The numbers of a slice of structs. -/
theorem sl_open_structs {H : Type} {enc : TypeId × Value → H} {P : Program} {w : World} {sp : Nat → Bool} {held : Bool} {t e : TypeId} {fs : Array Field} {k : IntKind} {m fuel : Nat} {base : Option Addr} {len cap : Nat} {x : DataW H × List MemPlace}
    (ht : P.underlying t = some (.slice e)) (he : P.underlying e = some (.struct fs)) (hk : structInts P k fs m = true) (hn : P.cellsOf e = m) (hpos : 0 < m) (h : DataW.trod enc P w 0 sp held fuel t [.slice base len cap] = some x) :
    ∃ zs : List Int, zs.length = len * m ∧ Sl (wh w) base (zs.map (.int k)) ∧ len ≤ maxLen ∧ len ≤ cap ∧ ∀ z ∈ zs, (Lit.int k z).wf = true := by
  obtain ⟨cs, h1, h2, h3, hlc, n, h4⟩ := sl_open ht hn hpos h
  obtain ⟨zs, e, hw⟩ := ints_of_lots hpos h1 fun i hi => by
    obtain ⟨y, hy⟩ := h4 i hi
    obtain ⟨zs, -, e, hw⟩ := struct_open_ints he hn hk hy
    exact ⟨zs, e, hw⟩
  subst e
  exact ⟨zs, by simpa using h1, h2, h3, hlc, hw⟩
/-- An element's place, in an array that lies among a slice's cells. -/
theorem opv_indexAddrE {P : Program} {own : List Heap} {n : Nat} {env : Env} {o : Oper} {t e : TypeId} {len sz : Nat} {x ix : Operand} {k : IntKind} {j : Int} {q : Nat} {base : Option Addr} {cs : List Value} [h1 : TyR P t len e sz] (ho : o.op = .indexAddr t x ix) (hx : ev env x = some (ept base q)) (hi : ev env ix = some (.int k j))
    [m : SlIn own base cs] (hk : q < cs.length) (h0 : 0 ≤ j) (hlt : j < len) : OpV P own n o env (ept base (q + j.toNat * sz)) :=
  ⟨by rw [ho]; rfl, fun a w X hA s => ⟨w, s, .inl (by
    obtain ⟨ad, hb, hsp, -⟩ := m.cell s (k := q) (v := cs[q]) (by simp [hk])
    subst hb
    simp [execOp, ho, hA.eval hx, hA.eval hi, Instr.indexAt, asIntOf, run_und h1.u, h0, hlt, h1.s, Instr.sureAddr, ept, addr_add, Nat.add_assoc])⟩⟩
theorem wrap_u64_nat (h : Int) : ∃ n : Nat, n < 2 ^ 64 ∧ IntKind.u64.wrap h = n := by
  have e : IntKind.u64.wrap h = h % 18446744073709551616 := by simp [IntKind.wrap, IntKind.bits, IntKind.signed]
  exact ⟨(h % 18446744073709551616).toNat, by omega, by omega⟩
theorem wf_u16 {z : Int} (h : (Lit.int .u16 z).wf = true) : 0 ≤ z ∧ z ≤ 65535 := by
  have e1 : IntKind.u16.min = 0 := rfl
  have e2 : IntKind.u16.max = 65535 := rfl
  simp [Lit.wf, e1, e2] at h
  exact h
theorem list_six {α : Type} {l : List α} (h : l.length = 6) : ∃ a b c d e f, l = [a, b, c, d, e, f] := by
  match l, h with
  | [a, b, c, d, e, f], _ => exact ⟨a, b, c, d, e, f, rfl⟩
end Go.SL
end
