/- The operations of a region, one behind the other; and of a region that draws its order. -/
import Derived.Test.YtnfepffmlhmmhaaSlA
namespace Go.SL

def plainOp : Op → Bool
  | .defer _ | .select .. | .go _ => false
  | _ => true

def wantedE (all : Array Oper) (env : Env) (o : Oper) : Option Bool :=
  match o.guard with
  | none => some true
  | some (j, want) =>
    match (all[j]?).bind (·.dst) with
    | some d => match look env d with
      | some (.bool b) => some (b == want)
      | some _ => some false
      | none => none
    | none => none

theorem wanted_of {all : Array Oper} {env : Env} {o : Oper} {t : Bool} {n : Nat} {a : Act} (h : Has n env a) (e : wantedE all env o = some t) :
    Region.wanted o (yielded all a.tmps) = t := by
  unfold wantedE at e
  unfold Region.wanted
  cases hg : o.guard with
  | none => rw [hg] at e; simpa using e
  | some p =>
    obtain ⟨j, want⟩ := p
    rw [hg] at e
    simp only at e ⊢
    cases hd : (all[j]?).bind (·.dst) with
    | none => rw [hd] at e; cases e
    | some d =>
      rw [hd] at e
      simp only at e
      split at e
      · rename_i b hb
        have := h.get d _ hb
        simp only [Option.some.injEq] at e
        have hy : yielded all a.tmps j = some b := by simp only [yielded, hd, Option.bind_some, this]
        rw [hy, ← e]
        cases b <;> cases want <;> rfl
      · rename_i u hnb hu
        have := h.get d _ hu
        simp only [Option.some.injEq] at e
        have hy : yielded all a.tmps j = none := by
          simp only [yielded, hd, Option.bind_some, this]
          split
          · rename_i b hb
            exact absurd (by simpa using hb) (hnb b)
          · rfl
        rw [hy, ← e]
        cases want <;> rfl
      · cases e

/-- The operation hands back this value, whatever stands elsewhere; it leaves memory (of which it wants 'hs') as it is, new blocks apart. -/
def OpV (P : Program) (hs : List Heap) (n : Nat) (o : Oper) (env : Env) (v : Value) : Prop :=
  plainOp o.op = true ∧ ∀ a w X, Has n env a → Sat (hs ++ X) w → ∃ w', Sat (hs ++ X) w' ∧
    ((execOp a.eval o).run P w = .ok (.value v) w' ∨ ((execOp a.eval o).run P w = .ok .skip w' ∧ v = undef) ∨
      ∃ f args, (execOp a.eval o).run P w = .ok (.enter f args) w' ∧ Calls P f args w' fun e w'' => e = .returned v ∧ Sat (hs ++ X) w'')

theorem OpV.more {P : Program} {hs hs' Y : List Heap} {n : Nat} {o : Oper} {env : Env} {v : Value} (h : OpV P hs n o env v) (p : (hs ++ Y).Perm hs') : OpV P hs' n o env v :=
  ⟨h.1, fun a w X ha hS => by
    have pp : (hs ++ (Y ++ X)).Perm (hs' ++ X) := by rw [← List.append_assoc]; exact p.append_right X
    obtain ⟨w', s', hr⟩ := h.2 a w (Y ++ X) ha (hS.perm pp.symm)
    refine ⟨w', s'.perm pp, ?_⟩
    rcases hr with h1 | h1 | ⟨f, args, h1, h2⟩
    · exact .inl h1
    · exact .inr (.inl h1)
    · exact .inr (.inr ⟨f, args, h1, h2.mono fun e w'' ⟨he, hs⟩ => ⟨he, hs.perm pp⟩⟩)⟩

def QOps (P : Program) (F : Heap) (n : Nat) (all : Array Oper) (own : List Heap) (K : Env → Prop) : List Nat → Env → Prop
  | [], env => K env
  | i :: l, env => ∃ o v, all[i]? = some o ∧ ((wantedE all env o = some true ∧ OpV P (F :: own) n o env v) ∨ (wantedE all env o = some false ∧ v = undef ∧ plainOp o.op = true)) ∧
      (∀ d, o.dst = some d → d < n) ∧ QOps P F n all own K l (match o.dst with | some d => (d, v) :: env | none => env)

def SO (quiet : Bool) (P : Program) (r : Option Nat) (F : Heap) (n : Nat) (all : Array Oper) (l : List Nat) (Q : SPost) (env : Env) (own : List Heap) (ds : List Deferred) : Prop :=
  match quiet with
  | false => ∀ a w, Has n env a → a.defers = ds → Sat (F :: own) w → wpOpsIn (fen r) 0 P all (Lift F n Q) l a w
  | true => QOps P F n all own (fun env => Q .normal env own ds) l env

theorem semAt_plain {r : Option Nat} {o : Oper} (h : plainOp o.op = true) (ρ : Operand → Value) : o.semAt r ρ = execOp ρ o :=
  Oper.semAt_eq r ρ o fun c e => by rw [e] at h; cases h

theorem opv_wp {P : Program} {r : Option Nat} {F : Heap} {n : Nat} {o : Oper} {env : Env} {own : List Heap} {v : Value} (h : OpV P (F :: own) n o env v)
    {all : Array Oper} {Q : Exit → Act → World → Prop} {i : Nat} {K : Act → World → Prop} {a : Act} {w : World} (hi : all[i]? = some o)
    (hw : Region.wanted o (yielded all a.tmps) = true) {a' : Act} (ha : Has n env a') (he : execOp a.eval o = execOp a'.eval o) (hs : Sat (F :: own) w)
    (hk : ∀ w', Sat (F :: own) w' → K (a.put o.dst v) w') : wpOpIn (fen r) 0 P all Q i K a w := by
  simp only [wpOpIn, hi, hw, if_true]
  refine ⟨fun f _ => by simp, ?_⟩
  rw [fen_round, semAt_plain h.1, he]
  obtain ⟨w', s', h1 | ⟨h1, rfl⟩ | ⟨f, args, h1, h2⟩⟩ := h.2 a' w [] ha (by simpa using hs)
  · rw [h1]; exact hk w' (by simpa using s')
  · rw [h1]; exact hk w' (by simpa using s')
  · rw [h1]
    refine ⟨fun hx => by simp at hx, (callsIn_fen _ h2).mono ?_⟩
    rintro e w'' ⟨rfl, s2⟩
    exact hk w'' (by simpa using s2)

section
variable {P : Program} {r : Option Nat} {F : Heap} {n : Nat} {Q : SPost} {env : Env} {own : List Heap} {ds : List Deferred} {q : Bool} {all : Array Oper} {l : List Nat} {i : Nat} {o : Oper}

theorem so_nil (h : Q .normal env own ds) : SO q P r F n all [] Q env own ds := by
  cases q
  · exact fun a w ha hd hs => Lift.mk (by simp) ha hd hs h
  · exact h

theorem so_op {v : Value} {d : Nat} (hi : all[i]? = some o) (hd : o.dst = some d) (hn : d < n) (hg : wantedE all env o = some true) (hv : OpV P (F :: own) n o env v)
    (h : SO q P r F n all l Q ((d, v) :: env) own ds) : SO q P r F n all (i :: l) Q env own ds := by
  cases q
  · intro a w ha hds hs
    rw [wpOpsIn_cons]
    exact opv_wp hv hi (wanted_of ha hg) ha rfl hs fun w' s' => by
      rw [hd]; exact h _ w' (ha.put v hn) hds s'
  · exact ⟨o, v, hi, .inl ⟨hg, hv⟩, fun d' hd' => (by rw [hd] at hd'; cases hd'; exact hn), by rw [hd]; exact h⟩

/-- The same where the operation's value is dropped. -/
theorem so_op0 {v : Value} (hi : all[i]? = some o) (hd : o.dst = none) (hg : wantedE all env o = some true) (hv : OpV P (F :: own) n o env v)
    (h : SO q P r F n all l Q env own ds) : SO q P r F n all (i :: l) Q env own ds := by
  cases q
  · intro a w ha hds hs
    rw [wpOpsIn_cons]
    exact opv_wp hv hi (wanted_of ha hg) ha rfl hs fun w' s' => by
      rw [hd]; exact h a w' ha hds s'
  · exact ⟨o, v, hi, .inl ⟨hg, hv⟩, fun d' hd' => (by rw [hd] at hd'; cases hd'), by rw [hd]; exact h⟩

/-- A guarded operation that is passed over. -/
theorem so_pass {d : Nat} (hi : all[i]? = some o) (hd : o.dst = some d) (hn : d < n) (hg : wantedE all env o = some false) (hp : plainOp o.op = true)
    (h : SO q P r F n all l Q ((d, undef) :: env) own ds) : SO q P r F n all (i :: l) Q env own ds := by
  cases q
  · intro a w ha hds hs
    rw [wpOpsIn_cons]
    simp only [wpOpIn, hi, wanted_of ha hg]
    refine ⟨fun f _ => by simp, ?_⟩
    rw [hd]; exact h _ w (ha.put undef hn) hds hs
  · exact ⟨o, undef, hi, .inr ⟨hg, rfl, hp⟩, fun d' hd' => (by rw [hd] at hd'; cases hd'; exact hn), by rw [hd]; exact h⟩
theorem so_pass0 (hi : all[i]? = some o) (hd : o.dst = none) (hg : wantedE all env o = some false) (hp : plainOp o.op = true)
    (h : SO q P r F n all l Q env own ds) : SO q P r F n all (i :: l) Q env own ds := by
  cases q
  · intro a w ha hds hs
    rw [wpOpsIn_cons]
    simp only [wpOpIn, hi, wanted_of ha hg]
    refine ⟨fun f _ => by simp, ?_⟩
    rw [hd]; exact h a w ha hds hs
  · exact ⟨o, undef, hi, .inr ⟨hg, rfl, hp⟩, fun d' hd' => (by rw [hd] at hd'; cases hd'), by rw [hd]; exact h⟩

/-- The value is a bool that is not known: both ways. -/
theorem so_bool {b : Bool} {d : Nat} (hi : all[i]? = some o) (hd : o.dst = some d) (hn : d < n) (hg : wantedE all env o = some true) (hv : OpV P (F :: own) n o env (.bool b))
    (h1 : b = true → SO q P r F n all l Q ((d, .bool true) :: env) own ds) (h2 : b = false → SO q P r F n all l Q ((d, .bool false) :: env) own ds) : SO q P r F n all (i :: l) Q env own ds := by
  cases b
  · exact so_op hi hd hn hg hv (h2 rfl)
  · exact so_op hi hd hn hg hv (h1 rfl)

theorem swp_region {id : Nat} {ops : Array Oper} {k : List Nat} (hk : List.range ops.size = k) (h : SO false P r F n ops k Q env own ds) : SWP P r F n (.region id ops false) Q env own ds :=
  fun a w ha hd hs => wpIn_region (by rw [hk]; exact h a w ha hd hs)
end

/-! ### A region that draws its order -/
/-- Which operations are ahead of each, by bits. -/
def bitsOf (acc : List Nat) (o : Oper) : Nat := o.after.toList.foldl (fun s e => if Region.binds .any e then s ||| (1 <<< e.on) ||| acc.getD e.on 0 else s) 0
def bits : List Oper → List Nat → List Nat
  | [], acc => acc
  | o :: l, acc => bits l (acc ++ [bitsOf acc o])

def readsOf (all : Array Oper) (o : Oper) : List Nat := o.looksAt all ++ o.dst.toList

def orderOk (bs : List Nat) (i k : Nat) : Bool := (Nat.blt k i && (bs.getD i 0).testBit k) || (Nat.blt i k && (bs.getD k 0).testBit i) || Nat.beq i k

/-- All that write a slot at which an operation looks are ahead of it, or behind it, for sure. -/
def dok (all : Array Oper) : Bool :=
  let bs := bits all.toList []
  all.toList.zipIdx.all fun (o, i) => plainOp o.op && (o.after.toList.all fun e => !Region.binds .any e || Nat.blt e.on i) && (readsOf all o).all fun s => all.toList.zipIdx.all fun (o', k) => !(o'.dst == some s) || orderOk bs i k

inductive Pre (all : Array Oper) : Nat → Nat → Prop
  | one {i j : Nat} {o : Oper} {e : Edge} : all[i]? = some o → e ∈ o.after → Region.binds .any e = true → e.on = j → Pre all j i
  | more {i j k : Nat} {o : Oper} {e : Edge} : all[i]? = some o → e ∈ o.after → Region.binds .any e = true → e.on = k → Pre all j k → Pre all j i

theorem foldl_bits {all : Array Oper} {acc : List Nat} (hacc : ∀ k j, (acc.getD k 0).testBit j = true → Pre all j k) {i : Nat} {o : Oper} (hi : all[i]? = some o) :
    ∀ (es : List Edge) (s : Nat), (∀ e ∈ es, e ∈ o.after) → (∀ j, s.testBit j = true → Pre all j i) →
      ∀ j, (es.foldl (fun s e => if Region.binds .any e then s ||| (1 <<< e.on) ||| acc.getD e.on 0 else s) s).testBit j = true → Pre all j i := by
  intro es
  induction es with
  | nil => exact fun s _ h j => h j
  | cons e es ih =>
    intro s he h j
    simp only [List.foldl_cons]
    refine ih _ (fun e' h' => he e' (List.mem_cons_of_mem _ h')) (fun j hj => ?_) j
    split at hj
    · rename_i hb
      simp only [Nat.testBit_or, Bool.or_eq_true] at hj
      rcases hj with (hj | hj) | hj
      · exact h j hj
      · refine .one hi (he e (List.mem_cons_self ..)) hb ?_
        rw [Nat.one_shiftLeft, Nat.testBit_two_pow] at hj
        simpa using hj
      · exact .more hi (he e (List.mem_cons_self ..)) hb rfl (hacc _ _ hj)
    · exact h j hj

theorem bits_spec {all : Array Oper} : ∀ (l : List Oper) (acc : List Nat), (∀ m, l[m]? = all[acc.length + m]?) → (∀ k j, (acc.getD k 0).testBit j = true → Pre all j k) →
    ∀ k j, ((bits l acc).getD k 0).testBit j = true → Pre all j k := by
  intro l
  induction l with
  | nil => exact fun acc _ h => h
  | cons o l ih =>
    intro acc hl h
    refine ih _ (fun m => ?_) (fun k j hj => ?_)
    · have := hl (m + 1)
      simp only [List.getElem?_cons_succ] at this
      rw [this]; simp only [List.length_append, List.length_cons, List.length_nil]
      congr 1; omega
    · rcases Nat.lt_trichotomy k acc.length with hk | hk | hk
      · rw [List.getD_eq_getElem?_getD, List.getElem?_append_left hk, ← List.getD_eq_getElem?_getD] at hj; exact h k j hj
      · subst hk
        rw [List.getD_eq_getElem?_getD, List.getElem?_append_right (Nat.le_refl _)] at hj
        simp only [Nat.sub_self, List.getElem?_cons_zero, Option.getD_some] at hj
        have h0 := hl 0
        simp only [List.getElem?_cons_zero, Nat.add_zero] at h0
        exact foldl_bits h h0.symm _ 0 (fun e he => by simpa using he) (fun j hj => by simp at hj) j hj
      · rw [List.getD_eq_getElem?_getD, List.getElem?_append_right (Nat.le_of_lt hk)] at hj
        have : ([bitsOf acc o] : List Nat)[k - acc.length]? = none := by rw [List.getElem?_eq_none]; simp; omega
        rw [this] at hj; simp at hj

theorem bits_pre {all : Array Oper} {k j : Nat} (h : ((bits all.toList []).getD k 0).testBit j = true) : Pre all j k :=
  bits_spec all.toList [] (fun m => by simp) (fun k j h => by simp at h) k j h

/-- What is ahead of a listed operation is listed. -/
theorem Pre.listed {all : Array Oper} {L : Nat → Bool} (hL : ∀ i o, L i = true → all[i]? = some o → ∀ e ∈ o.after, Region.binds .any e = true → L e.on = true) {i j : Nat} (h : Pre all j i) : L i = true → L j = true := by
  induction h with
  | one hi he hb hj => intro hl; exact hj ▸ hL _ _ hl hi _ he hb
  | more hi he hb hk _ ih => intro hl; exact ih (hk ▸ hL _ _ hl hi _ he hb)
theorem Pre.ready {all : Array Oper} {L : Nat → Bool} (hL : ∀ i o, L i = true → all[i]? = some o → ∀ e ∈ o.after, Region.binds .any e = true → L e.on = true) {i j : Nat} {o : Oper} (hi : all[i]? = some o)
    (hr : ∀ e ∈ o.after, Region.binds .any e = true → L e.on = true) (h : Pre all j i) : L j = true := by
  cases h with
  | one hi' he hb hj => rw [hi] at hi'; cases hi'; exact hj ▸ hr _ he hb
  | more hi' he hb hk h' => rw [hi] at hi'; cases hi'; exact h'.listed hL (hk ▸ hr _ he hb)

/-- The last one below k that is listed and writes slot s. -/
def lastW (all : Array Oper) (L : Nat → Bool) (s : Nat) : Nat → Option Nat
  | 0 => none
  | k + 1 => if L k && ((all[k]?).bind (·.dst)) == some s then some k else lastW all L s k

theorem lastW_congr {all : Array Oper} {L L' : Nat → Bool} {s : Nat} : ∀ {k : Nat}, (∀ j, j < k → (all[j]?).bind (·.dst) = some s → L j = L' j) → lastW all L s k = lastW all L' s k := by
  intro k
  induction k with
  | zero => intro _; rfl
  | succ k ih =>
    intro h
    simp only [lastW]
    rw [ih fun j hj => h j (by omega)]
    by_cases e : (all[k]?).bind (·.dst) = some s
    · rw [h k (by omega) e]
    · have : ((all[k]?).bind (·.dst) == some s) = false := by simpa using e
      simp [this]
theorem lastW_none_above {all : Array Oper} {L : Nat → Bool} {s i : Nat} : ∀ {k : Nat}, i ≤ k → (∀ j, i ≤ j → j < k → L j = true → (all[j]?).bind (·.dst) ≠ some s) → lastW all L s k = lastW all L s i := by
  intro k
  induction k with
  | zero =>
    intro hi _
    have : i = 0 := by omega
    rw [this]
  | succ k ih =>
    intro hi h
    by_cases e : i = k + 1
    · rw [e]
    · simp only [lastW]
      rw [ih (by omega) fun j h1 h2 => h j h1 (by omega)]
      cases hL : L k with
      | false => simp
      | true =>
        have := h k (by omega) (by omega) hL
        have : ((all[k]?).bind (·.dst) == some s) = false := by simpa using this
        simp [this]

def envAt (all : Array Oper) (vs : Nat → Value) (env : Env) : Nat → Env
  | 0 => env
  | k + 1 => match (all[k]?).bind (·.dst) with
    | some d => (d, vs k) :: envAt all vs env k
    | none => envAt all vs env k

def condAt (P : Program) (F : Heap) (n : Nat) (all : Array Oper) (own : List Heap) (env : Env) (o : Oper) (v : Value) : Prop :=
  ((wantedE all env o = some true ∧ OpV P (F :: own) n o env v) ∨ (wantedE all env o = some false ∧ v = undef ∧ plainOp o.op = true)) ∧ (∀ d, o.dst = some d → d < n)

theorem qops_list {P : Program} {F : Heap} {n : Nat} {all : Array Oper} {own : List Heap} {K : Env → Prop} {env : Env} : ∀ (m i : Nat) (vs : Nat → Value), i + m = all.size →
    QOps P F n all own K (List.range' i m) (envAt all vs env i) → ∃ vs' : Nat → Value, (∀ j, j < i → vs' j = vs j) ∧ (∀ j, i ≤ j → j < all.size → ∃ o, all[j]? = some o ∧ condAt P F n all own (envAt all vs' env j) o (vs' j)) ∧ K (envAt all vs' env all.size) := by
  intro m
  induction m with
  | zero => intro i vs h hq; exact ⟨vs, fun _ _ => rfl, fun j h1 h2 => by omega, by simp only [Nat.add_zero] at h; subst h; exact hq⟩
  | succ m ih =>
    intro i vs h hq
    simp only [List.range'_succ, QOps] at hq
    obtain ⟨o, v, hi, hc, hd, hrest⟩ := hq
    let vs1 : Nat → Value := fun j => if j = i then v else vs j
    have e1 : ∀ k, k ≤ i → envAt all vs1 env k = envAt all vs env k := by
      intro k
      induction k with
      | zero => intro _; rfl
      | succ k ihk =>
        intro hk
        simp only [envAt]
        rw [ihk (by omega)]
        have : vs1 k = vs k := by simp only [vs1]; rw [if_neg (by omega)]
        rw [this]
    have e2 : envAt all vs1 env (i + 1) = (match o.dst with | some d => (d, v) :: envAt all vs env i | none => envAt all vs env i) := by
      simp only [envAt, hi, Option.bind_some, e1 i (Nat.le_refl _)]
      have : vs1 i = v := by simp [vs1]
      rw [this]
    rw [← e2] at hrest
    obtain ⟨vs', g1, g2, g3⟩ := ih (i + 1) vs1 (by omega) hrest
    have e3 : ∀ k, k ≤ i → envAt all vs' env k = envAt all vs env k := by
      intro k
      induction k with
      | zero => intro _; rfl
      | succ k ihk =>
        intro hk
        simp only [envAt]
        rw [ihk (by omega), g1 k (by omega)]
        have : vs1 k = vs k := by simp only [vs1]; rw [if_neg (by omega)]
        rw [this]
    refine ⟨vs', fun j hj => by rw [g1 j (by omega)]; simp only [vs1]; rw [if_neg (by omega)], fun j h1 h2 => ?_, g3⟩
    by_cases e : j = i
    · subst e
      refine ⟨o, hi, ?_⟩
      rw [e3 j (Nat.le_refl _), g1 j (by omega)]
      have : vs1 j = v := by simp [vs1]
      rw [this]
      exact ⟨hc, hd⟩
    · exact g2 j (by omega) h2

/-- What the environment says, by the last writer. -/
theorem look_envAt {all : Array Oper} {vs : Nat → Value} {env : Env} {s : Nat} : ∀ k, look (envAt all vs env k) s = match lastW all (fun _ => true) s k with | some j => some (vs j) | none => look env s := by
  intro k
  induction k with
  | zero => rfl
  | succ k ih =>
    simp only [envAt, lastW, Bool.true_and]
    cases hd : (all[k]?).bind (·.dst) with
    | none => simp [ih]
    | some d =>
      by_cases e : d = s
      · subst e; simp [look_cons_self]
      · have : (some d == some s) = false := by simpa using e
        simp only [this, Bool.false_eq_true, if_false]
        rw [look_cons_ne _ _ e, ih]

theorem dok_spec {all : Array Oper} (h : dok all = true) {i k s : Nat} {o : Oper} (hi : all[i]? = some o) (hs : s ∈ readsOf all o) (hk : (all[k]?).bind (·.dst) = some s) (hne : k ≠ i) :
    (k < i ∧ Pre all k i) ∨ (i < k ∧ Pre all i k) := by
  unfold dok at h
  simp only [List.all_eq_true, Bool.and_eq_true, Bool.or_eq_true, Bool.not_eq_true'] at h
  have hmem : ∀ {m : Nat} {o : Oper}, all[m]? = some o → (o, m) ∈ all.toList.zipIdx := fun {m o} hm => by
    rw [List.mem_iff_getElem?]; exact ⟨m, by simp [hm]⟩
  cases hko : all[k]? with
  | none => rw [hko] at hk; cases hk
  | some o' =>
    rw [hko] at hk
    have := (h _ (hmem hi)).2 s hs _ (hmem hko)
    simp only at this
    rcases this with h1 | h1
    · have hk' : o'.dst = some s := hk
      rw [hk'] at h1; simp at h1
    · unfold orderOk at h1
      simp only [Bool.or_eq_true, Bool.and_eq_true] at h1
      rcases h1 with (⟨h1, h2⟩ | ⟨h1, h2⟩) | h1
      · exact .inl ⟨Nat.le_of_ble_eq_true h1, bits_pre h2⟩
      · exact .inr ⟨Nat.le_of_ble_eq_true h1, bits_pre h2⟩
      · exact absurd (Nat.eq_of_beq_eq_true h1).symm hne

theorem dok_plain {all : Array Oper} (h : dok all = true) {i : Nat} {o : Oper} (hi : all[i]? = some o) : plainOp o.op = true := by
  unfold dok at h
  simp only [List.all_eq_true, Bool.and_eq_true] at h
  have hmem : (o, i) ∈ all.toList.zipIdx := by rw [List.mem_iff_getElem?]; exact ⟨i, by simp [hi]⟩
  exact (h _ hmem).1.1
theorem dok_low {all : Array Oper} (h : dok all = true) {i : Nat} {o : Oper} (hi : all[i]? = some o) {e : Edge} (he : e ∈ o.after) (hb : Region.binds .any e = true) : e.on < i := by
  unfold dok at h
  simp only [List.all_eq_true, Bool.and_eq_true, Bool.or_eq_true, Bool.not_eq_true'] at h
  have hmem : (o, i) ∈ all.toList.zipIdx := by rw [List.mem_iff_getElem?]; exact ⟨i, by simp [hi]⟩
  rcases (h _ hmem).1.2 e (by simpa using he) with h1 | h1
  · rw [hb] at h1; cases h1
  · exact Nat.le_of_ble_eq_true h1

def cnt (L : Array Bool) (m : Nat) : Nat := ((List.range m).filter fun i => L.getD i false).length
theorem getD_set {L : Array Bool} {i j : Nat} (hi : i < L.size) (d : Bool) : (L.setIfInBounds i true).getD j d = if j = i then true else L.getD j d := by
  simp only [Array.getD_eq_getD_getElem?]
  by_cases e : i = j
  · subst e; simp [hi]
  · rw [Array.getElem?_setIfInBounds_ne e, if_neg (fun h => e h.symm)]
theorem cnt_set {L : Array Bool} {i : Nat} (hi : i < L.size) (hl : L.getD i false = false) : ∀ m, cnt (L.setIfInBounds i true) m = cnt L m + if i < m then 1 else 0 := by
  intro m
  induction m with
  | zero => simp [cnt]
  | succ m ih =>
    unfold cnt at ih ⊢
    rw [List.range_succ, List.filter_append, List.filter_append, List.length_append, List.length_append, ih]
    simp only [List.filter_cons, List.filter_nil, getD_set hi]
    by_cases e : m = i
    · subst e; simp [hl]
    · rw [if_neg e]
      by_cases h1 : i < m
      · have h2 : i < m + 1 := by omega
        simp only [h1, h2, if_true]; omega
      · have h2 : ¬ i < m + 1 := by omega
        simp only [h1, h2, if_false]; omega
theorem cnt_full {L : Array Bool} : ∀ m, cnt L m = m → ∀ i, i < m → L.getD i false = true := by
  intro m
  induction m with
  | zero => intro _ i hi; omega
  | succ m ih =>
    intro h i hi
    have hle : cnt L m ≤ m := by unfold cnt; have := List.length_filter_le (fun i => L.getD i false) (List.range m); simpa using this
    unfold cnt at h hle ih
    rw [List.range_succ, List.filter_append, List.length_append] at h
    simp only [List.filter_cons, List.filter_nil] at h
    by_cases hm : L.getD m false = true
    · rw [if_pos hm] at h
      simp only [List.length_cons, List.length_nil] at h
      by_cases e : i = m
      · rw [e]; exact hm
      · exact ih (by omega) i (by omega)
    · rw [if_neg hm] at h; simp only [List.length_nil] at h; omega

theorem eval_looks {all : Array Oper} {o : Oper} {a a' : Act} (h : ∀ s ∈ o.looksAt all, a.tmps[s]? = a'.tmps[s]?) (hp : plainOp o.op = true) : execOp a.eval o = execOp a'.eval o := by
  refine execOp_congr o (fun cs b e => by rw [e] at hp; cases hp) fun x hx => ?_
  cases x with
  | tmp t =>
    have : a.tmps[t]? = a'.tmps[t]? := h t (by
      unfold Oper.looksAt
      refine List.mem_append.2 (.inl ?_)
      rw [List.mem_filterMap]
      exact ⟨.tmp t, by simpa using hx, rfl⟩)
    simp only [Act.eval, Array.getD_eq_getD_getElem?, this]
  | _ => rfl
theorem wanted_looks {all : Array Oper} {o : Oper} {a a' : Act} (h : ∀ s ∈ o.looksAt all, a.tmps[s]? = a'.tmps[s]?) :
    Region.wanted o (yielded all a.tmps) = Region.wanted o (yielded all a'.tmps) := by
  unfold Region.wanted
  cases hg : o.guard with
  | none => rfl
  | some p =>
    obtain ⟨j, want⟩ := p
    simp only
    congr 1
    unfold yielded
    cases hd : (all[j]?).bind (·.dst) with
    | none => rfl
    | some d =>
      have : a.tmps[d]? = a'.tmps[d]? := h d (by
        unfold Oper.looksAt
        refine List.mem_append.2 (.inr ?_)
        rw [hg]; simp [hd])
      simp only [Option.bind_some, this]

/-- An order that the edges allow: so what is not listed can go on. -/
def linM (md : Region.Mode) (all : Array Oper) : List Nat → List Nat → Bool
  | _, [] => true
  | seen, i :: l => (match all[i]? with
    | some o => o.after.toList.all fun e => !Region.binds md e || seen.contains e.on
    | none => false) && linM md all (i :: seen) l
def topoOk (md : Region.Mode) (all : Array Oper) : Bool :=
  let ord := Region.linearise md all 0
  linM md all [] ord && (List.range all.size).all fun i => ord.contains i
def acyOk (all : Array Oper) : Bool := topoOk .any all && (!Region.departs all || (topoOk .text all && topoOk .gc all))
theorem linM_listed {md : Region.Mode} {all : Array Oper} {L : Array Bool} (hsz : L.size = all.size) (hr : Region.ready md all L = []) : ∀ {l seen : List Nat}, linM md all seen l = true → (∀ j ∈ seen, L.getD j false = true) → ∀ i ∈ l, L.getD i false = true := by
  intro l
  induction l with
  | nil => intro _ _ _ i hi; cases hi
  | cons i l ih =>
    intro seen h hs
    simp only [linM, Bool.and_eq_true] at h
    have hi : L.getD i false = true := by
      cases hL : L.getD i false with
      | true => rfl
      | false =>
        exfalso
        cases ho : all[i]? with
        | none => rw [ho] at h; cases h.1
        | some o =>
          rw [ho] at h
          have hlt : i < all.size := (Array.getElem?_eq_some_iff.1 ho).1
          have : i ∈ Region.ready md all L := by
            unfold Region.ready
            rw [List.mem_filter]
            refine ⟨List.mem_range.2 hlt, ?_⟩
            have hLt : L.getD i true = false := by
              have hlt : i < L.size := by omega
              simp only [Array.getD, hlt, dif_pos] at hL ⊢; exact hL
            simp only [hLt, Bool.not_false, Bool.true_and, ho, Option.map_some, Option.getD_some]
            rw [Array.all_eq_true']
            intro e he
            have := List.all_eq_true.1 h.1 e (by simpa using he)
            simp only [Bool.or_eq_true] at this ⊢
            exact this.imp _root_.id fun hc => hs e.on (by simpa using hc)
          rw [hr] at this; cases this
    intro k hk
    rcases List.mem_cons.1 hk with rfl | hk
    · exact hi
    · exact ih h.2 (fun j hj => by
        rcases List.mem_cons.1 hj with rfl | hj
        · exact hi
        · exact hs j hj) k hk
theorem topo_listed {md : Region.Mode} {all : Array Oper} (h : topoOk md all = true) {L : Array Bool} (hsz : L.size = all.size) (hr : Region.ready md all L = []) : ∀ i, i < all.size → L.getD i false = true := fun i hi => by
  simp only [topoOk, Bool.and_eq_true] at h
  have := List.all_eq_true.1 h.2 i (List.mem_range.2 hi)
  exact linM_listed hsz hr h.1 (fun j hj => by cases hj) i (by simpa using this)
theorem binds_any {md : Region.Mode} {e : Edge} (h : Region.binds .any e = true) : Region.binds md e = true := by
  unfold Region.binds at h ⊢
  split at h <;> first | rfl | (simp at h) | skip
  all_goals (split <;> simp_all)
theorem schedule_mode {mixed : Bool} {all : Array Oper} (h : acyOk all = true) (t : Nat) : ∃ md t', topoOk md all = true ∧ Region.schedule mixed all t = Region.linearise md all t' := by
  simp only [acyOk, Bool.and_eq_true, Bool.or_eq_true, Bool.not_eq_true'] at h
  unfold Region.schedule
  split
  · exact ⟨.any, t, h.1, rfl⟩
  · rename_i hm
    have hd : Region.departs all = true := by
      cases e : Region.departs all with
      | true => rfl
      | false => rw [e] at hm; simp at hm
    rcases h.2 with h2 | h2
    · rw [hd] at h2; cases h2
    · split
      · exact ⟨.text, _, h2.1, rfl⟩
      · exact ⟨.gc, _, h2.2, rfl⟩

/-- A region that draws its order: whatever the order, the end is that of the text's order, where each operation is quiet and its value known. -/
theorem swp_draw {P : Program} {r : Option Nat} {F : Heap} {n : Nat} {Q : SPost} {env : Env} {own : List Heap} {ds : List Deferred} {id : Nat} {ops : Array Oper} {k : List Nat}
    (hok : dok ops = true) (hac : acyOk ops = true) (hk : List.range ops.size = k) (h : SO true P r F n ops k Q env own ds) : SWP P r F n (.region id ops true) Q env own ds := by
  intro a0 w0 ha0 hd0 hs0
  refine wpIn_region_draw fun t => ?_
  obtain ⟨md, t', hmd, hsch⟩ := schedule_mode (mixed := P.follows .mixedOrders) hac t
  rw [hsch]
  have hq : QOps P F n ops own (fun env => Q .normal env own ds) (List.range' 0 ops.size) (envAt ops (fun _ => undef) env 0) := by
    rw [← List.range_eq_range', hk]; exact h
  obtain ⟨vs, -, hc, hK⟩ := qops_list ops.size 0 (fun _ => undef) (by omega) hq
  -- what stands in a slot when L has been carried out
  let at_ : (Nat → Bool) → Nat → Nat → Option Value := fun L k s => match lastW ops L s k with | some j => some (vs j) | none => a0.tmps[s]?
  let Inv : Array Bool → Act → World → Prop := fun L a w => L.size = ops.size ∧ a.tmps.size = n ∧ a.defers = ds ∧ Sat (F :: own) w ∧
    (∀ s, s < n → a.tmps[s]? = at_ (fun i => L.getD i false) ops.size s) ∧
    (∀ i o, L.getD i false = true → ops[i]? = some o → ∀ e ∈ o.after, Region.binds .any e = true → L.getD e.on false = true)
  have hhas : ∀ {a : Act}, a.tmps.size = n → ∀ k, (∀ s, s < n → a.tmps[s]? = at_ (fun _ => true) k s) → Has n (envAt ops vs env k) a := by
    intro a hsz k ht
    refine ⟨hsz, fun s v hv => ?_⟩
    rw [look_envAt] at hv
    have key : a.tmps[s]? = at_ (fun _ => true) k s ∨ n ≤ s := by
      by_cases hs : s < n
      · exact .inl (ht s hs)
      · exact .inr (by omega)
    rcases key with key | key
    · rw [key]
      simp only [at_]
      cases hl : lastW ops (fun _ => true) s k with
      | some j => rw [hl] at hv; exact hv
      | none => rw [hl] at hv; exact ha0.get s v hv
    · exfalso
      -- no slot beyond the frame is written or known
      cases hl : lastW ops (fun _ => true) s k with
      | none =>
        rw [hl] at hv
        have := ha0.get s v hv
        rw [Array.getElem?_eq_none (by rw [ha0.size]; exact key)] at this; cases this
      | some j =>
        have hw : ∀ m, lastW ops (fun _ => true) s m = some j → (ops[j]?).bind (·.dst) = some s := by
          intro m
          induction m with
          | zero => intro h; cases h
          | succ m ih =>
            intro h
            simp only [lastW, Bool.true_and] at h
            split at h
            · cases h; rename_i h2; simpa using h2
            · exact ih h
        have hj := hw k hl
        cases ho : ops[j]? with
        | none => rw [ho] at hj; cases hj
        | some o =>
          rw [ho] at hj
          have hjlt : j < ops.size := (Array.getElem?_eq_some_iff.1 ho).1
          obtain ⟨o', ho', -, hdn⟩ := hc j (Nat.zero_le _) hjlt
          rw [ho] at ho'; cases ho'
          exact absurd (hdn s hj) (Nat.not_lt.2 key)
  have hend : ∀ L a w, Inv L a w → (∀ i, i < ops.size → L.getD i false = true) → Lift F n Q .normal a w := by
    intro L a w ⟨h1, h2, h3, h4, h5, h6⟩ hall
    refine ⟨by simp, _, own, hhas h2 ops.size (fun s hs => ?_), h4, h3 ▸ hK⟩
    rw [h5 s hs]
    simp only [at_]
    rw [lastW_congr (L := fun i => L.getD i false) (L' := fun _ => true) fun j hj _ => hall j hj]
  have hempty : ∀ L a w, Inv L a w → Region.ready md ops L = [] → ∀ i, i < ops.size → L.getD i false = true := fun L a w hI hr => topo_listed hmd hI.1 hr
  have key : ∀ fuel L a w, Inv L a w → fuel + cnt L ops.size = ops.size → wpAnyIn (fen r) 0 P md ops (Lift F n Q) fuel L a w := by
    intro fuel
    induction fuel with
    | zero =>
      intro L a w hI hf
      have hall := cnt_full ops.size (by omega : cnt L ops.size = ops.size)
      refine ⟨?_, hend L a w hI hall⟩
      unfold Region.ready
      rw [List.filter_eq_nil_iff]
      intro i hi
      have hi' := List.mem_range.1 hi
      have hL := hall i hi'
      have hLt : L.getD i true = true := by
        have hlt : i < L.size := by rw [hI.1]; exact hi'
        simp only [Array.getD, hlt, dif_pos] at hL ⊢; exact hL
      simp [hLt]
    | succ fuel ih =>
      intro L a w hI hf
      refine ⟨fun hr => hend L a w hI (hempty L a w hI hr), fun i hi => ?_⟩
      obtain ⟨h1, h2, h3, h4, h5, h6⟩ := hI
      unfold Region.ready at hi
      rw [List.mem_filter] at hi
      obtain ⟨hi1, hi2⟩ := hi
      have hi1 := List.mem_range.1 hi1
      have hilt : i < L.size := by omega
      have hio : ops[i]? = some ops[i] := Array.getElem?_eq_getElem hi1
      simp only [hio, Option.map_some, Option.getD_some, Bool.and_eq_true, Bool.not_eq_true', Array.all_eq_true'] at hi2
      obtain ⟨hnl, hrd⟩ := hi2
      have hnl' : L.getD i false = false := by simp only [Array.getD, hilt, dif_pos] at hnl ⊢; exact hnl
      have hrd' : ∀ e ∈ ops[i].after, Region.binds .any e = true → L.getD e.on false = true := fun e he hb => by
        have := hrd e he; rw [binds_any hb] at this; simpa using this
      -- who writes a slot at which it looks is listed just if it is ahead
      have hsame : ∀ s ∈ readsOf ops ops[i], lastW ops (fun j => L.getD j false) s ops.size = lastW ops (fun _ => true) s i := by
        intro s hs
        rw [lastW_none_above (i := i) (Nat.le_of_lt hi1) (L := fun j => L.getD j false) (fun j g1 g2 g3 g4 => ?_)]
        · refine lastW_congr fun j hj hw => ?_
          rcases dok_spec hok hio hs hw (by omega) with ⟨g1, g2⟩ | ⟨g1, g2⟩
          · exact g2.ready h6 hio hrd'
          · omega
        · by_cases e : j = i
          · subst e; simp only [hnl'] at g3; cases g3
          · rcases dok_spec hok hio hs g4 e with ⟨g5, g6⟩ | ⟨g5, g6⟩
            · omega
            · have := g6.listed h6 g3
              rw [hnl'] at this; cases this
      -- a frame as the text's order has it there
      let a'' : Act := { tmps := Array.ofFn (n := n) fun s => (at_ (fun _ => true) i s.val).getD undef, defers := ds }
      have hat : ∀ s, s < n → a''.tmps[s]? = at_ (fun _ => true) i s := by
        intro s hs
        simp only [a'']
        rw [Array.getElem?_eq_getElem (by simpa using hs)]
        simp only [Array.getElem_ofFn]
        simp only [at_]
        cases hl : lastW ops (fun _ => true) s i with
        | some j => rfl
        | none =>
          simp only []
          rw [Array.getElem?_eq_getElem (by rw [ha0.size]; exact hs)]; rfl
      have ha'' : Has n (envAt ops vs env i) a'' := hhas (by simp [a'']) i hat
      have hlook : ∀ s ∈ (ops[i]).looksAt ops, a.tmps[s]? = a''.tmps[s]? := by
        intro s hs
        by_cases hsn : s < n
        · rw [h5 s hsn, hat s hsn]
          simp only [at_]
          rw [hsame s (List.mem_append.2 (.inl hs))]
        · have hge : n ≤ s := Nat.not_lt.1 hsn
          rw [Array.getElem?_eq_none (by rw [h2]; exact hge), Array.getElem?_eq_none (by simpa [a''] using hge)]
      obtain ⟨o, ho, hcond, hdn⟩ := hc i (Nat.zero_le _) hi1
      rw [hio] at ho; cases ho
      -- the next state is as the invariant says
      have hnext : ∀ w', Sat (F :: own) w' → wpAnyIn (fen r) 0 P md ops (Lift F n Q) fuel (L.setIfInBounds i true) (a.put (ops[i]).dst (vs i)) w' := by
        intro w' hs'
        refine ih _ _ _ ⟨by simpa using h1, ?_, ?_, hs', ?_, ?_⟩ ?_
        · cases (ops[i]).dst <;> simp [Act.put, h2]
        · cases (ops[i]).dst <;> simp [Act.put, h3]
        · intro s hs
          by_cases hd : (ops[i]).dst = some s
          · have hmem : s ∈ readsOf ops ops[i] := List.mem_append.2 (.inr (by rw [hd]; simp))
            have hl : lastW ops (fun j => (L.setIfInBounds i true).getD j false) s ops.size = some i := by
              rw [lastW_none_above (i := i + 1) (by omega) (L := fun j => (L.setIfInBounds i true).getD j false) (fun j g1 g2 g3 g4 => ?_)]
              · simp only [lastW, getD_set hilt, if_true, Bool.true_and, hio, Option.bind_some, hd]; simp
              · rw [getD_set hilt, if_neg (by omega)] at g3
                rcases dok_spec hok hio hmem g4 (by omega) with ⟨g5, g6⟩ | ⟨g5, g6⟩
                · omega
                · have := g6.listed h6 g3
                  rw [hnl'] at this; cases this
            simp only [at_, hl]
            rw [hd]
            simp only [Act.put]
            simp [h2, hs]
          · have hl : lastW ops (fun j => (L.setIfInBounds i true).getD j false) s ops.size = lastW ops (fun j => L.getD j false) s ops.size := by
              refine lastW_congr fun j hj hw => ?_
              rw [getD_set hilt]
              by_cases e : j = i
              · subst e; rw [hio] at hw; exact absurd hw hd
              · rw [if_neg e]
            simp only [at_, hl]
            have := h5 s hs
            simp only [at_] at this
            rw [← this]
            cases hd' : (ops[i]).dst with
            | none => rfl
            | some d =>
              have : d ≠ s := fun e => hd (e ▸ hd')
              simp only [Act.put]
              rw [Array.getElem?_setIfInBounds_ne this]
        · intro j o hj ho e he hb
          rw [getD_set hilt] at hj ⊢
          by_cases e' : e.on = i
          · rw [if_pos e']
          · rw [if_neg e']
            by_cases ej : j = i
            · subst ej; rw [hio] at ho; cases ho; exact hrd' e he hb
            · rw [if_neg ej] at hj; exact h6 j o hj ho e he hb
        · rw [cnt_set hilt hnl', if_pos hi1]; omega
      rcases hcond with ⟨hg, hv⟩ | ⟨hg, hv, hp⟩
      · exact opv_wp hv hio ((wanted_looks hlook).trans (wanted_of ha'' hg)) ha'' (eval_looks hlook (dok_plain hok hio)) h4 hnext
      · simp only [wpOpIn, hio, (wanted_looks hlook).trans (wanted_of ha'' hg)]
        refine ⟨fun f _ => by simp, ?_⟩
        rw [← hv]; exact hnext w h4
  refine wpAnyIn_sound ops.size t' (Array.replicate ops.size false) a0 _ (key ops.size _ a0 _ ⟨by simp, ha0.size, hd0, hs0.heap rfl rfl rfl, fun s hs => ?_, fun i o hi => ?_⟩ ?_)
  · have : lastW ops (fun j => (Array.replicate ops.size false).getD j false) s ops.size = none := by
      have hz : ∀ m, lastW ops (fun j => (Array.replicate ops.size false).getD j false) s m = none := by
        intro m
        induction m with
        | zero => rfl
        | succ m ih =>
          have : (Array.replicate ops.size false).getD m false = false := by
            rw [Array.getD_eq_getD_getElem?, Array.getElem?_replicate]; split <;> rfl
          simp only [lastW, this, Bool.false_and, Bool.false_eq_true, if_false, ih]
      exact hz _
    simp only [at_, this]
  · exfalso
    have : (Array.replicate ops.size false).getD i false = false := by
      rw [Array.getD_eq_getD_getElem?, Array.getElem?_replicate]; split <;> rfl
    rw [this] at hi; cases hi
  · have : ∀ m, cnt (Array.replicate ops.size false) m = 0 := by
      intro m
      unfold cnt
      rw [List.length_eq_zero_iff, List.filter_eq_nil_iff]
      intro i _
      have : (Array.replicate ops.size false).getD i false = false := by
        rw [Array.getD_eq_getD_getElem?, Array.getElem?_replicate]; split <;> rfl
      simp [this]
    rw [this]; omega
end Go.SL
