/- A region that draws its order, with one operation that turns memory. -/
import Derived.Test.YtnfepffmlhmmhaaSlH
namespace Go.SL

/-- An operation that turns the heaps 'hs': what it hands back, and what it leaves. -/
def HOp (P : Program) (hs : List Heap) (n : Nat) (o : Oper) (env : Env) (R : Value → List Heap → Prop) : Prop :=
  plainOp o.op = true ∧ ∀ a w X, Has n env a → Sat (hs ++ X) w → ∃ w',
    (∃ v own, (execOp a.eval o).run P w = .ok (.value v) w' ∧ Sat (own ++ X) w' ∧ R v own) ∨
    (∃ own, (execOp a.eval o).run P w = .ok .skip w' ∧ Sat (own ++ X) w' ∧ R undef own) ∨
    (∃ f args, (execOp a.eval o).run P w = .ok (.enter f args) w' ∧ Calls P f args w' fun e w'' => ∃ v own, e = .returned v ∧ Sat (own ++ X) w'' ∧ R v own) ∨
    (∃ L f tmps assign body, (execOp a.eval o).run P w = .ok (.round L f tmps assign body) w' ∧ ∀ r, RoundIn (fen r) 0 P L f tmps assign body w' fun e w'' => ∃ v own, e = .returned v ∧ Sat (own ++ X) w'' ∧ R v own)

theorem hop_wp {P : Program} {r : Option Nat} {hs X : List Heap} {n : Nat} {o : Oper} {env : Env} {R : Value → List Heap → Prop} (h : HOp P hs n o env R)
    {all : Array Oper} {Q : Exit → Act → World → Prop} {i : Nat} {K : Act → World → Prop} {a : Act} {w : World} (hi : all[i]? = some o)
    (hw : Region.wanted o (yielded all a.tmps) = true) {a' : Act} (ha : Has n env a') (he : execOp a.eval o = execOp a'.eval o) (hs' : Sat (hs ++ X) w)
    (hk : ∀ v own w', R v own → Sat (own ++ X) w' → K (a.put o.dst v) w') : wpOpIn (fen r) 0 P all Q i K a w := by
  simp only [wpOpIn, hi, hw, if_true]
  refine ⟨fun f _ => by simp, ?_⟩
  rw [fen_round, semAt_plain h.1, he]
  obtain ⟨w', ⟨v, own, h1, h2, h3⟩ | ⟨own, h1, h2, h3⟩ | ⟨f, args, h1, h2⟩ | ⟨L, f, tmps, as, body, h1, h2⟩⟩ := h.2 a' w X ha hs'
  · rw [h1]; exact hk v own w' h3 h2
  · rw [h1]; exact hk undef own w' h3 h2
  · rw [h1]
    refine ⟨fun hx => by simp at hx, (callsIn_fen _ h2).mono ?_⟩
    rintro e w'' ⟨v, own, rfl, s2, hR⟩
    exact hk v own w'' hR s2
  · rw [h1]
    refine ⟨fun hx => by simp at hx, (h2 r).mono ?_⟩
    rintro e w'' ⟨v, own, rfl, s2, hR⟩
    exact hk v own w'' hR s2

/-! ### Orders -/
def envL (all : Array Oper) (vs : Nat → Value) : List Nat → Env → Env
  | [], env => env
  | i :: l, env => envL all vs l (match (all[i]?).bind (·.dst) with | some d => (d, vs i) :: env | none => env)
theorem envL_snoc {all : Array Oper} {vs : Nat → Value} : ∀ {l : List Nat} {i : Nat} {env : Env}, envL all vs (l ++ [i]) env = (match (all[i]?).bind (·.dst) with | some d => (d, vs i) :: envL all vs l env | none => envL all vs l env) := by
  intro l
  induction l with
  | nil => intro i env; rfl
  | cons j l ih => intro i env; simp only [List.cons_append, envL]; exact ih
theorem envL_append {all : Array Oper} {vs : Nat → Value} : ∀ {l l' : List Nat} {env : Env}, envL all vs (l ++ l') env = envL all vs l' (envL all vs l env) := by
  intro l
  induction l with
  | nil => intro l' env; rfl
  | cons j l ih => intro l' env; simp only [List.cons_append, envL]; exact ih
theorem envL_congr {all : Array Oper} {vs vs' : Nat → Value} : ∀ {l : List Nat} {env : Env}, (∀ i ∈ l, vs i = vs' i) → envL all vs l env = envL all vs' l env := by
  intro l
  induction l with
  | nil => intro env _; rfl
  | cons j l ih =>
    intro env h
    simp only [envL]
    rw [h j (List.mem_cons_self ..), ih fun i hi => h i (List.mem_cons_of_mem _ hi)]

theorem lastW_isW {all : Array Oper} {L : Nat → Bool} {s j : Nat} : ∀ {m : Nat}, lastW all L s m = some j → L j = true ∧ (all[j]?).bind (·.dst) = some s ∧ j < m := by
  intro m
  induction m with
  | zero => intro h; cases h
  | succ m ih =>
    intro h
    simp only [lastW] at h
    split at h
    · cases h; rename_i h2; simp only [Bool.and_eq_true, beq_iff_eq] at h2; exact ⟨h2.1, h2.2, by omega⟩
    · obtain ⟨a, b, c⟩ := ih h; exact ⟨a, b, by omega⟩

/-- Those that write one slot stand in the list in their own order. -/
def AscW (all : Array Oper) (l : List Nat) : Prop := l.Pairwise fun k k' => ∀ s, (all[k]?).bind (·.dst) = some s → (all[k']?).bind (·.dst) = some s → k < k'

theorem look_envL {all : Array Oper} {vs : Nat → Value} {env : Env} {s : Nat} (l : List Nat) (ha : AscW all l) (hl : ∀ i ∈ l, i < all.size) :
    look (envL all vs l env) s = match lastW all (fun j => l.contains j) s all.size with | some j => some (vs j) | none => look env s := by
  suffices h : ∀ k : List Nat, AscW all k.reverse → (∀ i ∈ k.reverse, i < all.size) → look (envL all vs k.reverse env) s = match lastW all (fun j => k.reverse.contains j) s all.size with | some j => some (vs j) | none => look env s by
    have := h l.reverse
    rw [List.reverse_reverse] at this
    exact this ha hl
  clear ha hl l
  intro k
  induction k with
  | nil =>
    intro _ _
    simp only [List.reverse_nil]
    have : ∀ m, lastW all (fun j => ([] : List Nat).contains j) s m = none := by
      intro m
      induction m with
      | zero => rfl
      | succ m ih => simp only [lastW, ih]; simp
    rw [this]; rfl
  | cons i k ih =>
    rw [List.reverse_cons]
    generalize k.reverse = l at ih ⊢
    intro hasc hlt
    rw [envL_snoc]
    have hasc' := List.pairwise_append.1 hasc
    have ih' := ih hasc'.1 (fun j hj => hlt j (List.mem_append.2 (.inl hj)))
    have hi := hlt i (List.mem_append.2 (.inr (List.mem_singleton.2 rfl)))
    by_cases hd : (all[i]?).bind (·.dst) = some s
    · have hl : lastW all (fun j => (l ++ [i]).contains j) s all.size = some i := by
        rw [lastW_none_above (i := i + 1) (by omega) (fun j g1 g2 g3 g4 => ?_)]
        · simp only [lastW]
          rw [if_pos (by simp [hd])]
        · simp only [List.contains_eq_mem, decide_eq_true_eq, List.mem_append, List.mem_singleton] at g3
          rcases g3 with g3 | g3
          · have := hasc'.2.2 j g3 i (List.mem_singleton.2 rfl) s g4 hd
            omega
          · omega
      rw [hl, hd]
      simp [look_cons_self]
    · have hl : lastW all (fun j => (l ++ [i]).contains j) s all.size = lastW all (fun j => l.contains j) s all.size := by
        refine lastW_congr fun j _ hw => ?_
        have : j ≠ i := fun e => by subst e; exact hd hw
        simp [this]
      rw [hl, ← ih']
      cases hd' : (all[i]?).bind (·.dst) with
      | none => rfl
      | some d =>
        have : d ≠ s := fun e => hd (e ▸ hd')
        exact look_cons_ne _ _ this

theorem qops_split {P : Program} {F : Heap} {n : Nat} {all : Array Oper} {own : List Heap} {K : Env → Prop} : ∀ {l : List Nat} {env : Env}, l.Nodup → QOps P F n all own K l env →
    ∃ vs : Nat → Value, (∀ p i t, l = p ++ i :: t → ∃ o, all[i]? = some o ∧ condAt P F n all own (envL all vs p env) o (vs i)) ∧ K (envL all vs l env) := by
  intro l
  induction l with
  | nil => intro env _ h; exact ⟨fun _ => undef, fun p i t e => by simp at e, h⟩
  | cons i l ih =>
    intro env hnd h
    simp only [QOps] at h
    obtain ⟨o, v, hi, hc, hd, hrest⟩ := h
    obtain ⟨hni, hnd'⟩ := List.nodup_cons.1 hnd
    have hrest' : QOps P F n all own K l (match (all[i]?).bind (·.dst) with | some d => (d, v) :: env | none => env) := by rw [hi]; exact hrest
    obtain ⟨vs, h1, h2⟩ := ih hnd' hrest'
    let vs' : Nat → Value := fun j => if j = i then v else vs j
    have hcong : ∀ p, (∀ j ∈ p, j ∈ l) → ∀ env, envL all vs' p env = envL all vs p env := fun p hp env => envL_congr fun j hj => by
      simp only [vs']; rw [if_neg (fun e => by subst e; exact hni (hp _ hj))]
    have hvi : vs' i = v := by simp [vs']
    refine ⟨vs', fun p k t e => ?_, ?_⟩
    · cases p with
      | nil =>
        simp only [List.nil_append, List.cons.injEq] at e
        obtain ⟨rfl, rfl⟩ := e
        exact ⟨o, hi, by rw [hvi]; exact ⟨hc, hd⟩⟩
      | cons j p =>
        simp only [List.cons_append, List.cons.injEq] at e
        obtain ⟨rfl, rfl⟩ := e
        obtain ⟨o', ho', hc'⟩ := h1 p k t rfl
        have hk : k ≠ i := fun e => by subst e; exact hni (by simp)
        have : vs' k = vs k := by simp only [vs']; rw [if_neg hk]
        refine ⟨o', ho', ?_⟩
        rw [this]
        simp only [envL]
        rw [hvi, hcong p (fun j hj => List.mem_append.2 (.inl hj))]
        exact hc'
    · simp only [envL]
      rw [hvi, hcong l (fun _ h => h)]
      exact h2

def ascB (all : Array Oper) (k k' : Nat) : Bool := match (all[k]?).bind (·.dst) with
  | some d => !((all[k']?).bind (·.dst) == some d) || Nat.blt k k'
  | none => true
def ascL (all : Array Oper) : List Nat → Bool
  | [] => true
  | k :: l => l.all (fun k' => ascB all k k') && ascL all l
theorem ascL_spec {all : Array Oper} : ∀ {l : List Nat}, ascL all l = true → AscW all l := by
  intro l
  induction l with
  | nil => intro _; exact List.Pairwise.nil
  | cons k l ih =>
    intro h
    simp only [ascL, Bool.and_eq_true, List.all_eq_true] at h
    refine List.Pairwise.cons (fun k' hk' s h1 h2 => ?_) (ih h.2)
    have := h.1 k' hk'
    unfold ascB at this
    rw [h1] at this
    simp only [h2, beq_self_eq_true, Bool.not_true, Bool.false_or] at this
    exact Nat.le_of_ble_eq_true this
def linB (all : Array Oper) : List Nat → List Nat → Bool
  | _, [] => true
  | seen, i :: l => (match all[i]? with
    | some o => o.after.toList.all fun e => !Region.binds .any e || seen.contains e.on
    | none => false) && linB all (i :: seen) l
theorem linB_spec {all : Array Oper} : ∀ {l seen : List Nat}, linB all seen l = true → ∀ p i t, l = p ++ i :: t → ∀ o, all[i]? = some o → ∀ e ∈ o.after, Region.binds .any e = true → e.on ∈ p ∨ e.on ∈ seen := by
  intro l
  induction l with
  | nil => intro seen _ p i t e; simp at e
  | cons j l ih =>
    intro seen h p i t e o ho ed hed hb
    simp only [linB, Bool.and_eq_true] at h
    cases p with
    | nil =>
      simp only [List.nil_append, List.cons.injEq] at e
      obtain ⟨rfl, rfl⟩ := e
      rw [ho] at h
      simp only [List.all_eq_true, Bool.or_eq_true, Bool.not_eq_true'] at h
      rcases h.1 ed (by simpa using hed) with h1 | h1
      · rw [hb] at h1; cases h1
      · exact .inr (by simpa using h1)
    | cons k p =>
      simp only [List.cons_append, List.cons.injEq] at e
      obtain ⟨rfl, rfl⟩ := e
      rcases ih h.2 p i t rfl o ho ed hed hb with h1 | h1
      · exact .inl (List.mem_cons_of_mem _ h1)
      · rcases List.mem_cons.1 h1 with h1 | h1
        · exact .inl (h1 ▸ List.mem_cons_self ..)
        · exact .inr h1
def nodupB : List Nat → Bool
  | [] => true
  | i :: l => !l.contains i && nodupB l
theorem nodupB_spec : ∀ {l : List Nat}, nodupB l = true → l.Nodup := by
  intro l
  induction l with
  | nil => intro _; exact List.nodup_nil
  | cons i l ih =>
    intro h
    simp only [nodupB, Bool.and_eq_true, Bool.not_eq_true', List.contains_eq_mem, decide_eq_false_iff_not] at h
    exact List.nodup_cons.2 ⟨h.1, ih h.2⟩

def heavyOk (all : Array Oper) (la lb : List Nat) (m : Nat) (l3 : List Nat) : Bool :=
  let ord := la ++ lb ++ (m :: l3)
  let bs := bits all.toList []
  nodupB ord && ord.all (fun i => Nat.blt i all.size) && (List.range all.size).all (fun i => ord.contains i) && ascL all ord && linB all [] ord &&
    la.all (fun i => (bs.getD m 0).testBit i) && l3.all (fun i => (bs.getD i 0).testBit m)

structure Heavy (all : Array Oper) (la lb : List Nat) (m : Nat) (l3 : List Nat) : Prop where
  nodup : (la ++ lb ++ (m :: l3)).Nodup
  lt : ∀ i ∈ la ++ lb ++ (m :: l3), i < all.size
  mem : ∀ i, i < all.size → i ∈ la ++ lb ++ (m :: l3)
  asc : AscW all (la ++ lb ++ (m :: l3))
  lin : ∀ p i t, la ++ lb ++ (m :: l3) = p ++ i :: t → ∀ j, Pre all j i → j ∈ p
  a : ∀ i ∈ la, Pre all i m
  c : ∀ i ∈ l3, Pre all m i
theorem heavy_of {all : Array Oper} {la lb : List Nat} {m : Nat} {l3 : List Nat} (h : heavyOk all la lb m l3 = true) : Heavy all la lb m l3 := by
  unfold heavyOk at h
  simp only [Bool.and_eq_true] at h
  obtain ⟨⟨⟨⟨⟨⟨h1, h2⟩, h3⟩, h4⟩, h5⟩, h6⟩, h7⟩ := h
  refine ⟨nodupB_spec h1, fun i hi => Nat.le_of_ble_eq_true (List.all_eq_true.1 h2 i hi), fun i hi => ?_, ascL_spec h4, ?_, fun i hi => bits_pre (List.all_eq_true.1 h6 i hi), fun i hi => bits_pre (List.all_eq_true.1 h7 i hi)⟩
  · have := List.all_eq_true.1 h3 i (List.mem_range.2 hi)
    simpa using this
  · intro p
    induction p using (measure List.length).wf.induction with
    | _ p ih =>
      intro i t he j hj
      have one : ∀ o, all[i]? = some o → ∀ e ∈ o.after, Region.binds .any e = true → e.on ∈ p := fun o ho e hed hb => by
        rcases linB_spec h5 p i t he o ho e hed hb with h | h
        · exact h
        · cases h
      cases hj with
      | one hi he' hb hon => exact hon ▸ one _ hi _ he' hb
      | more hi he' hb hk hj' =>
        have hkp := hk ▸ one _ hi _ he' hb
        obtain ⟨p1, p2, rfl⟩ := List.append_of_mem hkp
        have := ih p1 (by simp [InvImage, WellFoundedRelation.rel]) _ (p2 ++ i :: t) (by rw [he]; simp) j hj'
        exact List.mem_append.2 (.inl this)

theorem split_unique {p p' t t' : List Nat} {i : Nat} (h : p ++ i :: t = p' ++ i :: t') (hp : i ∉ p) (hp' : i ∉ p') : p = p' := by
  induction p generalizing p' with
  | nil => cases p' with
    | nil => rfl
    | cons x r =>
      simp only [List.nil_append, List.cons_append, List.cons.injEq] at h
      exact absurd (h.1 ▸ List.mem_cons_self ..) hp'
  | cons y q ih => cases p' with
    | nil =>
      simp only [List.nil_append, List.cons_append, List.cons.injEq] at h
      exact absurd (h.1 ▸ List.mem_cons_self ..) hp
    | cons x r =>
      simp only [List.cons_append, List.cons.injEq] at h
      obtain ⟨rfl, h2⟩ := h
      rw [ih h2 (fun hh => hp (List.mem_cons_of_mem _ hh)) (fun hh => hp' (List.mem_cons_of_mem _ hh))]

/-- A region that draws its order, with one operation that turns memory: those that it waits for ('la'), those that have nothing to do with it ('lb'), those that wait for it ('l3'). -/
theorem swp_draw1 {P : Program} {r : Option Nat} {F : Heap} {n : Nat} {Q : SPost} {env : Env} {own ownM ownC : List Heap} {ds : List Deferred} {id : Nat} {ops : Array Oper} {la lb l3 : List Nat} {m : Nat} {om : Oper} {R : Value → List Heap → Prop}
    (hok : dok ops = true) (hac : acyOk ops = true) (hv : Heavy ops la lb m l3) (hdst : ∀ (i d : Nat), (ops[i]?).bind (·.dst) = some d → d < n) (hperm : own.Perm (ownM ++ ownC)) (hom : ops[m]? = some om)
    (h : QOps P F n ops own (fun env1 => QOps P F n ops ownC (fun env2 => wantedE ops env2 om = some true ∧ HOp P ownM n om env2 R ∧
      ∀ v own', R v own' → QOps P F n ops (own' ++ ownC) (fun env3 => Q .normal env3 (own' ++ ownC) ds) l3 (match (ops[m]?).bind (·.dst) with | some d => (d, v) :: env2 | none => env2)) lb env1) la env) :
    SWP P r F n (.region id ops true) Q env own ds := by
  intro a0 w0 ha0 hd0 hs0
  refine wpIn_region_draw fun t => ?_
  obtain ⟨md, t', hmd, hsch⟩ := schedule_mode (mixed := P.follows .mixedOrders) hac t
  rw [hsch]
  obtain ⟨hnab, hnm3, hdis⟩ := List.nodup_append.1 hv.nodup
  obtain ⟨hna, hnb, hdab⟩ := List.nodup_append.1 hnab
  obtain ⟨hm3, hn3⟩ := List.nodup_cons.1 hnm3
  obtain ⟨vsa, ca, K1⟩ := qops_split hna h
  obtain ⟨vsb, cb, hwm, hop, hnext⟩ := qops_split hnb K1
  clear h K1
  let at_ : (Nat → Value) → (Nat → Bool) → Nat → Option Value := fun val L s => match lastW ops L s ops.size with | some j => some (val j) | none => a0.tmps[s]?
  have envA : ∀ {val : Nat → Value}, (∀ j ∈ la, val j = vsa j) → ∀ p, (∀ j ∈ p, j ∈ la) → envL ops val p env = envL ops vsa p env := fun hva p hp => envL_congr fun j hj => hva j (hp j hj)
  have envB : ∀ {val : Nat → Value}, (∀ j ∈ la, val j = vsa j) → (∀ j ∈ lb, val j = vsb j) → ∀ p, (∀ j ∈ p, j ∈ lb) → envL ops val (la ++ p) env = envL ops vsb p (envL ops vsa la env) := fun hva hvb p hp => by
    rw [envL_append, envA hva la fun _ h => h]; exact envL_congr fun j hj => hvb j (hp j hj)
  let Inv : Array Bool → Act → World → Prop := fun L a w => L.size = ops.size ∧ a.tmps.size = n ∧ a.defers = ds ∧
    (∀ i o, L.getD i false = true → ops[i]? = some o → ∀ e ∈ o.after, Region.binds .any e = true → L.getD e.on false = true) ∧
    ∃ val : Nat → Value, (∀ j ∈ la, val j = vsa j) ∧ (∀ j ∈ lb, val j = vsb j) ∧ (∀ s, s < n → a.tmps[s]? = at_ val (fun i => L.getD i false) s) ∧
      ((L.getD m false = false ∧ Sat (F :: own) w) ∨ (L.getD m false = true ∧ ∃ own', R (val m) own' ∧ Sat (F :: (own' ++ ownC)) w ∧
        (∀ p i t, l3 = p ++ i :: t → ∃ o, ops[i]? = some o ∧ condAt P F n ops (own' ++ ownC) (envL ops val (la ++ lb ++ (m :: p)) env) o (val i)) ∧ Q .normal (envL ops val (la ++ lb ++ (m :: l3)) env) (own' ++ ownC) ds))
  -- a frame that has what a list of operations has laid
  have hhas : ∀ {val : Nat → Value} {a : Act}, a.tmps.size = n → ∀ p, (∃ t, la ++ lb ++ (m :: l3) = p ++ t) → (∀ s, s < n → a.tmps[s]? = at_ val (fun j => p.contains j) s) → Has n (envL ops val p env) a := by
    intro val a hsz p ⟨t, hpt⟩ ht
    have hasc : AscW ops p := by have := hv.asc; rw [hpt] at this; exact (List.pairwise_append.1 this).1
    have hlt : ∀ i ∈ p, i < ops.size := fun i hi => hv.lt i (by rw [hpt]; exact List.mem_append.2 (.inl hi))
    refine ⟨hsz, fun s u hu => ?_⟩
    rw [look_envL p hasc hlt] at hu
    by_cases hs : s < n
    · rw [ht s hs]
      simp only [at_]
      cases hl : lastW ops (fun j => p.contains j) s ops.size with
      | some j => rw [hl] at hu; exact hu
      | none => rw [hl] at hu; exact ha0.get s u hu
    · exfalso
      cases hl : lastW ops (fun j => p.contains j) s ops.size with
      | some j => exact hs (hdst j s (lastW_isW hl).2.1)
      | none =>
        rw [hl] at hu
        have := ha0.get s u hu
        rw [Array.getElem?_eq_none (by rw [ha0.size]; omega)] at this; cases this
  have hend : ∀ L a w, Inv L a w → (∀ i, i < ops.size → L.getD i false = true) → Lift F n Q .normal a w := by
    intro L a w ⟨h1, h2, h3, h4, val, h5, h6, h7, h8⟩ hall
    have hmlt : m < ops.size := hv.lt m (by simp)
    rcases h8 with ⟨h8, -⟩ | ⟨h8, own', hR, hs, hc, hQ⟩
    · rw [hall m hmlt] at h8; cases h8
    · refine ⟨by simp, _, _, hhas (val := val) h2 (la ++ lb ++ (m :: l3)) ⟨[], by simp⟩ (fun s hs => ?_), hs, h3 ▸ hQ⟩
      rw [h7 s hs]
      simp only [at_]
      rw [lastW_congr (L := fun i => L.getD i false) (L' := fun j => (la ++ lb ++ (m :: l3)).contains j) fun j hj _ => by rw [hall j hj]; simpa using hv.mem j hj]
  have hempty : ∀ L a w, Inv L a w → Region.ready md ops L = [] → ∀ i, i < ops.size → L.getD i false = true := fun L a w hI hr => topo_listed hmd hI.1 hr
  have key : ∀ fuel L a w, Inv L a w → fuel + cnt L ops.size = ops.size → wpAnyIn (fen r) 0 P md ops (Lift F n Q) fuel L a w := by
    intro fuel
    induction fuel with
    | zero =>
      intro L a w hI hf
      have hall := cnt_full ops.size (by omega : cnt L ops.size = ops.size)
      refine ⟨?_, hend L a w hI hall⟩
      unfold Region.ready
      rw [List.filter_eq_nil_iff]
      intro i hi
      have hi' := List.mem_range.1 hi
      have hL := hall i hi'
      have hLt : L.getD i true = true := by
        have hlt : i < L.size := by rw [hI.1]; exact hi'
        simp only [Array.getD, hlt, dif_pos] at hL ⊢; exact hL
      simp [hLt]
    | succ fuel ih =>
      intro L a w hI hf
      refine ⟨fun hr => hend L a w hI (hempty L a w hI hr), fun i hi => ?_⟩
      obtain ⟨h1, h2, h3, h4, val, h5, h6, h7, h8⟩ := hI
      unfold Region.ready at hi
      rw [List.mem_filter] at hi
      obtain ⟨hi1, hi2⟩ := hi
      have hi1 := List.mem_range.1 hi1
      have hilt : i < L.size := by omega
      have hio : ops[i]? = some ops[i] := Array.getElem?_eq_getElem hi1
      simp only [hio, Option.map_some, Option.getD_some, Bool.and_eq_true, Bool.not_eq_true', Array.all_eq_true'] at hi2
      obtain ⟨hnl, hrd⟩ := hi2
      have hnl' : L.getD i false = false := by simp only [Array.getD, hilt, dif_pos] at hnl ⊢; exact hnl
      have hrd' : ∀ e ∈ ops[i].after, Region.binds .any e = true → L.getD e.on false = true := fun e he hb => by
        have := hrd e he; rw [binds_any hb] at this; simpa using this
      have hready : ∀ j, Pre ops j i → L.getD j false = true := fun j hj => hj.ready (L := fun j => L.getD j false) h4 hio hrd'
      have hlisted : ∀ j k, Pre ops j k → L.getD k false = true → L.getD j false = true := fun j k hj => hj.listed (L := fun j => L.getD j false) h4
      obtain ⟨p, t, hpt⟩ := List.append_of_mem (hv.mem i hi1)
      have hip : i ∉ p := fun hip => by
        have := hv.nodup; rw [hpt] at this
        exact (List.nodup_append.1 this).2.2 i hip i (List.mem_cons_self ..) rfl
      have hsame : ∀ s ∈ readsOf ops ops[i], lastW ops (fun j => L.getD j false) s ops.size = lastW ops (fun j => p.contains j) s ops.size := by
        intro s hs
        refine lastW_congr fun j hj hw => ?_
        by_cases e : j = i
        · subst e; rw [hnl']; simpa using hip
        · rcases dok_spec hok hio hs hw e with ⟨g1, g2⟩ | ⟨g1, g2⟩
          · rw [hready j g2]; simpa using hv.lin p i t hpt j g2
          · have hf1 : L.getD j false = false := by
              cases hx : L.getD j false with
              | false => rfl
              | true => have := hlisted i j g2 hx; rw [hnl'] at this; cases this
            have hf2 : j ∉ p := fun hjp => by
              obtain ⟨p1, p2, rfl⟩ := List.append_of_mem hjp
              have := hv.lin p1 j (p2 ++ i :: t) (by rw [hpt]; simp) i g2
              exact hip (List.mem_append.2 (.inl this))
            rw [hf1]; simpa using hf2
      let a'' : Act := { tmps := Array.ofFn (n := n) fun s => (at_ val (fun j => p.contains j) s.val).getD undef, defers := ds }
      have hat : ∀ s, s < n → a''.tmps[s]? = at_ val (fun j => p.contains j) s := by
        intro s hs
        simp only [a'']
        rw [Array.getElem?_eq_getElem (by simpa using hs)]
        simp only [Array.getElem_ofFn]
        simp only [at_]
        cases hl : lastW ops (fun j => p.contains j) s ops.size with
        | some j => rfl
        | none =>
          simp only []
          rw [Array.getElem?_eq_getElem (by rw [ha0.size]; exact hs)]; rfl
      have ha'' : Has n (envL ops val p env) a'' := hhas (by simp [a'']) p ⟨i :: t, hpt⟩ hat
      have hlook : ∀ s ∈ (ops[i]).looksAt ops, a.tmps[s]? = a''.tmps[s]? := by
        intro s hs
        by_cases hsn : s < n
        · rw [h7 s hsn, hat s hsn]
          simp only [at_]
          rw [hsame s (List.mem_append.2 (.inl hs))]
        · have hge : n ≤ s := Nat.not_lt.1 hsn
          rw [Array.getElem?_eq_none (by rw [h2]; exact hge), Array.getElem?_eq_none (by simpa [a''] using hge)]
      -- what stands in the slots behind it
      have hslots : ∀ (val' : Nat → Value) (u : Value), val' i = u → (∀ j, L.getD j false = true → val' j = val j) → ∀ s, s < n → (a.put (ops[i]).dst u).tmps[s]? = at_ val' (fun j => (L.setIfInBounds i true).getD j false) s := by
        intro val' u hu hsm s hs
        by_cases hd : (ops[i]).dst = some s
        · have hmem : s ∈ readsOf ops ops[i] := List.mem_append.2 (.inr (by rw [hd]; simp))
          have hl : lastW ops (fun j => (L.setIfInBounds i true).getD j false) s ops.size = some i := by
            rw [lastW_none_above (i := i + 1) (by omega) (L := fun j => (L.setIfInBounds i true).getD j false) (fun j g1 g2 g3 g4 => ?_)]
            · simp only [lastW, getD_set hilt, if_true, Bool.true_and, hio, Option.bind_some, hd]; simp
            · rw [getD_set hilt, if_neg (by omega)] at g3
              rcases dok_spec hok hio hmem g4 (by omega) with ⟨g5, g6⟩ | ⟨g5, g6⟩
              · omega
              · have := hlisted i j g6 g3
                rw [hnl'] at this; cases this
          simp only [at_, hl]
          rw [hd, hu]
          simp only [Act.put]
          simp [h2, hs]
        · have hl : lastW ops (fun j => (L.setIfInBounds i true).getD j false) s ops.size = lastW ops (fun j => L.getD j false) s ops.size := by
            refine lastW_congr fun j hj hw => ?_
            rw [getD_set hilt]
            by_cases e : j = i
            · subst e; rw [hio] at hw; exact absurd hw hd
            · rw [if_neg e]
          have h7s := h7 s hs
          have hput : (a.put (ops[i]).dst u).tmps[s]? = a.tmps[s]? := by
            cases hd' : (ops[i]).dst with
            | none => rfl
            | some d =>
              have : d ≠ s := fun e => hd (e ▸ hd')
              simp only [Act.put]
              rw [Array.getElem?_setIfInBounds_ne this]
          rw [hput, h7s]
          simp only [at_, hl]
          cases hlw : lastW ops (fun j => L.getD j false) s ops.size with
          | none => rfl
          | some j => simp only []; rw [hsm j (lastW_isW hlw).1]
      have hdown : ∀ j o, (L.setIfInBounds i true).getD j false = true → ops[j]? = some o → ∀ e ∈ o.after, Region.binds .any e = true → (L.setIfInBounds i true).getD e.on false = true := by
        intro j o hj ho e he hb
        rw [getD_set hilt] at hj ⊢
        by_cases e' : e.on = i
        · rw [if_pos e']
        · rw [if_neg e']
          by_cases ej : j = i
          · subst ej; rw [hio] at ho; cases ho; exact hrd' e he hb
          · rw [if_neg ej] at hj; exact h4 j o hj ho e he hb
      have hcnt : fuel + cnt (L.setIfInBounds i true) ops.size = ops.size := by rw [cnt_set hilt hnl', if_pos hi1]; omega
      have hsz2 : ∀ u, (a.put (ops[i]).dst u).tmps.size = n := fun u => by cases (ops[i]).dst <;> simp [Act.put, h2]
      have hdf2 : ∀ u, (a.put (ops[i]).dst u).defers = ds := fun u => by cases (ops[i]).dst <;> simp [Act.put, h3]
      -- one that is quiet
      have quiet : ∀ {own1 Y : List Heap} {u : Value}, condAt P F n ops own1 (envL ops val p env) ops[i] u → Sat (F :: own1 ++ Y) w →
          (∀ w', Sat (F :: own1 ++ Y) w' → wpAnyIn (fen r) 0 P md ops (Lift F n Q) fuel (L.setIfInBounds i true) (a.put (ops[i]).dst u) w') →
          wpOpIn (fen r) 0 P ops (Lift F n Q) i (wpAnyIn (fen r) 0 P md ops (Lift F n Q) fuel (L.setIfInBounds i true)) a w := by
        intro own1 Y u hc hs hk
        rcases hc.1 with ⟨hg, hvv⟩ | ⟨hg, hu, hp⟩
        · simp only [wpOpIn, hio, (wanted_looks hlook).trans (wanted_of ha'' hg), if_true]
          refine ⟨fun f _ => by simp, ?_⟩
          rw [fen_round, semAt_plain hvv.1, eval_looks hlook (dok_plain hok hio)]
          obtain ⟨w', s', g1 | ⟨g1, rfl⟩ | ⟨f, args, g1, g2⟩⟩ := hvv.2 a'' w Y ha'' hs
          · rw [g1]; exact hk w' s'
          · rw [g1]; exact hk w' s'
          · rw [g1]
            refine ⟨fun hx => by simp at hx, (callsIn_fen _ g2).mono ?_⟩
            rintro e w'' ⟨rfl, s2⟩
            exact hk w'' s2
        · simp only [wpOpIn, hio, (wanted_looks hlook).trans (wanted_of ha'' hg)]
          refine ⟨fun f _ => by simp, ?_⟩
          rw [← hu]; exact hk w hs
      have hmem : i ∈ la ∨ i ∈ lb ∨ i = m ∨ i ∈ l3 := by
        have := hv.mem i hi1
        simp only [List.mem_append, List.mem_cons] at this
        rcases this with (h | h) | h | h
        · exact .inl h
        · exact .inr (.inl h)
        · exact .inr (.inr (.inl h))
        · exact .inr (.inr (.inr h))
      have hmne : ∀ {x : Nat}, x ∈ la ∨ x ∈ lb → x ≠ m := fun {x} hx e => by
        subst e
        have : x ∈ la ++ lb := by simpa using hx
        exact hdis x this x (List.mem_cons_self ..) rfl
      rcases hmem with hia | hib | him | hi3
      · -- the heavy one waits for it
        have hLm : L.getD m false = false := by
          cases hx : L.getD m false with
          | false => rfl
          | true => have := hlisted i m (hv.a i hia) hx; rw [hnl'] at this; cases this
        have hs : Sat (F :: own) w := by rcases h8 with ⟨-, h8⟩ | ⟨h8, -⟩
                                         · exact h8
                                         · rw [hLm] at h8; cases h8
        obtain ⟨p1, t1, hp1⟩ := List.append_of_mem hia
        have hpe : p = p1 := by
          have e1 : la ++ lb ++ (m :: l3) = p1 ++ i :: (t1 ++ lb ++ (m :: l3)) := by rw [hp1]; simp
          exact (split_unique (hpt.symm.trans e1) hip (fun h => by have := hna; rw [hp1] at this; exact (List.nodup_append.1 this).2.2 i h i (List.mem_cons_self ..) rfl))
        subst hpe
        obtain ⟨o, ho, hc⟩ := ca p i t1 hp1
        rw [hio] at ho; cases ho
        rw [← envA h5 p (fun j hj => by rw [hp1]; exact List.mem_append.2 (.inl hj))] at hc
        refine quiet (Y := []) hc (by simpa using hs) fun w' s' => ?_
        refine ih _ _ _ ⟨by simpa using h1, hsz2 _, hdf2 _, hdown, val, h5, h6, hslots val _ (h5 i hia) (fun _ _ => rfl), .inl ⟨?_, by simpa using s'⟩⟩ hcnt
        rw [getD_set hilt, if_neg (fun e => hmne (.inl hia) e.symm)]; exact hLm
      · obtain ⟨p1, t1, hp1⟩ := List.append_of_mem hib
        have hpe : p = la ++ p1 := by
          have e1 : la ++ lb ++ (m :: l3) = (la ++ p1) ++ i :: (t1 ++ (m :: l3)) := by rw [hp1]; simp
          refine split_unique (hpt.symm.trans e1) hip (fun h => ?_)
          rcases List.mem_append.1 h with h | h
          · exact hdab i h i hib rfl
          · have := hnb; rw [hp1] at this; exact (List.nodup_append.1 this).2.2 i h i (List.mem_cons_self ..) rfl
        subst hpe
        obtain ⟨o, ho, hc⟩ := cb p1 i t1 hp1
        rw [hio] at ho; cases ho
        rw [← envB h5 h6 p1 (fun j hj => by rw [hp1]; exact List.mem_append.2 (.inl hj))] at hc
        have hLm' : (L.setIfInBounds i true).getD m false = L.getD m false := by rw [getD_set hilt, if_neg (fun e => hmne (.inr hib) e.symm)]
        rcases h8 with ⟨hLm, hs⟩ | ⟨hLm, own', hR, hs, hc3, hQ⟩
        · have pp : (F :: own).Perm (F :: ownC ++ ownM) := (hperm.trans List.perm_append_comm).cons F
          refine quiet (Y := ownM) hc (hs.perm pp) fun w' s' => ?_
          exact ih _ _ _ ⟨by simpa using h1, hsz2 _, hdf2 _, hdown, val, h5, h6, hslots val _ (h6 i hib) (fun _ _ => rfl), .inl ⟨by rw [hLm']; exact hLm, s'.perm pp.symm⟩⟩ hcnt
        · have pp : (F :: (own' ++ ownC)).Perm (F :: ownC ++ own') := (List.perm_append_comm (l₁ := own') (l₂ := ownC)).cons F
          refine quiet (Y := own') hc (hs.perm pp) fun w' s' => ?_
          exact ih _ _ _ ⟨by simpa using h1, hsz2 _, hdf2 _, hdown, val, h5, h6, hslots val _ (h6 i hib) (fun _ _ => rfl), .inr ⟨by rw [hLm']; exact hLm, own', hR, s'.perm pp.symm, hc3, hQ⟩⟩ hcnt
      · subst him
        have hs : Sat (F :: own) w := by rcases h8 with ⟨-, h8⟩ | ⟨h8, -⟩
                                         · exact h8
                                         · rw [hnl'] at h8; cases h8
        have hpe : p = la ++ lb := split_unique hpt.symm hip (fun h => hdis i h i (List.mem_cons_self ..) rfl)
        subst hpe
        rw [hio] at hom; cases hom
        rw [← envB h5 h6 lb (fun _ h => h)] at hwm hop hnext
        have pp : (F :: own).Perm (ownM ++ (ownC ++ [F])) := (hperm.cons F).trans (by rw [← List.append_assoc]; exact List.perm_append_comm (l₁ := [F]) (l₂ := ownM ++ ownC))
        refine hop_wp hop hio ((wanted_looks hlook).trans (wanted_of ha'' hwm)) ha'' (eval_looks hlook (dok_plain hok hio)) (hs.perm pp) fun v own' w' hR s' => ?_
        obtain ⟨vsc, cc, hQ⟩ := qops_split hn3 (hnext v own' hR)
        have s2 : Sat (F :: (own' ++ ownC)) w' := s'.perm (by rw [← List.append_assoc]; exact List.perm_append_comm (l₁ := own' ++ ownC) (l₂ := [F]))
        let val' : Nat → Value := fun j => if j = i then v else if j ∈ l3 then vsc j else val j
        have n3 : ∀ {j}, j ∈ la ∨ j ∈ lb → val' j = val j := fun {j} hj => by
          simp only [val']
          rw [if_neg (hmne hj), if_neg (fun h3 => hdis j (by simpa using hj) j (List.mem_cons_of_mem _ h3) rfl)]
        have vi : val' i = v := by simp [val']
        have v3 : ∀ j ∈ l3, val' j = vsc j := fun j hj => by
          simp only [val']
          rw [if_neg (fun e => by subst e; exact hm3 hj), if_pos hj]
        have env3 : ∀ q, (∀ j ∈ q, j ∈ l3) → envL ops val' (la ++ lb ++ (i :: q)) env = envL ops vsc q (match (ops[i]?).bind (·.dst) with | some d => (d, v) :: envL ops val (la ++ lb) env | none => envL ops val (la ++ lb) env) := fun q hq => by
          rw [envL_append]
          simp only [envL]
          rw [vi, envL_congr (l := la ++ lb) (vs := val') (vs' := val) (fun j hj => n3 (by simpa using hj))]
          exact envL_congr fun j hj => v3 j (hq j hj)
        refine ih _ _ _ ⟨by simpa using h1, hsz2 _, hdf2 _, hdown, val', fun j hj => (n3 (.inl hj)).trans (h5 j hj), fun j hj => (n3 (.inr hj)).trans (h6 j hj), hslots val' v vi (fun j hj => ?_), .inr ⟨by rw [getD_set hilt, if_pos rfl], own', by rw [vi]; exact hR, s2, fun q j u hq => ?_, ?_⟩⟩ hcnt
        · -- what is listed by now is ahead
          have hjlt : j < ops.size := by
            rcases Nat.lt_or_ge j L.size with h | h
            · omega
            · simp only [Array.getD, Nat.not_lt.2 h, dif_neg, not_false_eq_true] at hj; cases hj
          have := hv.mem j hjlt
          simp only [List.mem_append, List.mem_cons] at this
          rcases this with h | h | h
          · exact n3 h
          · subst h; rw [hnl'] at hj; cases hj
          · have := hlisted i j (hv.c j h) hj; rw [hnl'] at this; cases this
        · obtain ⟨o, ho, hc⟩ := cc q j u hq
          refine ⟨o, ho, ?_⟩
          rw [env3 q (fun x hx => by rw [hq]; exact List.mem_append.2 (.inl hx)), v3 j (by rw [hq]; exact List.mem_append.2 (.inr (List.mem_cons_self ..)))]
          exact hc
        · rw [env3 l3 (fun _ h => h)]; exact hQ
      · have hLm := hready m (hv.c i hi3)
        obtain ⟨p1, t1, hp1⟩ := List.append_of_mem hi3
        have hpe : p = la ++ lb ++ (m :: p1) := by
          have e1 : la ++ lb ++ (m :: l3) = (la ++ lb ++ (m :: p1)) ++ i :: t1 := by rw [hp1]; simp
          refine split_unique (hpt.symm.trans e1) hip (fun h => ?_)
          rcases List.mem_append.1 h with h | h
          · exact hdis i h i (List.mem_cons_of_mem _ hi3) rfl
          · rcases List.mem_cons.1 h with h | h
            · subst h; exact hm3 hi3
            · have := hn3; rw [hp1] at this; exact (List.nodup_append.1 this).2.2 i h i (List.mem_cons_self ..) rfl
        subst hpe
        rcases h8 with ⟨h8, -⟩ | ⟨-, own', hR, hs, hc3, hQ⟩
        · rw [hLm] at h8; cases h8
        · obtain ⟨o, ho, hc⟩ := hc3 p1 i t1 hp1
          rw [hio] at ho; cases ho
          refine quiet (Y := []) hc (by simpa using hs) fun w' s' => ?_
          refine ih _ _ _ ⟨by simpa using h1, hsz2 _, hdf2 _, hdown, val, h5, h6, hslots val _ rfl (fun _ _ => rfl), .inr ⟨?_, own', hR, by simpa using s', hc3, hQ⟩⟩ hcnt
          rw [getD_set hilt]; split
          · rfl
          · exact hLm
  have hrep : ∀ j, (Array.replicate ops.size false).getD j false = false := fun j => by
    rw [Array.getD_eq_getD_getElem?, Array.getElem?_replicate]; split <;> rfl
  refine wpAnyIn_sound ops.size t' (Array.replicate ops.size false) a0 _ (key ops.size _ a0 _ ⟨by simp, ha0.size, hd0, fun i o hi => ?_, fun j => if j ∈ la then vsa j else vsb j, fun j hj => if_pos hj, fun j hj => if_neg (fun h => hdab j h j hj rfl), fun s hs => ?_, .inl ⟨hrep m, hs0.heap rfl rfl rfl⟩⟩ ?_)
  · rw [hrep] at hi; cases hi
  · have hz : ∀ k, lastW ops (fun j => (Array.replicate ops.size false).getD j false) s k = none := by
      intro k
      induction k with
      | zero => rfl
      | succ k ih =>
        simp only [hrep] at ih
        simp only [lastW, hrep, Bool.false_and, Bool.false_eq_true, if_false]
        exact ih
    simp only [at_, hz]
  · have : ∀ k, cnt (Array.replicate ops.size false) k = 0 := by
      intro k
      unfold cnt
      rw [List.length_eq_zero_iff, List.filter_eq_nil_iff]
      intro i _
      simp [hrep]
    rw [this]; omega
end Go.SL
