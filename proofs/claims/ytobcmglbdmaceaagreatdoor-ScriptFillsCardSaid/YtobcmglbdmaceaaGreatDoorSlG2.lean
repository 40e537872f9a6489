/- A region that draws its order, with one operation that turns memory. -/
import Derived.Test.YtobcmglbdmaceaaGreatDoorSlG1
import Derived.RangeFuncRecord
import Derived.Laws.StructEq
import Derived.RowKit3
import Derived.Deep.Slices
import Derived.WideKeyArgs
import Derived.ProofKit
import Derived.OpenShut
set_option linter.unusedVariables false
set_option linter.unusedSimpArgs false
set_option linter.unusedSectionVars false
section
namespace Go.SL

/-- An operation that turns the heaps 'hs': what it hands back, and what it leaves. -/
def HOp (P : Program) (hs : List Heap) (n : Nat) (o : Oper) (env : Env) (R : Value → List Heap → Prop) : Prop :=
  plainOp o.op = true ∧ ∀ a w X, Has n env a → Sat (hs ++ X) w → ∃ w',
    (∃ v own, (execOp a.eval o).run P w = .ok (.value v) w' ∧ Sat (own ++ X) w' ∧ R v own) ∨
    (∃ own, (execOp a.eval o).run P w = .ok .skip w' ∧ Sat (own ++ X) w' ∧ R undef own) ∨
    (∃ f args, (execOp a.eval o).run P w = .ok (.enter f args) w' ∧ Calls P f args w' fun e w'' => ∃ v own, e = .returned v ∧ Sat (own ++ X) w'' ∧ R v own) ∨
    (∃ L f tmps assign body, (execOp a.eval o).run P w = .ok (.round L f tmps assign body) w' ∧ ∀ r, RoundIn (fen r) 0 P L f tmps assign body w' fun e w'' => ∃ v own, e = .returned v ∧ Sat (own ++ X) w'' ∧ R v own)

theorem hop_wp {P : Program} {r : Option Nat} {hs X : List Heap} {n : Nat} {o : Oper} {env : Env} {R : Value → List Heap → Prop} (h : HOp P hs n o env R)
    {all : Array Oper} {Q : Exit → Act → World → Prop} {i : Nat} {K : Act → World → Prop} {a : Act} {w : World} (hi : all[i]? = some o)
    (hw : Region.wanted o (yielded all a.tmps) = true) {a' : Act} (ha : Has n env a') (he : execOp a.eval o = execOp a'.eval o) (hs' : Sat (hs ++ X) w)
    (hk : ∀ v own w', R v own → Sat (own ++ X) w' → K (a.put o.dst v) w') : wpOpIn (fen r) 0 P all Q i K a w := by
  simp only [wpOpIn, hi, hw, if_true]
  refine ⟨fun f _ => by simp, ?_⟩
  rw [fen_round, semAt_plain h.1, he]
  obtain ⟨w', ⟨v, own, h1, h2, h3⟩ | ⟨own, h1, h2, h3⟩ | ⟨f, args, h1, h2⟩ | ⟨L, f, tmps, as, body, h1, h2⟩⟩ := h.2 a' w X ha hs'
  · rw [h1]; exact hk v own w' h3 h2
  · rw [h1]; exact hk undef own w' h3 h2
  · rw [h1]
    refine ⟨fun hx => by simp at hx, (callsIn_fen _ h2).mono ?_⟩
    rintro e w'' ⟨v, own, rfl, s2, hR⟩
    exact hk v own w'' hR s2
  · rw [h1]
    refine ⟨fun hx => by simp at hx, (h2 r).mono ?_⟩
    rintro e w'' ⟨v, own, rfl, s2, hR⟩
    exact hk v own w'' hR s2

/-! ### Orders -/
def envL (all : Array Oper) (vs : Nat → Value) : List Nat → Env → Env
  | [], env => env
  | i :: l, env => envL all vs l (match (all[i]?).bind (·.dst) with | some d => (d, vs i) :: env | none => env)
theorem envL_snoc {all : Array Oper} {vs : Nat → Value} : ∀ {l : List Nat} {i : Nat} {env : Env}, envL all vs (l ++ [i]) env = (match (all[i]?).bind (·.dst) with | some d => (d, vs i) :: envL all vs l env | none => envL all vs l env) := by
  intro l
  induction l with
  | nil => intro i env; rfl
  | cons j l ih => intro i env; simp only [List.cons_append, envL]; exact ih
theorem envL_append {all : Array Oper} {vs : Nat → Value} : ∀ {l l' : List Nat} {env : Env}, envL all vs (l ++ l') env = envL all vs l' (envL all vs l env) := by
  intro l
  induction l with
  | nil => intro l' env; rfl
  | cons j l ih => intro l' env; simp only [List.cons_append, envL]; exact ih
theorem envL_congr {all : Array Oper} {vs vs' : Nat → Value} : ∀ {l : List Nat} {env : Env}, (∀ i ∈ l, vs i = vs' i) → envL all vs l env = envL all vs' l env := by
  intro l
  induction l with
  | nil => intro env _; rfl
  | cons j l ih =>
    intro env h
    simp only [envL]
    rw [h j (List.mem_cons_self ..), ih fun i hi => h i (List.mem_cons_of_mem _ hi)]

theorem lastW_isW {all : Array Oper} {L : Nat → Bool} {s j : Nat} : ∀ {m : Nat}, lastW all L s m = some j → L j = true ∧ (all[j]?).bind (·.dst) = some s ∧ j < m := by
  intro m
  induction m with
  | zero => intro h; cases h
  | succ m ih =>
    intro h
    simp only [lastW] at h
    split at h
    · cases h; rename_i h2; simp only [Bool.and_eq_true, beq_iff_eq] at h2; exact ⟨h2.1, h2.2, by omega⟩
    · obtain ⟨a, b, c⟩ := ih h; exact ⟨a, b, by omega⟩

/-- Those that write one slot stand in the list in their own order. -/
def AscW (all : Array Oper) (l : List Nat) : Prop := l.Pairwise fun k k' => ∀ s, (all[k]?).bind (·.dst) = some s → (all[k']?).bind (·.dst) = some s → k < k'

theorem look_envL {all : Array Oper} {vs : Nat → Value} {env : Env} {s : Nat} (l : List Nat) (ha : AscW all l) (hl : ∀ i ∈ l, i < all.size) :
    look (envL all vs l env) s = match lastW all (fun j => l.contains j) s all.size with | some j => some (vs j) | none => look env s := by
  suffices h : ∀ k : List Nat, AscW all k.reverse → (∀ i ∈ k.reverse, i < all.size) → look (envL all vs k.reverse env) s = match lastW all (fun j => k.reverse.contains j) s all.size with | some j => some (vs j) | none => look env s by
    have := h l.reverse
    rw [List.reverse_reverse] at this
    exact this ha hl
  clear ha hl l
  intro k
  induction k with
  | nil =>
    intro _ _
    simp only [List.reverse_nil]
    have : ∀ m, lastW all (fun j => ([] : List Nat).contains j) s m = none := by
      intro m
      induction m with
      | zero => rfl
      | succ m ih => simp only [lastW, ih]; simp
    rw [this]; rfl
  | cons i k ih =>
    rw [List.reverse_cons]
    generalize k.reverse = l at ih ⊢
    intro hasc hlt
    rw [envL_snoc]
    have hasc' := List.pairwise_append.1 hasc
    have ih' := ih hasc'.1 (fun j hj => hlt j (List.mem_append.2 (.inl hj)))
    have hi := hlt i (List.mem_append.2 (.inr (List.mem_singleton.2 rfl)))
    by_cases hd : (all[i]?).bind (·.dst) = some s
    · have hl : lastW all (fun j => (l ++ [i]).contains j) s all.size = some i := by
        rw [lastW_none_above (i := i + 1) (by omega) (fun j g1 g2 g3 g4 => ?_)]
        · simp only [lastW]
          rw [if_pos (by simp [hd])]
        · simp only [List.contains_eq_mem, decide_eq_true_eq, List.mem_append, List.mem_singleton] at g3
          rcases g3 with g3 | g3
          · have := hasc'.2.2 j g3 i (List.mem_singleton.2 rfl) s g4 hd
            omega
          · omega
      rw [hl, hd]
      simp [look_cons_self]
    · have hl : lastW all (fun j => (l ++ [i]).contains j) s all.size = lastW all (fun j => l.contains j) s all.size := by
        refine lastW_congr fun j _ hw => ?_
        have : j ≠ i := fun e => by subst e; exact hd hw
        simp [this]
      rw [hl, ← ih']
      cases hd' : (all[i]?).bind (·.dst) with
      | none => rfl
      | some d =>
        have : d ≠ s := fun e => hd (e ▸ hd')
        exact look_cons_ne _ _ this

theorem qops_split {P : Program} {F : Heap} {n : Nat} {all : Array Oper} {own : List Heap} {K : Env → Prop} : ∀ {l : List Nat} {env : Env}, l.Nodup → QOps P F n all own K l env →
    ∃ vs : Nat → Value, (∀ p i t, l = p ++ i :: t → ∃ o, all[i]? = some o ∧ condAt P F n all own (envL all vs p env) o (vs i)) ∧ K (envL all vs l env) := by
  intro l
  induction l with
  | nil => intro env _ h; exact ⟨fun _ => undef, fun p i t e => by simp at e, h⟩
  | cons i l ih =>
    intro env hnd h
    simp only [QOps] at h
    obtain ⟨o, v, hi, hc, hd, hrest⟩ := h
    obtain ⟨hni, hnd'⟩ := List.nodup_cons.1 hnd
    have hrest' : QOps P F n all own K l (match (all[i]?).bind (·.dst) with | some d => (d, v) :: env | none => env) := by rw [hi]; exact hrest
    obtain ⟨vs, h1, h2⟩ := ih hnd' hrest'
    let vs' : Nat → Value := fun j => if j = i then v else vs j
    have hcong : ∀ p, (∀ j ∈ p, j ∈ l) → ∀ env, envL all vs' p env = envL all vs p env := fun p hp env => envL_congr fun j hj => by
      simp only [vs']; rw [if_neg (fun e => by subst e; exact hni (hp _ hj))]
    have hvi : vs' i = v := by simp [vs']
    refine ⟨vs', fun p k t e => ?_, ?_⟩
    · cases p with
      | nil =>
        simp only [List.nil_append, List.cons.injEq] at e
        obtain ⟨rfl, rfl⟩ := e
        exact ⟨o, hi, by rw [hvi]; exact ⟨hc, hd⟩⟩
      | cons j p =>
        simp only [List.cons_append, List.cons.injEq] at e
        obtain ⟨rfl, rfl⟩ := e
        obtain ⟨o', ho', hc'⟩ := h1 p k t rfl
        have hk : k ≠ i := fun e => by subst e; exact hni (by simp)
        have : vs' k = vs k := by simp only [vs']; rw [if_neg hk]
        refine ⟨o', ho', ?_⟩
        rw [this]
        simp only [envL]
        rw [hvi, hcong p (fun j hj => List.mem_append.2 (.inl hj))]
        exact hc'
    · simp only [envL]
      rw [hvi, hcong l (fun _ h => h)]
      exact h2

def ascB (all : Array Oper) (k k' : Nat) : Bool := match (all[k]?).bind (·.dst) with
  | some d => !((all[k']?).bind (·.dst) == some d) || Nat.blt k k'
  | none => true
def ascL (all : Array Oper) : List Nat → Bool
  | [] => true
  | k :: l => l.all (fun k' => ascB all k k') && ascL all l
theorem ascL_spec {all : Array Oper} : ∀ {l : List Nat}, ascL all l = true → AscW all l := by
  intro l
  induction l with
  | nil => intro _; exact List.Pairwise.nil
  | cons k l ih =>
    intro h
    simp only [ascL, Bool.and_eq_true, List.all_eq_true] at h
    refine List.Pairwise.cons (fun k' hk' s h1 h2 => ?_) (ih h.2)
    have := h.1 k' hk'
    unfold ascB at this
    rw [h1] at this
    simp only [h2, beq_self_eq_true, Bool.not_true, Bool.false_or] at this
    exact Nat.le_of_ble_eq_true this
def linB (all : Array Oper) : List Nat → List Nat → Bool
  | _, [] => true
  | seen, i :: l => (match all[i]? with
    | some o => o.after.toList.all fun e => !Region.binds .any e || seen.contains e.on
    | none => false) && linB all (i :: seen) l
theorem linB_spec {all : Array Oper} : ∀ {l seen : List Nat}, linB all seen l = true → ∀ p i t, l = p ++ i :: t → ∀ o, all[i]? = some o → ∀ e ∈ o.after, Region.binds .any e = true → e.on ∈ p ∨ e.on ∈ seen := by
  intro l
  induction l with
  | nil => intro seen _ p i t e; simp at e
  | cons j l ih =>
    intro seen h p i t e o ho ed hed hb
    simp only [linB, Bool.and_eq_true] at h
    cases p with
    | nil =>
      simp only [List.nil_append, List.cons.injEq] at e
      obtain ⟨rfl, rfl⟩ := e
      rw [ho] at h
      simp only [List.all_eq_true, Bool.or_eq_true, Bool.not_eq_true'] at h
      rcases h.1 ed (by simpa using hed) with h1 | h1
      · rw [hb] at h1; cases h1
      · exact .inr (by simpa using h1)
    | cons k p =>
      simp only [List.cons_append, List.cons.injEq] at e
      obtain ⟨rfl, rfl⟩ := e
      rcases ih h.2 p i t rfl o ho ed hed hb with h1 | h1
      · exact .inl (List.mem_cons_of_mem _ h1)
      · rcases List.mem_cons.1 h1 with h1 | h1
        · exact .inl (h1 ▸ List.mem_cons_self ..)
        · exact .inr h1
def nodupB : List Nat → Bool
  | [] => true
  | i :: l => !l.contains i && nodupB l
theorem nodupB_spec : ∀ {l : List Nat}, nodupB l = true → l.Nodup := by
  intro l
  induction l with
  | nil => intro _; exact List.nodup_nil
  | cons i l ih =>
    intro h
    simp only [nodupB, Bool.and_eq_true, Bool.not_eq_true', List.contains_eq_mem, decide_eq_false_iff_not] at h
    exact List.nodup_cons.2 ⟨h.1, ih h.2⟩

def heavyOk (all : Array Oper) (la lb : List Nat) (m : Nat) (l3 : List Nat) : Bool :=
  let ord := la ++ lb ++ (m :: l3)
  let bs := bits all.toList []
  nodupB ord && ord.all (fun i => Nat.blt i all.size) && (List.range all.size).all (fun i => ord.contains i) && ascL all ord && linB all [] ord &&
    la.all (fun i => (bs.getD m 0).testBit i) && l3.all (fun i => (bs.getD i 0).testBit m)

structure Heavy (all : Array Oper) (la lb : List Nat) (m : Nat) (l3 : List Nat) : Prop where
  nodup : (la ++ lb ++ (m :: l3)).Nodup
  lt : ∀ i ∈ la ++ lb ++ (m :: l3), i < all.size
  mem : ∀ i, i < all.size → i ∈ la ++ lb ++ (m :: l3)
  asc : AscW all (la ++ lb ++ (m :: l3))
  lin : ∀ p i t, la ++ lb ++ (m :: l3) = p ++ i :: t → ∀ j, Pre all j i → j ∈ p
  a : ∀ i ∈ la, Pre all i m
  c : ∀ i ∈ l3, Pre all m i
theorem heavy_of {all : Array Oper} {la lb : List Nat} {m : Nat} {l3 : List Nat} (h : heavyOk all la lb m l3 = true) : Heavy all la lb m l3 := by
  unfold heavyOk at h
  simp only [Bool.and_eq_true] at h
  obtain ⟨⟨⟨⟨⟨⟨h1, h2⟩, h3⟩, h4⟩, h5⟩, h6⟩, h7⟩ := h
  refine ⟨nodupB_spec h1, fun i hi => Nat.le_of_ble_eq_true (List.all_eq_true.1 h2 i hi), fun i hi => ?_, ascL_spec h4, ?_, fun i hi => bits_pre (List.all_eq_true.1 h6 i hi), fun i hi => bits_pre (List.all_eq_true.1 h7 i hi)⟩
  · have := List.all_eq_true.1 h3 i (List.mem_range.2 hi)
    simpa using this
  · intro p
    induction p using (measure List.length).wf.induction with
    | _ p ih =>
      intro i t he j hj
      have one : ∀ o, all[i]? = some o → ∀ e ∈ o.after, Region.binds .any e = true → e.on ∈ p := fun o ho e hed hb => by
        rcases linB_spec h5 p i t he o ho e hed hb with h | h
        · exact h
        · cases h
      cases hj with
      | one hi he' hb hon => exact hon ▸ one _ hi _ he' hb
      | more hi he' hb hk hj' =>
        have hkp := hk ▸ one _ hi _ he' hb
        obtain ⟨p1, p2, rfl⟩ := List.append_of_mem hkp
        have := ih p1 (by simp [InvImage, WellFoundedRelation.rel]) _ (p2 ++ i :: t) (by rw [he]; simp) j hj'
        exact List.mem_append.2 (.inl this)

theorem split_unique {p p' t t' : List Nat} {i : Nat} (h : p ++ i :: t = p' ++ i :: t') (hp : i ∉ p) (hp' : i ∉ p') : p = p' := by
  induction p generalizing p' with
  | nil => cases p' with
    | nil => rfl
    | cons x r =>
      simp only [List.nil_append, List.cons_append, List.cons.injEq] at h
      exact absurd (h.1 ▸ List.mem_cons_self ..) hp'
  | cons y q ih => cases p' with
    | nil =>
      simp only [List.nil_append, List.cons_append, List.cons.injEq] at h
      exact absurd (h.1 ▸ List.mem_cons_self ..) hp
    | cons x r =>
      simp only [List.cons_append, List.cons.injEq] at h
      obtain ⟨rfl, h2⟩ := h
      rw [ih h2 (fun hh => hp (List.mem_cons_of_mem _ hh)) (fun hh => hp' (List.mem_cons_of_mem _ hh))]

/-- A region that draws its order, with one operation that turns memory: those that it waits for ('la'), those that have nothing to do with it ('lb'), those that wait for it ('l3'). -/
theorem swp_draw1 {P : Program} {r : Option Nat} {F : Heap} {n : Nat} {Q : SPost} {env : Env} {own ownM ownC : List Heap} {ds : List Deferred} {id : Nat} {ops : Array Oper} {la lb l3 : List Nat} {m : Nat} {om : Oper} {R : Value → List Heap → Prop}
    (hok : dok ops = true) (hac : acyOk ops = true) (hv : Heavy ops la lb m l3) (hdst : ∀ (i d : Nat), (ops[i]?).bind (·.dst) = some d → d < n) (hperm : own.Perm (ownM ++ ownC)) (hom : ops[m]? = some om)
    (h : QOps P F n ops own (fun env1 => QOps P F n ops ownC (fun env2 => wantedE ops env2 om = some true ∧ HOp P ownM n om env2 R ∧
      ∀ v own', R v own' → QOps P F n ops (own' ++ ownC) (fun env3 => Q .normal env3 (own' ++ ownC) ds) l3 (match (ops[m]?).bind (·.dst) with | some d => (d, v) :: env2 | none => env2)) lb env1) la env) :
    SWP P r F n (.region id ops true) Q env own ds := by
  intro a0 w0 ha0 hd0 hs0
  refine wpIn_region_draw fun t => ?_
  obtain ⟨md, t', hmd, hsch⟩ := schedule_mode (mixed := P.follows .mixedOrders) hac t
  rw [hsch]
  obtain ⟨hnab, hnm3, hdis⟩ := List.nodup_append.1 hv.nodup
  obtain ⟨hna, hnb, hdab⟩ := List.nodup_append.1 hnab
  obtain ⟨hm3, hn3⟩ := List.nodup_cons.1 hnm3
  obtain ⟨vsa, ca, K1⟩ := qops_split hna h
  obtain ⟨vsb, cb, hwm, hop, hnext⟩ := qops_split hnb K1
  clear h K1
  let at_ : (Nat → Value) → (Nat → Bool) → Nat → Option Value := fun val L s => match lastW ops L s ops.size with | some j => some (val j) | none => a0.tmps[s]?
  have envA : ∀ {val : Nat → Value}, (∀ j ∈ la, val j = vsa j) → ∀ p, (∀ j ∈ p, j ∈ la) → envL ops val p env = envL ops vsa p env := fun hva p hp => envL_congr fun j hj => hva j (hp j hj)
  have envB : ∀ {val : Nat → Value}, (∀ j ∈ la, val j = vsa j) → (∀ j ∈ lb, val j = vsb j) → ∀ p, (∀ j ∈ p, j ∈ lb) → envL ops val (la ++ p) env = envL ops vsb p (envL ops vsa la env) := fun hva hvb p hp => by
    rw [envL_append, envA hva la fun _ h => h]; exact envL_congr fun j hj => hvb j (hp j hj)
  let Inv : Array Bool → Act → World → Prop := fun L a w => L.size = ops.size ∧ a.tmps.size = n ∧ a.defers = ds ∧
    (∀ i o, L.getD i false = true → ops[i]? = some o → ∀ e ∈ o.after, Region.binds .any e = true → L.getD e.on false = true) ∧
    ∃ val : Nat → Value, (∀ j ∈ la, val j = vsa j) ∧ (∀ j ∈ lb, val j = vsb j) ∧ (∀ s, s < n → a.tmps[s]? = at_ val (fun i => L.getD i false) s) ∧
      ((L.getD m false = false ∧ Sat (F :: own) w) ∨ (L.getD m false = true ∧ ∃ own', R (val m) own' ∧ Sat (F :: (own' ++ ownC)) w ∧
        (∀ p i t, l3 = p ++ i :: t → ∃ o, ops[i]? = some o ∧ condAt P F n ops (own' ++ ownC) (envL ops val (la ++ lb ++ (m :: p)) env) o (val i)) ∧ Q .normal (envL ops val (la ++ lb ++ (m :: l3)) env) (own' ++ ownC) ds))
  -- a frame that has what a list of operations has laid
  have hhas : ∀ {val : Nat → Value} {a : Act}, a.tmps.size = n → ∀ p, (∃ t, la ++ lb ++ (m :: l3) = p ++ t) → (∀ s, s < n → a.tmps[s]? = at_ val (fun j => p.contains j) s) → Has n (envL ops val p env) a := by
    intro val a hsz p ⟨t, hpt⟩ ht
    have hasc : AscW ops p := by have := hv.asc; rw [hpt] at this; exact (List.pairwise_append.1 this).1
    have hlt : ∀ i ∈ p, i < ops.size := fun i hi => hv.lt i (by rw [hpt]; exact List.mem_append.2 (.inl hi))
    refine ⟨hsz, fun s u hu => ?_⟩
    rw [look_envL p hasc hlt] at hu
    by_cases hs : s < n
    · rw [ht s hs]
      simp only [at_]
      cases hl : lastW ops (fun j => p.contains j) s ops.size with
      | some j => rw [hl] at hu; exact hu
      | none => rw [hl] at hu; exact ha0.get s u hu
    · exfalso
      cases hl : lastW ops (fun j => p.contains j) s ops.size with
      | some j => exact hs (hdst j s (lastW_isW hl).2.1)
      | none =>
        rw [hl] at hu
        have := ha0.get s u hu
        rw [Array.getElem?_eq_none (by rw [ha0.size]; omega)] at this; cases this
  have hend : ∀ L a w, Inv L a w → (∀ i, i < ops.size → L.getD i false = true) → Lift F n Q .normal a w := by
    intro L a w ⟨h1, h2, h3, h4, val, h5, h6, h7, h8⟩ hall
    have hmlt : m < ops.size := hv.lt m (by simp)
    rcases h8 with ⟨h8, -⟩ | ⟨h8, own', hR, hs, hc, hQ⟩
    · rw [hall m hmlt] at h8; cases h8
    · refine ⟨by simp, _, _, hhas (val := val) h2 (la ++ lb ++ (m :: l3)) ⟨[], by simp⟩ (fun s hs => ?_), hs, h3 ▸ hQ⟩
      rw [h7 s hs]
      simp only [at_]
      rw [lastW_congr (L := fun i => L.getD i false) (L' := fun j => (la ++ lb ++ (m :: l3)).contains j) fun j hj _ => by rw [hall j hj]; simpa using hv.mem j hj]
  have hempty : ∀ L a w, Inv L a w → Region.ready md ops L = [] → ∀ i, i < ops.size → L.getD i false = true := fun L a w hI hr => topo_listed hmd hI.1 hr
  have key : ∀ fuel L a w, Inv L a w → fuel + cnt L ops.size = ops.size → wpAnyIn (fen r) 0 P md ops (Lift F n Q) fuel L a w := by
    intro fuel
    induction fuel with
    | zero =>
      intro L a w hI hf
      have hall := cnt_full ops.size (by omega : cnt L ops.size = ops.size)
      refine ⟨?_, hend L a w hI hall⟩
      unfold Region.ready
      rw [List.filter_eq_nil_iff]
      intro i hi
      have hi' := List.mem_range.1 hi
      have hL := hall i hi'
      have hLt : L.getD i true = true := by
        have hlt : i < L.size := by rw [hI.1]; exact hi'
        simp only [Array.getD, hlt, dif_pos] at hL ⊢; exact hL
      simp [hLt]
    | succ fuel ih =>
      intro L a w hI hf
      refine ⟨fun hr => hend L a w hI (hempty L a w hI hr), fun i hi => ?_⟩
      obtain ⟨h1, h2, h3, h4, val, h5, h6, h7, h8⟩ := hI
      unfold Region.ready at hi
      rw [List.mem_filter] at hi
      obtain ⟨hi1, hi2⟩ := hi
      have hi1 := List.mem_range.1 hi1
      have hilt : i < L.size := by omega
      have hio : ops[i]? = some ops[i] := Array.getElem?_eq_getElem hi1
      simp only [hio, Option.map_some, Option.getD_some, Bool.and_eq_true, Bool.not_eq_true', Array.all_eq_true'] at hi2
      obtain ⟨hnl, hrd⟩ := hi2
      have hnl' : L.getD i false = false := by simp only [Array.getD, hilt, dif_pos] at hnl ⊢; exact hnl
      have hrd' : ∀ e ∈ ops[i].after, Region.binds .any e = true → L.getD e.on false = true := fun e he hb => by
        have := hrd e he; rw [binds_any hb] at this; simpa using this
      have hready : ∀ j, Pre ops j i → L.getD j false = true := fun j hj => hj.ready (L := fun j => L.getD j false) h4 hio hrd'
      have hlisted : ∀ j k, Pre ops j k → L.getD k false = true → L.getD j false = true := fun j k hj => hj.listed (L := fun j => L.getD j false) h4
      obtain ⟨p, t, hpt⟩ := List.append_of_mem (hv.mem i hi1)
      have hip : i ∉ p := fun hip => by
        have := hv.nodup; rw [hpt] at this
        exact (List.nodup_append.1 this).2.2 i hip i (List.mem_cons_self ..) rfl
      have hsame : ∀ s ∈ readsOf ops ops[i], lastW ops (fun j => L.getD j false) s ops.size = lastW ops (fun j => p.contains j) s ops.size := by
        intro s hs
        refine lastW_congr fun j hj hw => ?_
        by_cases e : j = i
        · subst e; rw [hnl']; simpa using hip
        · rcases dok_spec hok hio hs hw e with ⟨g1, g2⟩ | ⟨g1, g2⟩
          · rw [hready j g2]; simpa using hv.lin p i t hpt j g2
          · have hf1 : L.getD j false = false := by
              cases hx : L.getD j false with
              | false => rfl
              | true => have := hlisted i j g2 hx; rw [hnl'] at this; cases this
            have hf2 : j ∉ p := fun hjp => by
              obtain ⟨p1, p2, rfl⟩ := List.append_of_mem hjp
              have := hv.lin p1 j (p2 ++ i :: t) (by rw [hpt]; simp) i g2
              exact hip (List.mem_append.2 (.inl this))
            rw [hf1]; simpa using hf2
      let a'' : Act := { tmps := Array.ofFn (n := n) fun s => (at_ val (fun j => p.contains j) s.val).getD undef, defers := ds }
      have hat : ∀ s, s < n → a''.tmps[s]? = at_ val (fun j => p.contains j) s := by
        intro s hs
        simp only [a'']
        rw [Array.getElem?_eq_getElem (by simpa using hs)]
        simp only [Array.getElem_ofFn]
        simp only [at_]
        cases hl : lastW ops (fun j => p.contains j) s ops.size with
        | some j => rfl
        | none =>
          simp only []
          rw [Array.getElem?_eq_getElem (by rw [ha0.size]; exact hs)]; rfl
      have ha'' : Has n (envL ops val p env) a'' := hhas (by simp [a'']) p ⟨i :: t, hpt⟩ hat
      have hlook : ∀ s ∈ (ops[i]).looksAt ops, a.tmps[s]? = a''.tmps[s]? := by
        intro s hs
        by_cases hsn : s < n
        · rw [h7 s hsn, hat s hsn]
          simp only [at_]
          rw [hsame s (List.mem_append.2 (.inl hs))]
        · have hge : n ≤ s := Nat.not_lt.1 hsn
          rw [Array.getElem?_eq_none (by rw [h2]; exact hge), Array.getElem?_eq_none (by simpa [a''] using hge)]
      -- what stands in the slots behind it
      have hslots : ∀ (val' : Nat → Value) (u : Value), val' i = u → (∀ j, L.getD j false = true → val' j = val j) → ∀ s, s < n → (a.put (ops[i]).dst u).tmps[s]? = at_ val' (fun j => (L.setIfInBounds i true).getD j false) s := by
        intro val' u hu hsm s hs
        by_cases hd : (ops[i]).dst = some s
        · have hmem : s ∈ readsOf ops ops[i] := List.mem_append.2 (.inr (by rw [hd]; simp))
          have hl : lastW ops (fun j => (L.setIfInBounds i true).getD j false) s ops.size = some i := by
            rw [lastW_none_above (i := i + 1) (by omega) (L := fun j => (L.setIfInBounds i true).getD j false) (fun j g1 g2 g3 g4 => ?_)]
            · simp only [lastW, getD_set hilt, if_true, Bool.true_and, hio, Option.bind_some, hd]; simp
            · rw [getD_set hilt, if_neg (by omega)] at g3
              rcases dok_spec hok hio hmem g4 (by omega) with ⟨g5, g6⟩ | ⟨g5, g6⟩
              · omega
              · have := hlisted i j g6 g3
                rw [hnl'] at this; cases this
          simp only [at_, hl]
          rw [hd, hu]
          simp only [Act.put]
          simp [h2, hs]
        · have hl : lastW ops (fun j => (L.setIfInBounds i true).getD j false) s ops.size = lastW ops (fun j => L.getD j false) s ops.size := by
            refine lastW_congr fun j hj hw => ?_
            rw [getD_set hilt]
            by_cases e : j = i
            · subst e; rw [hio] at hw; exact absurd hw hd
            · rw [if_neg e]
          have h7s := h7 s hs
          have hput : (a.put (ops[i]).dst u).tmps[s]? = a.tmps[s]? := by
            cases hd' : (ops[i]).dst with
            | none => rfl
            | some d =>
              have : d ≠ s := fun e => hd (e ▸ hd')
              simp only [Act.put]
              rw [Array.getElem?_setIfInBounds_ne this]
          rw [hput, h7s]
          simp only [at_, hl]
          cases hlw : lastW ops (fun j => L.getD j false) s ops.size with
          | none => rfl
          | some j => simp only []; rw [hsm j (lastW_isW hlw).1]
      have hdown : ∀ j o, (L.setIfInBounds i true).getD j false = true → ops[j]? = some o → ∀ e ∈ o.after, Region.binds .any e = true → (L.setIfInBounds i true).getD e.on false = true := by
        intro j o hj ho e he hb
        rw [getD_set hilt] at hj ⊢
        by_cases e' : e.on = i
        · rw [if_pos e']
        · rw [if_neg e']
          by_cases ej : j = i
          · subst ej; rw [hio] at ho; cases ho; exact hrd' e he hb
          · rw [if_neg ej] at hj; exact h4 j o hj ho e he hb
      have hcnt : fuel + cnt (L.setIfInBounds i true) ops.size = ops.size := by rw [cnt_set hilt hnl', if_pos hi1]; omega
      have hsz2 : ∀ u, (a.put (ops[i]).dst u).tmps.size = n := fun u => by cases (ops[i]).dst <;> simp [Act.put, h2]
      have hdf2 : ∀ u, (a.put (ops[i]).dst u).defers = ds := fun u => by cases (ops[i]).dst <;> simp [Act.put, h3]
      -- one that is quiet
      have quiet : ∀ {own1 Y : List Heap} {u : Value}, condAt P F n ops own1 (envL ops val p env) ops[i] u → Sat (F :: own1 ++ Y) w →
          (∀ w', Sat (F :: own1 ++ Y) w' → wpAnyIn (fen r) 0 P md ops (Lift F n Q) fuel (L.setIfInBounds i true) (a.put (ops[i]).dst u) w') →
          wpOpIn (fen r) 0 P ops (Lift F n Q) i (wpAnyIn (fen r) 0 P md ops (Lift F n Q) fuel (L.setIfInBounds i true)) a w := by
        intro own1 Y u hc hs hk
        rcases hc.1 with ⟨hg, hvv⟩ | ⟨hg, hu, hp⟩
        · simp only [wpOpIn, hio, (wanted_looks hlook).trans (wanted_of ha'' hg), if_true]
          refine ⟨fun f _ => by simp, ?_⟩
          rw [fen_round, semAt_plain hvv.1, eval_looks hlook (dok_plain hok hio)]
          obtain ⟨w', s', g1 | ⟨g1, rfl⟩ | ⟨f, args, g1, g2⟩⟩ := hvv.2 a'' w Y ha'' hs
          · rw [g1]; exact hk w' s'
          · rw [g1]; exact hk w' s'
          · rw [g1]
            refine ⟨fun hx => by simp at hx, (callsIn_fen _ g2).mono ?_⟩
            rintro e w'' ⟨rfl, s2⟩
            exact hk w'' s2
        · simp only [wpOpIn, hio, (wanted_looks hlook).trans (wanted_of ha'' hg)]
          refine ⟨fun f _ => by simp, ?_⟩
          rw [← hu]; exact hk w hs
      have hmem : i ∈ la ∨ i ∈ lb ∨ i = m ∨ i ∈ l3 := by
        have := hv.mem i hi1
        simp only [List.mem_append, List.mem_cons] at this
        rcases this with (h | h) | h | h
        · exact .inl h
        · exact .inr (.inl h)
        · exact .inr (.inr (.inl h))
        · exact .inr (.inr (.inr h))
      have hmne : ∀ {x : Nat}, x ∈ la ∨ x ∈ lb → x ≠ m := fun {x} hx e => by
        subst e
        have : x ∈ la ++ lb := by simpa using hx
        exact hdis x this x (List.mem_cons_self ..) rfl
      rcases hmem with hia | hib | him | hi3
      · -- the heavy one waits for it
        have hLm : L.getD m false = false := by
          cases hx : L.getD m false with
          | false => rfl
          | true => have := hlisted i m (hv.a i hia) hx; rw [hnl'] at this; cases this
        have hs : Sat (F :: own) w := by rcases h8 with ⟨-, h8⟩ | ⟨h8, -⟩
                                         · exact h8
                                         · rw [hLm] at h8; cases h8
        obtain ⟨p1, t1, hp1⟩ := List.append_of_mem hia
        have hpe : p = p1 := by
          have e1 : la ++ lb ++ (m :: l3) = p1 ++ i :: (t1 ++ lb ++ (m :: l3)) := by rw [hp1]; simp
          exact (split_unique (hpt.symm.trans e1) hip (fun h => by have := hna; rw [hp1] at this; exact (List.nodup_append.1 this).2.2 i h i (List.mem_cons_self ..) rfl))
        subst hpe
        obtain ⟨o, ho, hc⟩ := ca p i t1 hp1
        rw [hio] at ho; cases ho
        rw [← envA h5 p (fun j hj => by rw [hp1]; exact List.mem_append.2 (.inl hj))] at hc
        refine quiet (Y := []) hc (by simpa using hs) fun w' s' => ?_
        refine ih _ _ _ ⟨by simpa using h1, hsz2 _, hdf2 _, hdown, val, h5, h6, hslots val _ (h5 i hia) (fun _ _ => rfl), .inl ⟨?_, by simpa using s'⟩⟩ hcnt
        rw [getD_set hilt, if_neg (fun e => hmne (.inl hia) e.symm)]; exact hLm
      · obtain ⟨p1, t1, hp1⟩ := List.append_of_mem hib
        have hpe : p = la ++ p1 := by
          have e1 : la ++ lb ++ (m :: l3) = (la ++ p1) ++ i :: (t1 ++ (m :: l3)) := by rw [hp1]; simp
          refine split_unique (hpt.symm.trans e1) hip (fun h => ?_)
          rcases List.mem_append.1 h with h | h
          · exact hdab i h i hib rfl
          · have := hnb; rw [hp1] at this; exact (List.nodup_append.1 this).2.2 i h i (List.mem_cons_self ..) rfl
        subst hpe
        obtain ⟨o, ho, hc⟩ := cb p1 i t1 hp1
        rw [hio] at ho; cases ho
        rw [← envB h5 h6 p1 (fun j hj => by rw [hp1]; exact List.mem_append.2 (.inl hj))] at hc
        have hLm' : (L.setIfInBounds i true).getD m false = L.getD m false := by rw [getD_set hilt, if_neg (fun e => hmne (.inr hib) e.symm)]
        rcases h8 with ⟨hLm, hs⟩ | ⟨hLm, own', hR, hs, hc3, hQ⟩
        · have pp : (F :: own).Perm (F :: ownC ++ ownM) := (hperm.trans List.perm_append_comm).cons F
          refine quiet (Y := ownM) hc (hs.perm pp) fun w' s' => ?_
          exact ih _ _ _ ⟨by simpa using h1, hsz2 _, hdf2 _, hdown, val, h5, h6, hslots val _ (h6 i hib) (fun _ _ => rfl), .inl ⟨by rw [hLm']; exact hLm, s'.perm pp.symm⟩⟩ hcnt
        · have pp : (F :: (own' ++ ownC)).Perm (F :: ownC ++ own') := (List.perm_append_comm (l₁ := own') (l₂ := ownC)).cons F
          refine quiet (Y := own') hc (hs.perm pp) fun w' s' => ?_
          exact ih _ _ _ ⟨by simpa using h1, hsz2 _, hdf2 _, hdown, val, h5, h6, hslots val _ (h6 i hib) (fun _ _ => rfl), .inr ⟨by rw [hLm']; exact hLm, own', hR, s'.perm pp.symm, hc3, hQ⟩⟩ hcnt
      · subst him
        have hs : Sat (F :: own) w := by rcases h8 with ⟨-, h8⟩ | ⟨h8, -⟩
                                         · exact h8
                                         · rw [hnl'] at h8; cases h8
        have hpe : p = la ++ lb := split_unique hpt.symm hip (fun h => hdis i h i (List.mem_cons_self ..) rfl)
        subst hpe
        rw [hio] at hom; cases hom
        rw [← envB h5 h6 lb (fun _ h => h)] at hwm hop hnext
        have pp : (F :: own).Perm (ownM ++ (ownC ++ [F])) := (hperm.cons F).trans (by rw [← List.append_assoc]; exact List.perm_append_comm (l₁ := [F]) (l₂ := ownM ++ ownC))
        refine hop_wp hop hio ((wanted_looks hlook).trans (wanted_of ha'' hwm)) ha'' (eval_looks hlook (dok_plain hok hio)) (hs.perm pp) fun v own' w' hR s' => ?_
        obtain ⟨vsc, cc, hQ⟩ := qops_split hn3 (hnext v own' hR)
        have s2 : Sat (F :: (own' ++ ownC)) w' := s'.perm (by rw [← List.append_assoc]; exact List.perm_append_comm (l₁ := own' ++ ownC) (l₂ := [F]))
        let val' : Nat → Value := fun j => if j = i then v else if j ∈ l3 then vsc j else val j
        have n3 : ∀ {j}, j ∈ la ∨ j ∈ lb → val' j = val j := fun {j} hj => by
          simp only [val']
          rw [if_neg (hmne hj), if_neg (fun h3 => hdis j (by simpa using hj) j (List.mem_cons_of_mem _ h3) rfl)]
        have vi : val' i = v := by simp [val']
        have v3 : ∀ j ∈ l3, val' j = vsc j := fun j hj => by
          simp only [val']
          rw [if_neg (fun e => by subst e; exact hm3 hj), if_pos hj]
        have env3 : ∀ q, (∀ j ∈ q, j ∈ l3) → envL ops val' (la ++ lb ++ (i :: q)) env = envL ops vsc q (match (ops[i]?).bind (·.dst) with | some d => (d, v) :: envL ops val (la ++ lb) env | none => envL ops val (la ++ lb) env) := fun q hq => by
          rw [envL_append]
          simp only [envL]
          rw [vi, envL_congr (l := la ++ lb) (vs := val') (vs' := val) (fun j hj => n3 (by simpa using hj))]
          exact envL_congr fun j hj => v3 j (hq j hj)
        refine ih _ _ _ ⟨by simpa using h1, hsz2 _, hdf2 _, hdown, val', fun j hj => (n3 (.inl hj)).trans (h5 j hj), fun j hj => (n3 (.inr hj)).trans (h6 j hj), hslots val' v vi (fun j hj => ?_), .inr ⟨by rw [getD_set hilt, if_pos rfl], own', by rw [vi]; exact hR, s2, fun q j u hq => ?_, ?_⟩⟩ hcnt
        · -- what is listed by now is ahead
          have hjlt : j < ops.size := by
            rcases Nat.lt_or_ge j L.size with h | h
            · omega
            · simp only [Array.getD, Nat.not_lt.2 h, dif_neg, not_false_eq_true] at hj; cases hj
          have := hv.mem j hjlt
          simp only [List.mem_append, List.mem_cons] at this
          rcases this with h | h | h
          · exact n3 h
          · subst h; rw [hnl'] at hj; cases hj
          · have := hlisted i j (hv.c j h) hj; rw [hnl'] at this; cases this
        · obtain ⟨o, ho, hc⟩ := cc q j u hq
          refine ⟨o, ho, ?_⟩
          rw [env3 q (fun x hx => by rw [hq]; exact List.mem_append.2 (.inl hx)), v3 j (by rw [hq]; exact List.mem_append.2 (.inr (List.mem_cons_self ..)))]
          exact hc
        · rw [env3 l3 (fun _ h => h)]; exact hQ
      · have hLm := hready m (hv.c i hi3)
        obtain ⟨p1, t1, hp1⟩ := List.append_of_mem hi3
        have hpe : p = la ++ lb ++ (m :: p1) := by
          have e1 : la ++ lb ++ (m :: l3) = (la ++ lb ++ (m :: p1)) ++ i :: t1 := by rw [hp1]; simp
          refine split_unique (hpt.symm.trans e1) hip (fun h => ?_)
          rcases List.mem_append.1 h with h | h
          · exact hdis i h i (List.mem_cons_of_mem _ hi3) rfl
          · rcases List.mem_cons.1 h with h | h
            · subst h; exact hm3 hi3
            · have := hn3; rw [hp1] at this; exact (List.nodup_append.1 this).2.2 i h i (List.mem_cons_self ..) rfl
        subst hpe
        rcases h8 with ⟨h8, -⟩ | ⟨-, own', hR, hs, hc3, hQ⟩
        · rw [hLm] at h8; cases h8
        · obtain ⟨o, ho, hc⟩ := hc3 p1 i t1 hp1
          rw [hio] at ho; cases ho
          refine quiet (Y := []) hc (by simpa using hs) fun w' s' => ?_
          refine ih _ _ _ ⟨by simpa using h1, hsz2 _, hdf2 _, hdown, val, h5, h6, hslots val _ rfl (fun _ _ => rfl), .inr ⟨?_, own', hR, by simpa using s', hc3, hQ⟩⟩ hcnt
          rw [getD_set hilt]; split
          · rfl
          · exact hLm
  have hrep : ∀ j, (Array.replicate ops.size false).getD j false = false := fun j => by
    rw [Array.getD_eq_getD_getElem?, Array.getElem?_replicate]; split <;> rfl
  refine wpAnyIn_sound ops.size t' (Array.replicate ops.size false) a0 _ (key ops.size _ a0 _ ⟨by simp, ha0.size, hd0, fun i o hi => ?_, fun j => if j ∈ la then vsa j else vsb j, fun j hj => if_pos hj, fun j hj => if_neg (fun h => hdab j h j hj rfl), fun s hs => ?_, .inl ⟨hrep m, hs0.heap rfl rfl rfl⟩⟩ ?_)
  · rw [hrep] at hi; cases hi
  · have hz : ∀ k, lastW ops (fun j => (Array.replicate ops.size false).getD j false) s k = none := by
      intro k
      induction k with
      | zero => rfl
      | succ k ih =>
        simp only [hrep] at ih
        simp only [lastW, hrep, Bool.false_and, Bool.false_eq_true, if_false]
        exact ih
    simp only [at_, hz]
  · have : ∀ k, cnt (Array.replicate ops.size false) k = 0 := by
      intro k
      unfold cnt
      rw [List.length_eq_zero_iff, List.filter_eq_nil_iff]
      intro i _
      simp [hrep]
    rw [this]; omega
end Go.SL
end
section
/- A range over a function: what an iterator is to do, and the statement that ranges. -/
namespace Go.SL

/-- What a call of yield comes to. -/
def YT (P : Program) (L : Nat) (args : List Value) (H : Heap) (R : Value → Heap → Prop) : Prop :=
  ∀ w X, Sat (H :: X) w → ∃ f tmps assign body, (Instr.yield L args.toArray).run P w = .ok (.round L f tmps assign body) w ∧
    ∀ r, RoundIn (fen r) 0 P L f tmps assign body w fun e w'' => ∃ v H', e = .returned v ∧ Sat (H' :: X) w'' ∧ R v H'

/-- A function that hands 'xs' to its yield, one after the other, until yield says no. -/
def Iter (P : Program) (f : FuncId) (first captured : List Value) (hs : List Heap) (xs : List (List Value)) : Prop :=
  ∀ (L : Nat) (J : Nat → Heap → Prop) (Jx : Heap → Prop),
    (∀ k x H, xs[k]? = some x → J k H → YT P L x H fun v H' => (v = .bool true ∧ J (k + 1) H') ∨ (v = .bool false ∧ Jx H')) →
    ∀ H, J 0 H → T P f (first ++ [.func (.yield L) #[] #[]] ++ captured) (H :: hs) fun e own' => e = .returned (.tuple #[]) ∧ ∃ H', own' = H' :: hs ∧ (J xs.length H' ∨ Jx H')

theorem run_callYield {P : Program} {n : Nat} {env : Env} {a : Act} {o : Oper} {c : Call} {x : Operand} {L : Nat} {vs : List Value} (ha : Has n env a)
    (ho : o.op = .call c) (hc : c.callee = .value x) (hx : ev env x = some (.func (.yield L) #[] #[])) (hvs : evs env c.args.toList = some vs) (w : World) :
    (execOp a.eval o).run P w = (Instr.yield L vs.toArray).run P w := by
  have h1 : c.args.map a.eval = vs.toArray := Array.ext' (by simpa using evs_eval ha hvs)
  simp only [execOp, ho, resolve, hc, ha.eval hx, h1, Deferred.ofValue]
  simp [invoke]

theorem hop_yield {P : Program} {n : Nat} {env : Env} {o : Oper} {c : Call} {x : Operand} {L : Nat} {vs : List Value} {H : Heap} {R : Value → Heap → Prop}
    (ho : o.op = .call c) (hc : c.callee = .value x) (hx : ev env x = some (.func (.yield L) #[] #[])) (hvs : evs env c.args.toList = some vs) (h : YT P L vs H R) :
    HOp P [H] n o env fun v own' => ∃ H', own' = [H'] ∧ R v H' := by
  refine ⟨by rw [ho]; rfl, fun a w X ha hs => ?_⟩
  obtain ⟨f, tmps, assign, body, h1, h2⟩ := h w X hs
  refine ⟨w, .inr (.inr (.inr ⟨L, f, tmps, assign, body, (run_callYield ha ho hc hx hvs w).trans h1, fun r => (h2 r).mono ?_⟩))⟩
  rintro e w'' ⟨v, H', he, s, hR⟩
  exact ⟨v, [H'], he, s, H', rfl, hR⟩

theorem hop_call {P : Program} {n : Nat} {env : Env} {o : Oper} {c : Call} {x : Operand} {f : FuncId} {first captured : Array Value} {vs vall : List Value} {hs : List Heap} {R : Value → List Heap → Prop} [Enters P f]
    (ho : o.op = .call c) (hc : c.callee = .value x) (hx : ev env x = some (.func (.func f) first captured)) (hvs : evs env c.args.toList = some vs)
    (hall : appO first.toList vs captured.toList = some vall) (h : T P f vall hs fun e own' => ∃ v, e = .returned v ∧ R v own') :
    HOp P hs n o env R := by
  refine ⟨by rw [ho]; rfl, fun a w X ha hs => ?_⟩
  refine ⟨w, .inr (.inr (.inl ⟨f, _, run_call ha ho hc hx hvs w, ?_⟩))⟩
  have e : first ++ vs.toArray ++ captured = vall.toArray := by rw [← appO_eq hall]; simp
  rw [e]
  refine (h w X hs).mono ?_
  rintro e w'' ⟨own', s, v, he, hR⟩
  exact ⟨v, own', he, s, hR⟩

/-- Two lists of heaps, spelled out. -/
def appH : List Heap → List Heap → Option (List Heap)
  | [], b => some b
  | v :: r, b => match appH r b with | some l => some (v :: l) | none => none
theorem appH_eq : ∀ {a b l : List Heap}, appH a b = some l → l = a ++ b := by
  intro a
  induction a with
  | nil => intro b l h; cases h; rfl
  | cons v r ih =>
    intro b l h
    simp only [appH] at h
    cases e : appH r b with
    | none => rw [e] at h; cases h
    | some l' => rw [e] at h; cases h; rw [ih e]; rfl
section
variable {P : Program} {r : Option Nat} {F : Heap} {n : Nat} {Q : SPost} {env : Env} {own rest hs ownM ownC : List Heap} {ds : List Deferred} {all : Array Oper} {l : List Oper} {o : Oper} {id : Nat}

/-- A step of a heavy operation, in a region in its own order. -/
theorem sl_hop {d : Nat} {R : Value → List Heap → Prop} (hd : o.dst = some d) (hn : Nat.blt d n = true) (hg : wantedE all env o = some true) [t : TakeL own hs rest] (h : HOp P hs n o env R)
    (hr : ∀ v own', R v own' → ∃ own2, appH own' rest = some own2 ∧ SOL false P r F n all l Q ((d, v) :: env) own2 ds) : SOL false P r F n all (o :: l) Q env own ds := fun k hk => by
  obtain ⟨i, k', rfl, hi, hk'⟩ := unl hk
  intro a w ha hds hs'
  rw [wpOpsIn_cons]
  have pp : (F :: own).Perm (hs ++ (rest ++ [F])) := (List.perm_append_comm (l₁ := [F]) (l₂ := own)).trans (by rw [← List.append_assoc]; exact t.perm.append_right [F])
  refine hop_wp h hi (wanted_of ha hg) ha rfl (hs'.perm pp) fun v own' w' hR s => ?_
  rw [hd]
  obtain ⟨own2, e2, h2⟩ := hr v own' hR
  rw [appH_eq e2] at h2
  exact h2 k' hk' _ w' (ha.put v (Nat.le_of_ble_eq_true hn)) hds (s.perm (by rw [← List.append_assoc]; exact List.perm_append_comm (l₁ := own' ++ rest) (l₂ := [F])))

/-! A region that draws its order, with one heavy operation. -/
def pickO (all : Array Oper) : List Nat → Option (List Oper)
  | [] => some []
  | i :: l => match all[i]? with
    | some o => match pickO all l with
      | some r => some (o :: r)
      | none => none
    | none => none
theorem pickO_eq {all : Array Oper} : ∀ {l : List Nat} {r : List Oper}, pickO all l = some r → l.map (fun i => all[i]?) = r.map some := by
  intro l
  induction l with
  | nil => intro r h; cases h; rfl
  | cons i l ih =>
    intro r h
    simp only [pickO] at h
    cases h1 : all[i]? with
    | none => rw [h1] at h; cases h
    | some o =>
      rw [h1] at h
      cases h2 : pickO all l with
      | none => rw [h2] at h; cases h
      | some r' => rw [h2] at h; cases h; simp [h1, ih h2]
def dstB (all : Array Oper) (n : Nat) : Bool := all.toList.all fun o => match o.dst with | some d => Nat.blt d n | none => true
theorem dstB_spec {all : Array Oper} {n : Nat} (h : dstB all n = true) : ∀ (i d : Nat), (all[i]?).bind (·.dst) = some d → d < n := by
  intro i d hd
  cases hi : all[i]? with
  | none => rw [hi] at hd; cases hd
  | some o =>
    rw [hi] at hd
    have hm : o ∈ all := by rw [Array.mem_iff_getElem?]; exact ⟨i, hi⟩
    have := List.all_eq_true.1 h o (by simpa using hm)
    simp only [Option.bind_some] at hd
    rw [hd] at this
    exact Nat.le_of_ble_eq_true this

theorem qops_mono {K K' : Env → Prop} (hk : ∀ env, K env → K' env) : ∀ {l : List Nat} {env : Env}, QOps P F n all own K l env → QOps P F n all own K' l env := by
  intro l
  induction l with
  | nil => intro env h; exact hk _ h
  | cons i l ih =>
    intro env h
    simp only [QOps] at h ⊢
    obtain ⟨o, v, h1, h2, h3, h4⟩ := h
    exact ⟨o, v, h1, h2, h3, ih h4⟩

theorem sl_draw1 {ops : Array Oper} (la lb : List Nat) (m : Nat) (l3 : List Nat) {A B C : List Oper} {om : Oper} {d : Nat} {R : Value → List Heap → Prop} [t : TakeL own ownM ownC]
    (hok : dok ops = true) (hac : acyOk ops = true) (hv : heavyOk ops la lb m l3 = true) (hdst : dstB ops n = true)
    (hA : pickO ops la = some A) (hB : pickO ops lb = some B) (hm : ops[m]? = some om) (hd : om.dst = some d) (hC : pickO ops l3 = some C)
    (h : SOL true P r F n ops A (Thn (fun env1 _ _ => SOL true P r F n ops B (Thn (fun env2 _ _ => wantedE ops env2 om = some true ∧ HOp P ownM n om env2 R ∧
      ∀ v own', R v own' → ∃ own2, appH own' ownC = some own2 ∧ SOL true P r F n ops C Q ((d, v) :: env2) own2 ds) (fun _ _ _ _ => False)) env1 ownC ds) (fun _ _ _ _ => False)) env own ds) :
    SWP P r F n (.region id ops true) Q env own ds := by
  refine swp_draw1 (R := R) hok hac (heavy_of hv) (dstB_spec hdst) t.perm hm ?_
  refine qops_mono (fun env1 h1 => ?_) (h la (pickO_eq hA))
  refine qops_mono (fun env2 h2 => ?_) (h1 lb (pickO_eq hB))
  obtain ⟨g1, g2, g3⟩ := h2
  refine ⟨g1, g2, fun v own' hR => ?_⟩
  obtain ⟨own2, e2, h2⟩ := g3 v own' hR
  have h3 := h2 l3 (pickO_eq hC)
  rw [appH_eq e2] at h3
  rw [hm]
  simp only [Option.bind_some, hd]
  exact h3
end

/-! ### The statement that ranges -/
def bindP : List Nat → List Value → Env → Env
  | t :: ts, v :: vs, env => bindP ts vs ((t, v) :: env)
  | _, _, env => env
def bindO : List Nat → List Value → Env → Option Env
  | t :: ts, v :: vs, env => bindO ts vs ((t, v) :: env)
  | _, _, env => some env
theorem bindO_eq : ∀ {ts : List Nat} {vs : List Value} {env env' : Env}, bindO ts vs env = some env' → env' = bindP ts vs env := by
  intro ts
  induction ts with
  | nil => intro vs env env' h; cases h; rfl
  | cons t ts ih => intro vs env env' h; cases vs with
    | nil => cases h; rfl
    | cons v vs => exact ih h
theorem has_tmps {n : Nat} {env : Env} {a : Act} (h : Has n env a) {ds : List Deferred} : Has n env { tmps := a.tmps, defers := ds } := ⟨h.size, h.get⟩
theorem has_bind {n : Nat} : ∀ {ps : List Nat} {vs : List Value} {env : Env} {tmps : Array Value}, (∀ p ∈ ps, p < n) → Has n env { tmps := tmps, defers := [] } →
    Has n (bindP ps vs env) { tmps := (ps.zip vs).foldl (fun tmps (t, a) => tmps.setIfInBounds t a) tmps, defers := [] } := by
  intro ps
  induction ps with
  | nil => intro vs env tmps _ h; simpa [bindP] using h
  | cons p ps ih =>
    intro vs env tmps hp h
    cases vs with
    | nil => simpa [bindP] using h
    | cons v vs =>
      simp only [bindP, List.zip_cons_cons, List.foldl_cons]
      refine ih (fun q hq => hp q (List.mem_cons_of_mem _ hq)) ?_
      have := h.put (d := p) v (hp p (List.mem_cons_self ..))
      exact this

/-- What a round is to come to. -/
def RoundQ (J : List Heap → Prop) (Jx : Code → List Heap → Prop) : SPost
  | .normal, _, own, _ => ∃ own', (∀ F w, Sat (F :: own) w → Sat (F :: own') w) ∧ J own'
  | .ret, _, own, _ => ∃ own', (∀ F w, Sat (F :: own) w → Sat (F :: own') w) ∧ Jx .ret own'
  | .exit id, _, own, _ => ∃ own', (∀ F w, Sat (F :: own) w → Sat (F :: own') w) ∧ Jx (.exit id) own'
  | _, _, _, _ => False
theorem take_sat {own hs rest : List Heap} [t : TakeL own hs rest] (F : Heap) (w : World) (s : Sat (F :: own) w) : Sat (F :: hs) w := (s.perm (t.perm.cons F)).sub (List.Sublist.cons_cons F (List.sublist_append_left _ _))
theorem round_end {J : List Heap → Prop} {Jx : Code → List Heap → Prop} {env : Env} {own rest : List Heap} {ds : List Deferred} (hs : List Heap) [t : TakeL own hs rest] (h : J hs) : RoundQ J Jx .normal env own ds := ⟨hs, take_sat, h⟩
theorem round_ret {J : List Heap → Prop} {Jx : Code → List Heap → Prop} {env : Env} {own rest : List Heap} {ds : List Deferred} (hs : List Heap) [t : TakeL own hs rest] (h : Jx .ret hs) : RoundQ J Jx .ret env own ds := ⟨hs, take_sat, h⟩
theorem round_exit {J : List Heap → Prop} {Jx : Code → List Heap → Prop} {id : Nat} {env : Env} {own rest : List Heap} {ds : List Deferred} (hs : List Heap) [t : TakeL own hs rest] (h : Jx (.exit id) hs) : RoundQ J Jx (.exit id) env own ds := ⟨hs, take_sat, h⟩

theorem sat_put {b : Nat} {o o' : Obj} {hs : List Heap} {w : World} (s : Sat (blk b o :: hs) w) (hz : ∀ off, fzo o' off = fzo o off) : Sat (blk b o' :: hs) (w.putObj b o') := by
  have hb : w.heap[b]? = some o := s.at (List.mem_cons_self ..) (blk_self _ _)
  exact s.put (World.putObj_heap_same (Array.getElem?_eq_some_iff.1 hb).1) rfl rfl (fun k hk => World.putObj_heap_other hk) hz
theorem inRound_fen (r : Option Nat) (L : Nat) : (fen r).inRound L = fen (some L) := by cases r <;> rfl

section
variable {P : Program} {F : Heap} {n : Nat} {Q : SPost} {env : Env} {own rest hsI : List Heap} {ds : List Deferred} {assign body : Code}

/-- One round. -/
theorem yt_round {L : Nat} {rc : Loop} {x : List Value} {own1 : List Heap} {K : List Heap → Prop} {Kx : Code → List Heap → Prop}
    (hh : Has n env { tmps := rc.tmps, defers := [] }) (hp : ∀ p ∈ rc.params.toList, p < n) (hl : x.length = rc.params.size) (hst : rc.state = .ready)
    (hd : (blk L (.loop rc) :: own1).Pairwise Disj)
    (hr : ∀ F, SWP P (some L) F n rc.assign (Thn (fun env2 own2 ds2 => ∀ F2, SWP P (some L) F2 n rc.body (RoundQ K Kx) env2 own2 ds2) fun _ _ _ _ => False) (bindP rc.params.toList x env) own1 []) :
    YT P L x (joins (blk L (.loop rc) :: own1)) fun v H' =>
      (v = .bool true ∧ ∃ own2, (blk L (.loop { rc with state := .ready, pending := none }) :: own2).Pairwise Disj ∧ H' = joins (blk L (.loop { rc with state := .ready, pending := none }) :: own2) ∧ K own2) ∨
      (v = .bool false ∧ ∃ c own2, (blk L (.loop { rc with state := .done, pending := some c }) :: own2).Pairwise Disj ∧ H' = joins (blk L (.loop { rc with state := .done, pending := some c }) :: own2) ∧ Kx c own2) := by
  intro w X s
  have s1 : Sat ((blk L (.loop rc) :: own1) ++ X) w := s.unjoins hd
  have hL : w.heap[L]? = some (.loop rc) := s1.at (List.mem_cons_self ..) (blk_self _ _)
  refine ⟨rc.fn, _, rc.assign, rc.body, run_yield hL (by simpa using hl), fun r => roundIn_of_wpIn (by simp) ?_⟩
  rw [inRound_fen]
  have s2 : Sat (joins (blk L (.loop rc) :: X) :: own1) w := by
    refine Sat.joins (hs := blk L (.loop rc) :: X) (s1.perm ?_)
    exact (List.perm_append_comm (l₁ := own1) (l₂ := X)).cons _
  have hpX : (blk L (.loop rc) :: X).Pairwise Disj := (s1.sub (List.Sublist.cons_cons _ (List.sublist_append_right _ _))).dj
  have ha : Has n (bindP rc.params.toList x env) { tmps := (rc.params.zip x.toArray).foldl (fun tmps (t, a) => tmps.setIfInBounds t a) rc.tmps, defers := [] } := by
    have := has_bind (vs := x) hp hh
    rw [← Array.foldl_toList, Array.toList_zip]
    exact this
  refine wpIn_mono (hr _ _ w ha rfl s2) fun e a₁ w₁ ⟨he, env2, own2, h1, h2, h3⟩ => ?_
  cases e with
  | normal =>
    have s3 : Sat (blk L (.loop rc) :: (X ++ own2)) w₁ := h2.unjoins hpX
    have hL1 : w₁.heap[L]? = some (.loop rc) := s3.at (List.mem_cons_self ..) (blk_self _ _)
    refine ⟨_, run_beginRound hL1 hst, ?_⟩
    have s4 : Sat (blk L (.loop { rc with state := .busy }) :: (X ++ own2)) (w₁.putObj L (.loop { rc with state := .busy })) := sat_put s3 (fun _ => rfl)
    have hpX' : (blk L (.loop { rc with state := .busy }) :: X).Pairwise Disj := (s4.sub (List.Sublist.cons_cons _ (List.sublist_append_left _ _))).dj
    have s5 : Sat (joins (blk L (.loop { rc with state := .busy }) :: X) :: own2) (w₁.putObj L (.loop { rc with state := .busy })) := Sat.joins (hs := blk L _ :: X) s4
    refine wpIn_mono (h3 _ a₁ _ h1 rfl s5) fun e a₂ w₂ ⟨he, env3, own3, g1, g2, g3⟩ => ?_
    have key : ∀ own3, Sat (joins (blk L (.loop { rc with state := .busy }) :: X) :: own3) w₂ → ∀ o', (∀ off, fzo o' off = false) → w₂.heap[L]? = some (.loop { rc with state := .busy }) ∧ Sat ((blk L o' :: own3) ++ X) (w₂.putObj L o') := fun own3 g2 o' hz => by
      have s6 : Sat (blk L (.loop { rc with state := .busy }) :: (X ++ own3)) w₂ := g2.unjoins hpX'
      exact ⟨s6.at (List.mem_cons_self ..) (blk_self _ _), (sat_put s6 hz).perm ((List.perm_append_comm (l₁ := X) (l₂ := own3)).cons _)⟩
    have stop : ∀ c, (∃ own', (∀ F w, Sat (F :: own3) w → Sat (F :: own') w) ∧ Kx c own') → ∃ v w', (Instr.endRound L (some c)).run P w₂ = .ok v w' ∧ ∃ v', ∃ H', Ending.returned v = .returned v' ∧ Sat (H' :: X) w' ∧
        ((v' = .bool true ∧ ∃ own2, (blk L (.loop { rc with state := .ready, pending := none }) :: own2).Pairwise Disj ∧ H' = joins (blk L (.loop { rc with state := .ready, pending := none }) :: own2) ∧ K own2) ∨
        (v' = .bool false ∧ ∃ c own2, (blk L (.loop { rc with state := .done, pending := some c }) :: own2).Pairwise Disj ∧ H' = joins (blk L (.loop { rc with state := .done, pending := some c }) :: own2) ∧ Kx c own2)) := fun c ⟨own4, hw, hc⟩ => by
      have fin := (key own4 (hw _ _ g2) (.loop { rc with state := .done, pending := some c }) (fun _ => rfl)).2
      exact ⟨_, _, run_endRound (some c) (key own4 (hw _ _ g2) (.loop rc) (fun _ => rfl)).1, _, _, rfl, Sat.joins (ks := X) fin, .inr ⟨rfl, c, own4, (fin.sub (List.sublist_append_left _ _)).dj, rfl, hc⟩⟩
    cases e with
    | normal =>
      obtain ⟨own4, hw, hc⟩ := g3
      have fin := (key own4 (hw _ _ g2) (.loop { rc with state := .ready, pending := none }) (fun _ => rfl)).2
      exact ⟨_, _, run_endRound none (key own4 (hw _ _ g2) (.loop rc) (fun _ => rfl)).1, _, _, rfl, Sat.joins (ks := X) fin, .inl ⟨rfl, own4, (fin.sub (List.sublist_append_left _ _)).dj, rfl, hc⟩⟩
    | ret => exact stop _ g3
    | exit id => exact stop _ g3
    | goto _ => exact g3.elim
    | panic _ => exact g3.elim
    | outgrown => exact g3.elim
  | outgrown => exact absurd rfl he
  | ret => exact h3.elim
  | exit _ => exact h3.elim
  | goto _ => exact h3.elim
  | panic _ => exact h3.elim

theorem swp_range {g : Operand} {ps : Array Tmp} {f : FuncId} {first captured : Array Value} {xs : List (List Value)} [he : Enters P f] [t : TakeL own hsI rest]
    (J : Nat → List Heap → Prop) (Jx : Code → List Heap → Prop)
    (hg : ev env g = some (.func (.func f) first captured)) (hI : Iter P f first.toList captured.toList hsI xs)
    (hps : ps.toList.all (fun p => Nat.blt p n) = true) (hxs : ∀ x ∈ xs, x.length = ps.size) (h0 : J 0 rest)
    (hround : ∀ L k x own1, xs[k]? = some x → J k own1 → ∀ F, ∃ env1, bindO ps.toList x env = some env1 ∧ SWP P (some L) F n assign (Thn (fun env2 own2 ds2 => ∀ F2, SWP P (some L) F2 n body (RoundQ (J (k + 1)) Jx) env2 own2 ds2) fun _ _ _ _ => False) env1 own1 [])
    (hdone : ∀ D own1, J xs.length own1 → ∃ own2, appH own1 hsI = some own2 ∧ Q .normal env (blk D (.deferred (some [])) :: own2) (mark D :: ds))
    (hstop : ∀ D c own1, Jx c own1 → ∃ own2, appH own1 hsI = some own2 ∧ SWP P none F n c Q env (blk D (.deferred (some [])) :: own2) (mark D :: ds)) :
    SWP P none F n (.rangeFunc g ps assign body) Q env own ds := by
  have hround : ∀ L k x own1, xs[k]? = some x → J k own1 → ∀ F, SWP P (some L) F n assign (Thn (fun env2 own2 ds2 => ∀ F2, SWP P (some L) F2 n body (RoundQ (J (k + 1)) Jx) env2 own2 ds2) fun _ _ _ _ => False) (bindP ps.toList x env) own1 [] := fun L k x own1 hx hJ F => by
    obtain ⟨env1, e, h⟩ := hround L k x own1 hx hJ F
    rw [bindO_eq e] at h; exact h
  have hdone : ∀ D own1, J xs.length own1 → Q .normal env (blk D (.deferred (some [])) :: (own1 ++ hsI)) (mark D :: ds) := fun D own1 hJ => by
    obtain ⟨own2, e, h⟩ := hdone D own1 hJ
    rw [appH_eq e] at h; exact h
  have hstop : ∀ D c own1, Jx c own1 → SWP P none F n c Q env (blk D (.deferred (some [])) :: (own1 ++ hsI)) (mark D :: ds) := fun D c own1 hJ => by
    obtain ⟨own2, e, h⟩ := hstop D c own1 hJ
    rw [appH_eq e] at h; exact h
  intro a w ha hd hs
  refine wpIn_rangeFunc fun fn _ => ?_
  let L := w.heap.size + 1
  let rc : Loop := { state := .ready, pending := none, fn, tmps := a.tmps, params := ps, assign, body, defers := w.heap.size }
  let xv : Value := .func (.yield L) #[] #[]
  let w1 := (w.alloc (.deferred (some []))).alloc (.loop rc)
  have hres : (resolve a.eval (rangeCall g L) 0).run P w1 = .ok { target := .fn (.func f) captured, args := first ++ #[xv] } w1 := by
    simp only [resolve, ha.eval hg, Deferred.ofValue, Sem.run_pure]
    simp [Act.eval, xv]
  have hinv : (invoke (.fn (.func f) captured) (first ++ #[xv])).run P w1 = .ok (.enter f (first ++ #[xv] ++ captured)) w1 := he.run _ _
  refine ⟨L, [SL.mark w.heap.size], w1, { target := .fn (.func f) captured, args := first ++ #[xv] }, w1, f, first ++ #[xv] ++ captured, w1, run_enterLoop_outer fn a.tmps ps assign body, hres, fun _ _ => by simp, hinv, fun hx => by simp at hx, callsIn_fen _ ?_⟩
  have e : first ++ #[xv] ++ captured = (first.toList ++ [xv] ++ captured.toList).toArray := by apply Array.ext'; simp
  rw [e]
  have sD : Sat (blk w.heap.size (.deferred (some [])) :: F :: own) (w.alloc (.deferred (some []))) := sat_alloc hs _ (fun _ => rfl)
  have sL : Sat (blk L (.loop rc) :: blk w.heap.size (.deferred (some [])) :: F :: own) w1 := by
    have := sat_alloc sD (.loop rc) (fun _ => rfl)
    rw [World.size_alloc] at this; exact this
  have sA : Sat ((blk L (.loop rc) :: rest) ++ (hsI ++ [blk w.heap.size (.deferred (some [])), F])) w1 := by
    refine sL.perm ((?_ : List.Perm _ _).cons _)
    refine ((t.perm.cons F).cons _).trans ?_
    have p1 : (blk w.heap.size (.deferred (some [])) :: F :: (hsI ++ rest)).Perm ((hsI ++ rest) ++ [blk w.heap.size (.deferred (some [])), F]) := List.perm_append_comm (l₁ := [blk w.heap.size (.deferred (some [])), F]) (l₂ := hsI ++ rest)
    refine p1.trans ?_
    have p2 : (hsI ++ rest).Perm (rest ++ hsI) := List.perm_append_comm
    simpa [List.append_assoc] using p2.append_right [blk w.heap.size (.deferred (some [])), F]
  let lr : Loop → Heap := fun r => blk L (.loop r)
  let JJ : Nat → Heap → Prop := fun k H => ∃ own1, (lr rc :: own1).Pairwise Disj ∧ H = joins (lr rc :: own1) ∧ J k own1
  let JX : Heap → Prop := fun H => ∃ c own1, (lr { rc with state := .done, pending := some c } :: own1).Pairwise Disj ∧ H = joins (lr { rc with state := .done, pending := some c } :: own1) ∧ Jx c own1
  have hpn : ∀ p ∈ ps.toList, p < n := fun p hp => Nat.le_of_ble_eq_true (List.all_eq_true.1 hps p hp)
  have hT := hI L JJ JX (fun k x H hx hJ => by
    obtain ⟨own1, hdj, rfl, hJ⟩ := hJ
    exact yt_round (rc := rc) (has_tmps ha) hpn (hxs x (List.mem_of_getElem? hx)) rfl hdj (hround L k x own1 hx hJ)) _ ⟨rest, (sA.sub (List.sublist_append_left _ _)).dj, rfl, h0⟩
  refine (hT w1 [blk w.heap.size (.deferred (some [])), F] (by simpa using sA.joins)).mono ?_
  rintro e w3 ⟨own', s3, rfl, H', rfl, hJ⟩
  have done : ∀ (r3 : Loop) own1, (lr r3 :: own1).Pairwise Disj → H' = joins (lr r3 :: own1) → r3.state ≠ .busy →
      ∃ w4, (Instr.endLoop L).run P w3 = .ok r3.pending w4 ∧ Sat (F :: (blk w.heap.size (.deferred (some [])) :: (own1 ++ hsI))) w4 := by
    rintro r3 own1 hdj rfl hst
    have s4 : Sat (lr r3 :: (own1 ++ (hsI ++ [blk w.heap.size (.deferred (some [])), F]))) w3 := by
      have : Sat (joins (lr r3 :: own1) :: (hsI ++ [blk w.heap.size (.deferred (some [])), F])) w3 := by simpa using s3
      simpa using this.unjoins hdj
    have hL3 : w3.heap[L]? = some (.loop r3) := s4.at (List.mem_cons_self ..) (blk_self _ _)
    refine ⟨_, run_endLoop hL3 hst, ?_⟩
    have s5 := (sat_put (o' := .loop { r3 with state := .exhausted }) s4 (fun _ => rfl)).tail
    refine s5.perm ?_
    have p1 : ((own1 ++ hsI) ++ [blk w.heap.size (.deferred (some [])), F]).Perm ([F, blk w.heap.size (.deferred (some []))] ++ (own1 ++ hsI)) :=
      List.perm_append_comm.trans ((List.Perm.swap F _ []).append_right _)
    simpa [List.append_assoc] using p1
  rcases hJ with ⟨own1, hdj, hH, hJ⟩ | ⟨c, own1, hdj, hH, hJ⟩
  · obtain ⟨w4, h1, h2⟩ := done rc own1 hdj hH (by simp [rc])
    refine ⟨none, w4, h1, ?_⟩
    exact Lift.mk (ds := SL.mark w.heap.size :: ds) (by simp) (has_tmps ha) (by simp [hd]) h2 (hdone _ _ hJ)
  · obtain ⟨w4, h1, h2⟩ := done _ own1 hdj hH (by simp)
    refine ⟨some c, w4, h1, ?_⟩
    exact hstop _ _ _ hJ _ w4 (has_tmps ha) (by simp [hd]) h2
end
end Go.SL
end
section
/- Small helps for walks: loops over a state, ends of rounds. -/
namespace Go.SL
section
variable {P : Program} {r : Option Nat} {F : Heap} {n : Nat} {Q : SPost} {env : Env} {own rest hs own' : List Heap} {ds : List Deferred}

/-- A loop over a state. -/
theorem swp_loopS {S : Type} (E : S → Env) (O : S → List Heap) (I : S → Prop) (μ : S → Nat) {c : Code} (s0 : S) [t : TakeL own (O s0) rest]
    (he : Sub (E s0) env) (hI : I s0)
    (round : ∀ s, I s → SWP P r F n c (Thn (fun env' own' ds' => ds' = ds ∧ ∃ s', (Sub (E s') env' ∧ ∀ w, Sat (F :: own') w → Sat (F :: O s') w) ∧ I s' ∧ μ s' < μ s) Q) (E s) (O s) ds) :
    SWP P r F n (.loop c) Q env own ds := by
  refine SWP.weaken (env' := E s0) (own' := O s0) he (fun w s => (s.perm (t.perm.cons F)).sub (List.Sublist.cons_cons F (List.sublist_append_left _ _))) ?_
  refine swp_loop (fun env own m => ∃ s, env = E s ∧ own = O s ∧ m = μ s ∧ I s) (μ s0) ?_ ⟨s0, rfl, rfl, rfl, hI⟩
  rintro env own m ⟨s, rfl, rfl, rfl, hs⟩
  refine (round s hs).mono fun e env own ds h => ?_
  cases e with
  | normal =>
    obtain ⟨h1, s', ⟨h2, h3⟩, h4, h5⟩ := h
    exact ⟨h1, E s', O s', μ s', h5, h2, h3, s', rfl, rfl, rfl, h4⟩
  | _ => exact h
theorem next_ok {E : Env} {O : List Heap} [t : TakeL own O rest] (h : Sub E env) : Sub E env ∧ ∀ w, Sat (F :: own) w → Sat (F :: O) w :=
  ⟨h, fun _ s => (s.perm (t.perm.cons F)).sub (List.Sublist.cons_cons F (List.sublist_append_left _ _))⟩
theorem swp_emp {c : Code} (h : SWP P r F n c Q env (emp :: own) ds) : SWP P r F n c Q env own ds := fun a w ha hd s => by
  have : Sat (emp :: F :: own) w := ⟨fun h hh => by
    rcases List.mem_cons.1 hh with rfl | hh
    · intro b o e; cases e
    · exact s.le h hh, List.pairwise_cons.2 ⟨fun _ _ _ _ _ e _ => (by cases e), s.dj⟩⟩
  exact h a w ha hd this.swap
/-- A call that returns. -/
theorem sl_callT {all : Array Oper} {l : List Oper} {o : Oper} {c : Call} {x : Operand} {f : FuncId} {first captured : Array Value} {vs vall : List Value} {R : Ending → List Heap → Prop} [Enters P f] [t : TakeL own hs rest] {d : Nat}
    (hd : o.dst = some d) (hn : Nat.blt d n = true) (hg : wantedE all env o = some true)
    (ho : o.op = .call c) (hc : c.callee = .value x) (hx : ev env x = some (.func (.func f) first captured)) (hvs : evs env c.args.toList = some vs)
    (hall : appO first.toList vs captured.toList = some vall) (h : T P f vall hs R)
    (hr : ∀ e own', R e own' → ∃ v own2, e = .returned v ∧ appH own' rest = some own2 ∧ SOL false P r F n all l Q ((d, v) :: env) own2 ds) :
    SOL false P r F n all (o :: l) Q env own ds :=
  sl_call hd hn hg ho hc hx hvs hall h fun e own' hR => by
    obtain ⟨v, own2, h1, h2, h3⟩ := hr e own' hR
    exact .inl ⟨v, h1, by rw [← appH_eq h2]; exact h3⟩
instance Sl.none {h : Heap} : Sl h none [] := ⟨fun k v hk => by cases hk⟩
/-- The end of a body: what is left behind is said in full. -/
theorem end_retW {fn : Func} {own1 : List Heap} (hs : List Heap) {v : Value} {Q : Ending → List Heap → Prop} [m : Marks ds own own1] (hr : ResOk P fn.results.toList own1 env n v)
    (hw : ∀ F w, Sat (F :: own1) w → Sat (F :: hs) w) (hq : Q (.returned v) hs) : bodyQ P fn n Q .ret env own ds := ⟨v, own1, hs, m, hr, hw, hq⟩
end
end Go.SL
end
section
/- Structs compared; loads of several cells of a slice. -/
namespace Go.SL

def eqC : Nat → Value → Value → Option Bool
  | 0, .int k a, .int k' b => if k = k' then some (decide (a = b)) else none
  | 1, .bool a, .bool b => some (a == b)
  | 2, .string a, .string b => some (a.toList == b.toList)
  | _, _, _ => none
def eqS (xs ys : List Value) : List (Nat × Nat) → Option Bool
  | [] => some true
  | (i, k) :: r => match nth xs i with
    | some a => match nth ys i with
      | some b => match eqC k a b with
        | some e => match eqS xs ys r with
          | some e' => some (e && e')
          | none => none
        | none => none
      | none => none
    | none => none
def eqKind (P : Program) (t : TypeId) : Nat := match P.underlying t with
  | some (.int _) => 0
  | some .bool => 1
  | some .string => 2
  | _ => 3
theorem run_eqC {P : Program} {t : TypeId} {d : Nat} {a b : Value} {e : Bool} (w : World) (h : eqC (eqKind P t) a b = some e) :
    (Op.equalIn (d + 1) t a b).run P w = .ok e w ∧ aggD ((P.underlying t).getD .bool) = false ∧ (P.underlying t).isSome = true := by
  unfold eqKind at h
  cases hu : P.underlying t with
  | none => rw [hu] at h; simp only at h; unfold eqC at h; split at h <;> first | cases h | skip
            all_goals simp_all
  | some de =>
    rw [hu] at h
    cases de <;> simp only at h <;> unfold eqC at h <;> split at h <;> simp_all
    all_goals first
      | (obtain ⟨rfl, rfl⟩ := h; exact ⟨run_equalIn_int w d t _ _ _ _ hu, rfl⟩)
      | (subst h; exact ⟨run_equalIn_bool w d t _ _ hu, rfl⟩)
      | (subst h; exact ⟨run_equalIn_string w d t _ _ hu, rfl⟩)
      | skip
theorem run_partC {P : Program} {t : TypeId} {xs : List Value} {off : Nat} {v : Value} (w : World) (h1 : aggD ((P.underlying t).getD .bool) = false) (h2 : (P.underlying t).isSome = true) (hx : nth xs off = some v) : (part t ⟨xs⟩ off).run P w = .ok v w := by
  rw [nth_eq] at hx
  cases hu : P.underlying t with
  | none => rw [hu] at h2; cases h2
  | some d =>
    rw [hu] at h1
    have hx' : (⟨xs⟩ : Array Value)[off]? = some v := by simpa using hx
    cases d
    case struct => cases h1
    case array => cases h1
    all_goals simp [part, isAgg, run_underlying hu, hx]
theorem run_eqFieldsS {P : Program} (w : World) (d : Nat) {xs ys : List Value} : ∀ (fs : List Field) (r : Bool), (∀ f ∈ fs, f.name ≠ "_") → eqS xs ys (fs.map fun f => (f.offset, eqKind P f.type)) = some r →
    (Op.eqFields (d + 1) ⟨xs⟩ ⟨ys⟩ fs).run P w = .ok r w := by
  intro fs
  induction fs with
  | nil => intro r _ h; cases h; simp [Op.eqFields]
  | cons f fs ih =>
    intro r hn h
    simp only [List.map_cons, eqS] at h
    cases h1 : nth xs f.offset with
    | none => rw [h1] at h; cases h
    | some a =>
      rw [h1] at h
      cases h2 : nth ys f.offset with
      | none => rw [h2] at h; cases h
      | some b =>
        rw [h2] at h
        cases h3 : eqC (eqKind P f.type) a b with
        | none => simp only [h3] at h; cases h
        | some e =>
          simp only [h3] at h
          cases h4 : eqS xs ys (fs.map fun f => (f.offset, eqKind P f.type)) with
          | none => simp only [h4] at h; cases h
          | some e' =>
            simp only [h4, Option.some.injEq] at h
            subst h
            obtain ⟨g1, g2, g3⟩ := run_eqC (d := d) w h3
            have g4 := ih e' (fun g hg => hn g (List.mem_cons_of_mem _ hg)) h4
            simp only [Op.eqFields, hn f (List.mem_cons_self ..), ne_eq, not_false_eq_true, if_true, Sem.run_bind, run_partC w g2 g3 h1, run_partC w g2 g3 h2, g1, Result.andThen_ok]
            cases e
            · simp
            · simpa using g4

/-- A struct of numbers, bools and strings, to be compared. -/
class TyQ (P : Program) (t : TypeId) (ks : outParam (List (Nat × Nat))) : Prop where
  u : P.underlying t = some (.struct (P.fieldsOf t))
  st : P.stoodInHeld t = false
  g : P.eqGuardType P.depth t = false
  nm : (P.fieldsOf t).toList.all (fun f => f.name != "_") = true
  ks : (P.fieldsOf t).toList.map (fun f => (f.offset, eqKind P f.type)) = ks
theorem TyQ.run {P : Program} {t : TypeId} {ks : List (Nat × Nat)} (q : TyQ P t ks) {xs ys : List Value} {r : Bool} (h : eqS xs ys ks = some r) (w : World) : (Op.equal t (.agg ⟨xs⟩) (.agg ⟨ys⟩)).run P w = .ok r w := by
  have h1 := run_equalIn_struct w 9999 t ⟨xs⟩ ⟨ys⟩ q.u q.st
  refine h1.trans (run_eqFieldsS w 9998 _ r (fun f hf => ?_) (by rw [q.ks]; exact h))
  have := List.all_eq_true.1 q.nm f hf
  simpa using this

section
variable {P : Program} {own : List Heap} {n : Nat} {env : Env} {o : Oper}
theorem opv_eqlS {t u : TypeId} {x y : Operand} {xs ys : List Value} {ks : List (Nat × Nat)} {r : Bool} [q : TyQ P t ks] (ho : o.op = .binOp .eql t x y u) (hx : ev env x = some (.agg ⟨xs⟩)) (hy : ev env y = some (.agg ⟨ys⟩)) (h : eqS xs ys ks = some r) : OpV P own n o env (.bool r) :=
  opv_run (by rw [ho]; rfl) fun c w ha => by
    have hg : (eqGuard .eql t x y (.agg ⟨xs⟩) (.agg ⟨ys⟩)).run P w = .ok () w := by simp [eqGuard, q.g]
    simp only [execOp, ho, ha.eval hx, ha.eval hy]
    simp [hg, binOp, q.run h]
theorem opv_neqS {t u : TypeId} {x y : Operand} {xs ys : List Value} {ks : List (Nat × Nat)} {r : Bool} [q : TyQ P t ks] (ho : o.op = .binOp .neq t x y u) (hx : ev env x = some (.agg ⟨xs⟩)) (hy : ev env y = some (.agg ⟨ys⟩)) (h : eqS xs ys ks = some r) : OpV P own n o env (.bool (!r)) :=
  opv_run (by rw [ho]; rfl) fun c w ha => by
    have hg : (eqGuard .neq t x y (.agg ⟨xs⟩) (.agg ⟨ys⟩)).run P w = .ok () w := by simp [eqGuard, q.g]
    simp only [execOp, ho, ha.eval hx, ha.eval hy]
    simp [hg, binOp, q.run h]
/-- Several cells of a slice, as one value. -/
theorem opv_loadEL {t : TypeId} {x : Operand} {k sz : Nat} {base : Option Addr} {cs ds vs : List Value} [ty : TyA P t sz] (ho : o.op = .load t x) (hx : ev env x = some (ept base k)) [m : SlIn own base cs] (hd : dropO cs k = some ds) (hv : takeO ds sz = some vs) (hpos : Nat.blt 0 sz = true) : OpV P own n o env (.agg ⟨vs⟩) := by
  obtain ⟨rfl, h1⟩ := dropO_eq hd
  obtain ⟨rfl, h2⟩ := takeO_eq hv
  refine opv_loadEA ho hx (Nat.le_of_ble_eq_true hpos) ?_ fun j v hj => ?_
  · simp at h2 ⊢; omega
  · have hj' := (List.getElem?_eq_some_iff.1 hj).1
    rw [List.getElem?_take] at hj
    split at hj
    · rwa [List.getElem?_drop] at hj
    · cases hj
end
end Go.SL
end
section
/- From a contract to what a row asks. -/
namespace Go.SL
open Go.RowKit
/-- What was there is there; and what was free to be written is. -/
def GrownO (W w' : World) : Prop := W.keptBut w' (fun _ => False) ∧ (∀ a, a.block < W.heap.size → w'.frozen? a = W.frozen? a) ∧ W.heap.size ≤ w'.heap.size
theorem grown_of {w w' : World} (h : hle (wh w) (wh w')) : GrownO w w' := by
  have hos := h .os _ rfl
  simp only [wh, Option.some.injEq, HV.os.injEq] at hos
  have hb : ∀ (i : Nat) o, w.heap[i]? = some o → w'.heap[i]? = some o := fun i o hi => wh_b.1 (h _ _ (wh_b.2 hi))
  refine ⟨⟨hos.1, hos.2, fun i hi => ?_⟩, fun a ha => ?_, ?_⟩
  · have h1 : w.heap[i]? = some w.heap[i] := Array.getElem?_eq_getElem hi
    rw [hb i _ h1, h1]
    cases w.heap[i] <;> simp
  · have h2 : wh w (.fz a.block) = some (.fz fun off => w.frozen? ⟨a.block, off, none⟩) := by simp only [wh, if_pos ha]
    have := h (.fz a.block) _ h2
    simp only [wh] at this
    split at this
    · simp only [Option.some.injEq, HV.fz.injEq] at this
      have := congrFun this a.off
      simpa [World.frozen?] using this
    · cases this
  · rcases Nat.lt_or_ge w'.heap.size w.heap.size with hlt | hge
    · have h1 : w.heap[w'.heap.size]? = some w.heap[w'.heap.size] := Array.getElem?_eq_getElem hlt
      have := hb _ _ h1
      simp at this
    · exact hge
theorem sat_all (w : World) : Sat [wh w] w := ⟨fun h hh => by rw [List.mem_singleton.1 hh]; exact hle.refl _, List.pairwise_singleton _ _⟩
/-- A function that hands back a known value, and wants nothing of the memory. -/
theorem PFn.row {P : Program} {f : FuncId} {args : List Value} {v : Value} (h : PFn P f args [] v) (w : World) : Calls P f args.toArray w fun e w' => e = .returned v ∧ GrownO w w' :=
  (h w [wh w] (sat_all w)).mono fun e w' ⟨own, s, he, ho⟩ => ⟨he, grown_of (s.le _ (by simp))⟩
end Go.SL
end
section
/- Words of 64 bits as natural numbers. -/
namespace Go.SL
abbrev u64 (n : Nat) : Value := .int .u64 (n : Int)

theorem wrap_u64 (n : Nat) : IntKind.u64.wrap (n : Int) = ((n % 2 ^ 64 : Nat) : Int) := by
  simp only [IntKind.wrap, IntKind.bits, IntKind.signed, Bool.false_and, Bool.false_eq_true, if_false]
  norm_cast
theorem wrap_u64' {n : Nat} (h : n < 2 ^ 64) : IntKind.u64.wrap (n : Int) = (n : Int) := by rw [wrap_u64, Nat.mod_eq_of_lt h]
theorem shr_nat {a : Nat} (b : Nat) (h : a < 2 ^ 64) : shr .u64 (a : Int) (b : Int) = ((a >>> b : Nat) : Int) := by
  have e : ∀ k : Nat, (a : Int).fdiv (2 ^ k) = ((a >>> k : Nat) : Int) := fun k => by
    rw [Int.fdiv_eq_ediv_of_nonneg _ (Int.le_of_lt (Int.pow_pos (by decide))), Nat.shiftRight_eq_div_pow]
    norm_cast
  simp only [shr, IntKind.bits, Int.toNat_natCast]
  rw [e]
  by_cases hb : b ≤ 64
  · rw [Nat.min_eq_left hb]
  · rw [Nat.min_eq_right (by omega), Nat.shiftRight_eq_div_pow, Nat.shiftRight_eq_div_pow, Nat.div_eq_of_lt h, Nat.div_eq_of_lt (Nat.lt_of_lt_of_le h (Nat.pow_le_pow_right (by decide) (by omega)))]
theorem shl_nat (a b : Nat) : shl .u64 (a : Int) (b : Int) = ((a <<< b % 2 ^ 64 : Nat) : Int) := by
  simp only [shl, IntKind.bits, Int.toNat_natCast]
  have : (a : Int) * 2 ^ (min b 64) = ((a * 2 ^ min b 64 : Nat) : Int) := by norm_cast
  rw [this, wrap_u64, Nat.shiftLeft_eq]
  by_cases hb : b ≤ 64
  · rw [Nat.min_eq_left hb]
  · rw [Nat.min_eq_right (by omega)]
    have e : 2 ^ b = 2 ^ 64 * 2 ^ (b - 64) := by rw [← Nat.pow_add]; congr 1; omega
    rw [Nat.mul_mod_left, e, ← Nat.mul_assoc, Nat.mul_right_comm, Nat.mul_mod_left]
theorem ofInt_nat (a : Nat) : BitVec.ofInt 64 (a : Int) = BitVec.ofNat 64 a := by simp
theorem and_nat {a b : Nat} (ha : a < 2 ^ 64) (hb : b < 2 ^ 64) : bitsOp .and .u64 (a : Int) (b : Int) = ((a &&& b : Nat) : Int) := by
  show IntKind.u64.wrap (((BitVec.ofInt 64 (a : Int) &&& BitVec.ofInt 64 (b : Int)).toNat : Nat) : Int) = _
  rw [wrap_u64' (BitVec.isLt _), ofInt_nat, ofInt_nat, BitVec.toNat_and, BitVec.toNat_ofNat, BitVec.toNat_ofNat, Nat.mod_eq_of_lt ha, Nat.mod_eq_of_lt hb]
theorem or_nat {a b : Nat} (ha : a < 2 ^ 64) (hb : b < 2 ^ 64) : bitsOp .or .u64 (a : Int) (b : Int) = ((a ||| b : Nat) : Int) := by
  show IntKind.u64.wrap (((BitVec.ofInt 64 (a : Int) ||| BitVec.ofInt 64 (b : Int)).toNat : Nat) : Int) = _
  rw [wrap_u64' (BitVec.isLt _), ofInt_nat, ofInt_nat, BitVec.toNat_or, BitVec.toNat_ofNat, BitVec.toNat_ofNat, Nat.mod_eq_of_lt ha, Nat.mod_eq_of_lt hb]
theorem xor_nat {a b : Nat} (ha : a < 2 ^ 64) (hb : b < 2 ^ 64) : bitsOp .xor .u64 (a : Int) (b : Int) = ((a ^^^ b : Nat) : Int) := by
  show IntKind.u64.wrap (((BitVec.ofInt 64 (a : Int) ^^^ BitVec.ofInt 64 (b : Int)).toNat : Nat) : Int) = _
  rw [wrap_u64' (BitVec.isLt _), ofInt_nat, ofInt_nat, BitVec.toNat_xor, BitVec.toNat_ofNat, BitVec.toNat_ofNat, Nat.mod_eq_of_lt ha, Nat.mod_eq_of_lt hb]
/-- The bits of one that are none of another one's. -/
def andNot (a b : Nat) : Nat := a &&& (2 ^ 64 - (b + 1))
theorem andNot_nat {a b : Nat} (ha : a < 2 ^ 64) (hb : b < 2 ^ 64) : bitsOp .andNot .u64 (a : Int) (b : Int) = ((andNot a b : Nat) : Int) := by
  show IntKind.u64.wrap (((BitVec.ofInt 64 (a : Int) &&& ~~~ BitVec.ofInt 64 (b : Int)).toNat : Nat) : Int) = _
  rw [wrap_u64' (BitVec.isLt _), ofInt_nat, ofInt_nat, BitVec.toNat_and, BitVec.toNat_not, BitVec.toNat_ofNat, BitVec.toNat_ofNat, Nat.mod_eq_of_lt ha, Nat.mod_eq_of_lt hb, andNot]
  rw [show 2 ^ 64 - 1 - b = 2 ^ 64 - (b + 1) by omega]
theorem andNot_testBit {a b : Nat} (ha : a < 2 ^ 64) (hb : b < 2 ^ 64) (i : Nat) : (andNot a b).testBit i = (a.testBit i && !b.testBit i) := by
  rw [andNot, Nat.testBit_and, Nat.testBit_two_pow_sub_succ hb]
  by_cases hi : i < 64
  · simp [hi]
  · have : a.testBit i = false := Nat.testBit_lt_two_pow (Nat.lt_of_lt_of_le ha (Nat.pow_le_pow_right (by decide) (by omega)))
    simp [this]
theorem andNot_lt {a b : Nat} (ha : a < 2 ^ 64) : andNot a b < 2 ^ 64 := Nat.lt_of_le_of_lt Nat.and_le_left ha
theorem shl_one {q : Nat} (h : q < 2 ^ 63) : shl .u64 (q : Int) 1 = ((q * 2 : Nat) : Int) := by
  have := shl_nat q 1
  rw [show ((1 : Nat) : Int) = 1 from rfl] at this
  rw [this, Nat.shiftLeft_eq, Nat.pow_one, Nat.mod_eq_of_lt (by omega)]
theorem shl_one_add {q : Nat} (h : q < 2 ^ 63) : IntKind.u64.wrap (shl .u64 (q : Int) 1 + 1) = ((q * 2 + 1 : Nat) : Int) := by
  rw [shl_one h, show ((q * 2 : Nat) : Int) + 1 = ((q * 2 + 1 : Nat) : Int) by omega, wrap_u64' (by omega)]
theorem testBit_mod (w i : Nat) : (w >>> i) % 2 = (w.testBit i).toNat := by
  rw [Nat.testBit, Nat.and_comm, Nat.and_one_is_mod]
  rcases Nat.mod_two_eq_zero_or_one (w >>> i) with h | h <;> rw [h] <;> rfl
/-- One bit more, from below. -/
theorem bits_step (w i m : Nat) : (w >>> i) % 2 ^ (m + 1) = (w >>> (i + 1)) % 2 ^ m * 2 + (w.testBit i).toNat := by
  rw [← testBit_mod, Nat.pow_succ, Nat.mul_comm (2 ^ m) 2, Nat.mod_mul, Nat.shiftRight_succ]
  omega
end Go.SL
end
section
/- Arrays: their elements, as values and as places; bools compared; slices of slices. -/
namespace Go.SL

/-- An array type: how many, of what, in how many cells. -/
class TyR (P : Program) (t : TypeId) (n : outParam Nat) (e : outParam TypeId) (sz : outParam Nat) : Prop where
  u : P.underlying t = some (.array n e)
  s : ∀ w, (sizeOf e).run P w = .ok sz w
theorem tyR_mk {P : Program} {t e : TypeId} {n sz : Nat} {i : TypeInfo} (h1 : P.underlying t = some (.array n e)) (h2 : P.info? e = some i) (h3 : i.size = sz) : TyR P t n e sz :=
  ⟨h1, fun w => by rw [run_size h2, h3]⟩

section
variable {P : Program} {own : List Heap} {n : Nat} {env : Env} {o : Oper}
theorem opv_index {t e : TypeId} {len sz : Nat} {x ix : Operand} {k : IntKind} {j : Int} {cs : List Value} {v : Value} [h1 : TyR P t len e sz] [h2 : TyS P e] (ho : o.op = .index t x ix) (hx : ev env x = some (.agg ⟨cs⟩)) (hi : ev env ix = some (.int k j))
    (h0 : 0 ≤ j) (hlt : j < len) (hv : cs[j.toNat * sz]? = some v) : OpV P own n o env v :=
  opv_run (by rw [ho]; rfl) fun a w ha => by
    simp [execOp, ho, ha.eval hx, ha.eval hi, Instr.index, asIntOf, run_und h1.u, h0, hlt, h1.s, part, h2.run, hv]
theorem opv_indexA {t e : TypeId} {len sz : Nat} {x ix : Operand} {k : IntKind} {j : Int} {cs vs : List Value} [h1 : TyR P t len e sz] [h2 : TyA P e sz] (ho : o.op = .index t x ix) (hx : ev env x = some (.agg ⟨cs⟩)) (hi : ev env ix = some (.int k j))
    (h0 : 0 ≤ j) (hlt : j < len) (hv : (cs.drop (j.toNat * sz)).take sz = vs) : OpV P own n o env (.agg ⟨vs⟩) :=
  opv_run (by rw [ho]; rfl) fun a w ha => by
    simp [execOp, ho, ha.eval hx, ha.eval hi, Instr.index, asIntOf, run_und h1.u, h0, hlt, h1.s, part, h2.run, hv]
/-- An element's place, in an array that lies in a variable. -/
theorem opv_indexAddrR {t e : TypeId} {len sz : Nat} {x ix : Operand} {k : IntKind} {j : Int} {b off : Nat} [h1 : TyR P t len e sz] (ho : o.op = .indexAddr t x ix) (hx : ev env x = some (.pointer (some ⟨b, off, none⟩))) (hi : ev env ix = some (.int k j))
    (h0 : 0 ≤ j) (hlt : j < len) : OpV P own n o env (.pointer (some ⟨b, off + j.toNat * sz, none⟩)) :=
  opv_run (by rw [ho]; rfl) fun a w ha => by
    simp [execOp, ho, ha.eval hx, ha.eval hi, Instr.indexAt, asIntOf, run_und h1.u, h0, hlt, h1.s, Instr.sureAddr, addr_add]
theorem opv_eqlB {t u : TypeId} {x y : Operand} {a b : Bool} (hu : P.underlying t = some .bool) (ho : o.op = .binOp .eql t x y u) (hx : ev env x = some (.bool a)) (hy : ev env y = some (.bool b)) : OpV P own n o env (.bool (a == b)) :=
  opv_run (by rw [ho]; rfl) fun c w ha => by
    simp [execOp, ho, ha.eval hx, ha.eval hy, eqGuard, binOp, run_equal_bool w t a b hu]
theorem opv_neqB {t u : TypeId} {x y : Operand} {a b : Bool} (hu : P.underlying t = some .bool) (ho : o.op = .binOp .neq t x y u) (hx : ev env x = some (.bool a)) (hy : ev env y = some (.bool b)) : OpV P own n o env (.bool (!(a == b))) :=
  opv_run (by rw [ho]; rfl) fun c w ha => by
    simp [execOp, ho, ha.eval hx, ha.eval hy, eqGuard, binOp, run_equal_bool w t a b hu]
end
section
variable {P : Program} {r : Option Nat} {F : Heap} {n : Nat} {Q : SPost} {env : Env} {own : List Heap} {ds : List Deferred} {q : Bool} {all : Array Oper} {l : List Oper} {o : Oper}
theorem sl_tt {b : Bool} {d : Nat} (hd : o.dst = some d) (hn : Nat.blt d n = true) (hg : wantedE all env o = some true) (hv : OpV P (F :: own) n o env (.bool b)) (hb : b = true)
    (h : SOL q P r F n all l Q ((d, .bool true) :: env) own ds) : SOL q P r F n all (o :: l) Q env own ds := by
  subst hb; exact sl_op hd hn hg hv h
theorem sl_ff {b : Bool} {d : Nat} (hd : o.dst = some d) (hn : Nat.blt d n = true) (hg : wantedE all env o = some true) (hv : OpV P (F :: own) n o env (.bool b)) (hb : b = false)
    (h : SOL q P r F n all l Q ((d, .bool false) :: env) own ds) : SOL q P r F n all (o :: l) Q env own ds := by
  subst hb; exact sl_op hd hn hg hv h
end
end Go.SL
end
section
/- Rows of laws: the arguments opened, over the whole of memory as one heap; the end of a row. -/
namespace Go.SL
open Go.RowKit Go.ChangeShapes Go.WideShapes

/-! ### The end -/
theorem same_of_hle {w w' : World} (h : hle (wh w) (wh w')) {p : MemPlace} (hp : p.block < w.heap.size) : w.sameAt w' p := by
  have hb : w'.heap[p.block]? = w.heap[p.block]? := by
    have h1 : w.heap[p.block]? = some w.heap[p.block] := Array.getElem?_eq_getElem hp
    rw [h1]; exact wh_b.1 (h _ _ (wh_b.2 h1))
  cases p with
  | cell b off => simp only [World.sameAt, World.cell?]; rw [show w'.heap[b]? = w.heap[b]? from hb]
  | map b => exact hb
theorem trodAll_stays {H : Type} {enc : TypeId × Value → H} {P : Program} {w w' : World} (hl : laidOutB P = true) (h : hle (wh w) (wh w')) {sp : Nat → Bool} :
    ∀ {ts : List TypeId} {vs : List Value} {ds : List (DataW H)} {ps : List MemPlace}, (∀ t ∈ ts, P.readableRec t = true ∧ t < P.types.size) → DataW.TrodAll enc P w 0 (fun _ => true) true ts vs ds ps →
      (∀ p ∈ ps, p.block < w.heap.size) → (∀ p ∈ ps, sp p.block = true) → DataW.TrodAll enc P w' 0 sp true ts vs ds ps
  | [], [], [], _, _, h, _, _ => h
  | _ :: _, _ :: _, _ :: _, _, hT, ⟨p, q, h1, h2, e⟩, hlt, hs =>
    have g := hT _ (List.mem_cons_self ..)
    ⟨p, q, WideElems.Trod_stays hl g.1 g.2 h1 (fun x hx => same_of_hle h (hlt x (by rw [e]; exact List.mem_append_left _ hx))) (fun x hx => hs x (by rw [e]; exact List.mem_append_left _ hx)),
      trodAll_stays hl h (fun t ht => hT t (List.mem_cons_of_mem _ ht)) h2 (fun x hx => hlt x (by rw [e]; exact List.mem_append_right _ hx)) (fun x hx => hs x (by rw [e]; exact List.mem_append_right _ hx)), e⟩
def readables (P : Program) (ts : List TypeId) : Bool := laidOutB P && ts.all fun t => P.readableRec t && Nat.blt t P.types.size
theorem GrownO.frame {W w' : World} (h : GrownO W w') (p : MemPlace → Prop) : W.keptBut w' p := World.keptBut_mono (fun _ hf => hf.elim) h.1
/-- The kit's 'post_of_same', where what is new may be frozen. -/
theorem post_of_sameO {H : Type} {enc : TypeId × Value → H} {P : Program} {f : Func} {s : ChangeSpec} {apart fresh handsOn again : Bool} {W W' : World} {args : Array Value} {v : Value} {ds gs : List (DataW H)} {before pa pv : List MemPlace}
    (hW : DataW.Whole enc P f.params.toList s.vars apart W args.toList ds gs before)
    (hres : ∀ (b : Nat) (sp : Nat → Bool) (hd : Bool), DataW.TrodAll enc P W' b sp hd f.resultTypes.toList (v.resultList f.resultTypes.size) (s.fn H (ds ++ gs)).results [])
    (hargs : ∀ sp : Nat → Bool, (∀ p ∈ before, sp p.block = true) → DataW.TrodAll enc P W' 0 sp true f.params.toList args.toList (s.fn H (ds ++ gs)).args pa)
    (hvars : ∀ sp : Nat → Bool, (∀ p ∈ before, sp p.block = true) → DataW.TrodVars enc P W' sp s.vars (s.fn H (ds ++ gs)).vars pv)
    (hps : before = pa ++ pv) (hk : W.keptBut W' (· ∈ before)) (hfz : ∀ a, a.block < W.heap.size → W'.frozen? a = W.frozen? a)
    (hok : ∀ (j : Nat) (t : TypeId) (r : Value), f.resultTypes[j]? = some t → (v.resultList f.resultTypes.size)[j]? = some r → Value.okWide P W' .any 0 t r) :
    s.post enc P f apart fresh handsOn again W args v W' := by
  have hold : ∀ p ∈ before, (fun b => decide (b < W.heap.size)) p.block = true := fun p hp => by simpa using hW.lt p hp
  have hlt : ∀ b off, MemPlace.cell b off ∈ before → b < W.heap.size := fun b off hp => hW.lt _ hp
  refine ⟨ds, gs, before, [], pa, pv, hW, hres _ _ _, hargs _ hold, hvars _ hold, World.keptBut_mono (fun p hp => ⟨hp, ?_⟩) hk, fun _ => ?_⟩
  · rw [hps, List.mem_append] at hp
    exact Or.inr hp
  · obtain ⟨_, _, _, _, _, hz, hn⟩ := hW
    refine ⟨hok, _, _, ([] ++ pa) ++ pv, ⟨[] ++ pa, pv, trodAll_append (hargs _ (fun _ _ => rfl)) (hres _ _ _), hvars _ (fun _ _ => rfl), rfl, ?_, ?_⟩, ?_⟩
    · intro b off hp
      have hp' : MemPlace.cell b off ∈ before := by rw [hps]; simpa using hp
      rw [hfz _ (hlt b off hp')]
      exact hz b off hp'
    · intro ha
      have := hn ha
      rw [hps] at this
      simpa using this
    · intro p hp _
      rw [hps]
      simpa using hp
theorem law_end {H : Type} {enc : TypeId × Value → H} {P : Program} {f : Func} {s : ChangeSpec} {apart fresh handsOn again : Bool} {W W' : World} {args : Array Value} {ds gs : List (DataW H)} {before p : List MemPlace} {bt : TypeId}
    (hW : DataW.Whole enc P f.params.toList s.vars apart W args.toList ds gs before) (hA : DataW.TrodAll enc P W 0 (fun _ => true) true f.params.toList args.toList ds p) (hp : before = p) (hg0 : gs = []) (hv : s.vars = [])
    (hs : s.fn H ds = { results := [.lit (.bool true)], args := ds }) (hr : readables P f.params.toList = true) (hres : f.resultTypes = #[bt]) (hu : P.underlying bt = some .bool)
    (h : hle (wh W) (wh W')) : s.post enc P f apart fresh handsOn again W args (.bool true) W' := by
  subst hp; subst hg0
  have hg := grown_of h
  simp only [readables, Bool.and_eq_true, List.all_eq_true] at hr
  refine post_of_sameO (pa := before) (pv := []) hW (fun b sp hd => ?_) (fun sp hsp => ?_) (fun _ _ => ?_) (by simp) (hg.frame _) hg.2.1 ?_
  · rw [List.append_nil, hs, hres]
    exact trodAll_cons_mk (shut_bool hu _) trodAll_mk0
  · rw [List.append_nil, hs]
    exact trodAll_stays hr.1 h (fun t ht => ⟨(hr.2 t ht).1, Nat.le_of_ble_eq_true (hr.2 t ht).2⟩) hA (fun x hx => hW.lt x hx) hsp
  · rw [List.append_nil, hs, hv]; rfl
  · exact ok_one hres rfl (okWide_bool_mk hu _)

/-! ### Opening -/
theorem okWide_aggS {P : Program} {w : World} {r : Reach} {base : Nat} {t : TypeId} {v : Value} {d : TypeDesc} (ht : P.underlying t = some d) (ha : aggD d = true) (h : Value.okWide P w r base t v) : ∃ cs : List Value, v = .agg ⟨cs⟩ := by
  unfold Value.okWide at h
  rw [ht] at h
  cases d <;> simp only [aggD] at ha <;> first | cases ha | skip
  · obtain ⟨cs, rfl, -⟩ := h; exact ⟨cs.toList, rfl⟩
  · obtain ⟨cs, rfl, -⟩ := h; exact ⟨cs.toList, rfl⟩

/-- The cells of a slice that came in, over the whole of memory. -/
theorem mapM_range {α : Type} {f : Nat → Option α} : ∀ {n : Nat} {l : List α}, (List.range n).mapM f = some l → l.length = n ∧ ∀ i, i < n → ∃ x, f i = some x ∧ l[i]? = some x := by
  intro n
  induction n with
  | zero => intro l h; simp at h; subst h; exact ⟨rfl, fun i hi => absurd hi (Nat.not_lt_zero _)⟩
  | succ n ih =>
    intro l h
    rw [List.range_succ, List.mapM_append] at h
    cases h1 : (List.range n).mapM f with
    | none => rw [h1] at h; simp at h
    | some l1 =>
      cases h2 : f n with
      | none => rw [h1] at h; simp [h2] at h
      | some y =>
        rw [h1] at h; simp [h2] at h
        subst h
        obtain ⟨g1, g2⟩ := ih h1
        refine ⟨by simp [g1], fun i hi => ?_⟩
        by_cases e : i = n
        · subst e; exact ⟨y, h2, by rw [List.getElem?_append_right (by omega), g1]; simp⟩
        · obtain ⟨x, hx, hl⟩ := g2 i (by omega)
          exact ⟨x, hx, by rw [List.getElem?_append_left (by omega)]; exact hl⟩
theorem cells_at {w : World} {a : Addr} {n : Nat} {cs : List Value} (h : w.cells? 0 a n = some cs) : cs.length = n ∧ ∀ i v, cs[i]? = some v → w.cell? (a.add i) = some v := by
  unfold World.cells? at h
  rw [if_pos (Nat.zero_le _)] at h
  obtain ⟨h1, h2⟩ := mapM_range h
  refine ⟨h1, fun i v hi => ?_⟩
  obtain ⟨x, hx, hl⟩ := h2 i (by rw [← h1]; exact (List.getElem?_eq_some_iff.1 hi).1)
  rw [hi] at hl; cases hl; exact hx
theorem cell_spot {w : World} {a : Addr} {v : Value} (h : w.cell? a = some v) : a.spot = none ∧ ∃ arr T fz, wh w (.b a.block) = some (.o (.cells arr T fz)) ∧ arr[a.off]? = some v := by
  unfold World.cell? at h
  cases hb : w.heap[a.block]? with
  | none => rw [hb] at h; cases h
  | some o =>
    rw [hb] at h
    cases o with
    | cells c T fz =>
      simp only at h
      split at h
      · cases h
      · rename_i hs
        refine ⟨?_, c, T, fz, wh_b.2 hb, h⟩
        cases e : a.spot with
        | none => rfl
        | some _ => rw [e] at hs; simp at hs
    | _ => cases h
theorem add_zero' (a : Addr) : a.add 0 = a := by unfold Addr.add; rw [if_pos rfl]

theorem sl_open {H : Type} {enc : TypeId × Value → H} {P : Program} {w : World} {sp : Nat → Bool} {held : Bool} {t e : TypeId} {sz fuel : Nat} {base : Option Addr} {len cap : Nat} {x : DataW H × List MemPlace}
    (ht : P.underlying t = some (.slice e)) (hsz : P.cellsOf e = sz) (hpos : 0 < sz) (h : DataW.trod enc P w 0 sp held fuel t [.slice base len cap] = some x) :
    ∃ cs : List Value, cs.length = len * sz ∧ Sl (wh w) base cs ∧ len ≤ maxLen ∧ len ≤ cap ∧ ∃ n, ∀ i, i < len → ∃ y, DataW.trod enc P w 0 sp held n e ((cs.drop (i * sz)).take sz) = some y := by
  rcases Deep.open_slice ht h with ⟨h0, -⟩ | ⟨a, len', cap', m, n, D, Pl, h0, -, hle, hcap, hm, -, hel⟩
  · cases h0
    exact ⟨[], by simp, ⟨fun k v hk => by cases hk⟩, Nat.zero_le _, Nat.zero_le _, 0, fun i hi => absurd hi (Nat.not_lt_zero _)⟩
  · cases h0
    have hlm : len ≤ m := by rw [hm]; split <;> omega
    rw [hsz] at hel
    have hspot : 0 < len → a.spot = none := fun h0 => by
      obtain ⟨row, h1, -⟩ := hel 0 (by omega)
      obtain ⟨g1, g2⟩ := cells_at h1
      have := g2 0 row[0] (by simp [g1, hpos])
      rw [Nat.zero_mul, add_zero', add_zero'] at this
      exact (cell_spot this).1
    have hrow : ∀ i, i < len → ∃ row : List Value, row.length = sz ∧ (∀ j v, row[j]? = some v → w.cell? (a.add (i * sz + j)) = some v) ∧ ∃ y, DataW.trod enc P w 0 sp held n e row = some y := fun i hi => by
      obtain ⟨row, h1, h2⟩ := hel i (by omega)
      obtain ⟨g1, g2⟩ := cells_at h1
      refine ⟨row, g1, fun j v hj => ?_, _, h2⟩
      have := g2 j v hj
      have e1 : (a.add (i * sz)).add j = a.add (i * sz + j) := by
        have hs2 := hspot (by omega)
        obtain ⟨b, o, s⟩ := a
        simp only at hs2
        subst hs2
        rw [addr_add, addr_add, addr_add, Nat.add_assoc]
      rw [← e1]; exact this
    have key : ∀ k, k ≤ len → ∃ cs : List Value, cs.length = k * sz ∧ (∀ j v, cs[j]? = some v → w.cell? (a.add j) = some v) ∧ ∀ i, i < k → ∃ y, DataW.trod enc P w 0 sp held n e ((cs.drop (i * sz)).take sz) = some y := by
      intro k
      induction k with
      | zero => intro _; exact ⟨[], by simp, fun j v hj => (by cases hj), fun i hi => absurd hi (Nat.not_lt_zero _)⟩
      | succ k ih =>
        intro hk
        obtain ⟨cs, g1, g2, g3⟩ := ih (by omega)
        obtain ⟨row, r1, r2, r3⟩ := hrow k (by omega)
        refine ⟨cs ++ row, by rw [List.length_append, g1, r1, Nat.add_mul, Nat.one_mul], fun j v hj => ?_, fun i hi => ?_⟩
        · rcases getElem?_tail hj with ⟨q1, q2⟩ | ⟨q1, q2⟩
          · exact g2 j v q2
          · have := r2 _ v q2
            rw [show k * sz + (j - cs.length) = j by omega] at this; exact this
        · by_cases e1 : i = k
          · subst e1
            rw [List.drop_append_of_le_length (by omega), ← g1, List.drop_length, List.nil_append, List.take_of_length_le (by omega)]
            exact r3
          · obtain ⟨y, hy⟩ := g3 i (by omega)
            refine ⟨y, ?_⟩
            have : i * sz + sz ≤ cs.length := by
              have : (i + 1) * sz ≤ k * sz := Nat.mul_le_mul_right _ (by omega)
              rw [Nat.add_mul, Nat.one_mul] at this; omega
            rw [List.drop_append_of_le_length (by omega), List.take_append_of_le_length (by rw [List.length_drop]; omega)]
            exact hy
    obtain ⟨cs, g1, g2, g3⟩ := key len (Nat.le_refl _)
    refine ⟨cs, g1, ⟨fun k v hk => ?_⟩, by omega, hle, n, g3⟩
    have hc := g2 k v hk
    have hlt : k < cs.length := (List.getElem?_eq_some_iff.1 hk).1
    have hs2 := hspot (by
      rcases Nat.eq_zero_or_pos len with h | h
      · rw [h, Nat.zero_mul] at g1; omega
      · exact h)
    obtain ⟨b, o, s⟩ := a
    simp only at hs2
    subst hs2
    rw [addr_add] at hc
    obtain ⟨-, arr, T, fz, q1, q2⟩ := cell_spot hc
    exact ⟨⟨b, o, none⟩, arr, T, fz, rfl, rfl, q1, q2⟩

/-- The numbers of a slice. -/
theorem sl_open_ints {H : Type} {enc : TypeId × Value → H} {P : Program} {w : World} {sp : Nat → Bool} {held : Bool} {t e : TypeId} {k : IntKind} {fuel : Nat} {base : Option Addr} {len cap : Nat} {x : DataW H × List MemPlace}
    (ht : P.underlying t = some (.slice e)) (he : P.underlying e = some (.int k)) (hsz : P.cellsOf e = 1) (h : DataW.trod enc P w 0 sp held fuel t [.slice base len cap] = some x) :
    ∃ zs : List Int, zs.length = len ∧ Sl (wh w) base (zs.map (.int k)) ∧ len ≤ maxLen ∧ len ≤ cap ∧ ∀ z ∈ zs, (Lit.int k z).wf = true := by
  obtain ⟨cs, h1, h2, h3, hlc, n, h4⟩ := sl_open ht hsz (by decide) h
  rw [Nat.mul_one] at h1
  have key : ∀ m, m ≤ len → ∃ zs : List Int, cs.take m = zs.map (.int k) ∧ ∀ z ∈ zs, (Lit.int k z).wf = true := by
    intro m
    induction m with
    | zero => intro _; exact ⟨[], by simp, fun z hz => by cases hz⟩
    | succ m ih =>
      intro hm
      obtain ⟨zs, g1, g2⟩ := ih (by omega)
      obtain ⟨y, hy⟩ := h4 m (by omega)
      rw [Nat.mul_one] at hy
      have hlt : m < cs.length := by omega
      have e1 : (cs.drop m).take 1 = [cs[m]] := by rw [List.drop_eq_getElem_cons hlt]; rfl
      rw [e1] at hy
      obtain ⟨z, hz1, -, hz2⟩ := DataW.trod_int he hy
      simp only [List.cons.injEq, and_true] at hz1
      refine ⟨zs ++ [z], ?_, fun q hq => ?_⟩
      · rw [List.take_add_one, List.getElem?_eq_getElem hlt, g1, hz1]; simp
      · rcases List.mem_append.1 hq with hq | hq
        · exact g2 q hq
        · rw [List.mem_singleton.1 hq]; exact hz2
  obtain ⟨zs, g1, g2⟩ := key len (Nat.le_refl _)
  rw [List.take_of_length_le (by omega)] at g1
  refine ⟨zs, ?_, g1 ▸ h2, h3, hlc, g2⟩
  have := congrArg List.length g1
  simp at this; omega
/-- The numbers of an array. -/
theorem arr_open_ints {H : Type} {enc : TypeId × Value → H} {P : Program} {w : World} {sp : Nat → Bool} {held : Bool} {t e : TypeId} {k : IntKind} {fuel m : Nat} {cs : List Value} {x : DataW H × List MemPlace}
    (ht : P.underlying t = some (.array m e)) (he : P.underlying e = some (.int k)) (hsz : P.cellsOf e = 1) (hn : P.cellsOf t = m) (h : DataW.trod enc P w 0 sp held fuel t cs = some x) :
    ∃ zs : List Int, zs.length = m ∧ cs = zs.map (.int k) ∧ ∀ z ∈ zs, (Lit.int k z).wf = true := by
  cases fuel with
  | zero => cases h
  | succ fuel =>
    simp only [DataW.trod, ht] at h
    split at h
    · rename_i hl
      rw [hn] at hl
      simp only [hsz, Nat.mul_one, Option.map_eq_some_iff] at h
      obtain ⟨xs, hx, -⟩ := h
      obtain ⟨-, h2⟩ := mapM_range hx
      have key : ∀ q, q ≤ m → ∃ zs : List Int, cs.take q = zs.map (.int k) ∧ ∀ z ∈ zs, (Lit.int k z).wf = true := by
        intro q
        induction q with
        | zero => intro _; exact ⟨[], by simp, fun z hz => by cases hz⟩
        | succ q ih =>
          intro hm
          obtain ⟨zs, g1, g2⟩ := ih (by omega)
          obtain ⟨y, hy, -⟩ := h2 q (by omega)
          have hlt : q < cs.length := by omega
          have e1 : (cs.drop q).take 1 = [cs[q]] := by rw [List.drop_eq_getElem_cons hlt]; rfl
          rw [e1] at hy
          obtain ⟨z, hz1, -, hz2⟩ := DataW.trod_int he hy
          simp only [List.cons.injEq, and_true] at hz1
          refine ⟨zs ++ [z], ?_, fun r hr => ?_⟩
          · rw [List.take_add_one, List.getElem?_eq_getElem hlt, g1, hz1]; simp
          · rcases List.mem_append.1 hr with hr | hr
            · exact g2 r hr
            · rw [List.mem_singleton.1 hr]; exact hz2
      obtain ⟨zs, g1, g2⟩ := key m (Nat.le_refl _)
      rw [List.take_of_length_le (by omega)] at g1
      refine ⟨zs, ?_, g1, g2⟩
      have := congrArg List.length g1
      simp at this; omega
    · cases h
theorem list_two {α : Type} {l : List α} (h : l.length = 2) : ∃ a b, l = [a, b] := by
  match l, h with
  | [a, b], _ => exact ⟨a, b, rfl⟩
theorem list_three {α : Type} {l : List α} (h : l.length = 3) : ∃ a b c, l = [a, b, c] := by
  match l, h with
  | [a, b, c], _ => exact ⟨a, b, c, rfl⟩
/-- A function that reads of the whole of memory, and hands back a known value. -/
theorem PFn.rowS {P : Program} {f : FuncId} {args : List Value} {v : Value} (w : World) (h : PFn P f args [wh w] v) : Calls P f args.toArray w fun e w' => e = .returned v ∧ hle (wh w) (wh w') :=
  (h w [] (by simpa using sat_all w)).mono fun e w' ⟨own, s, he, ho⟩ => ⟨he, by subst ho; exact s.le _ (by simp)⟩
theorem PFn.rowN {P : Program} {f : FuncId} {args : List Value} {v : Value} (w : World) (h : PFn P f args [] v) : Calls P f args.toArray w fun e w' => e = .returned v ∧ hle (wh w) (wh w') :=
  (h w [wh w] (sat_all w)).mono fun e w' ⟨own, s, he, ho⟩ => ⟨he, s.le _ (by simp)⟩
theorem wf_u64 {z : Int} (h : (Lit.int .u64 z).wf = true) : ∃ n : Nat, z = n ∧ n < 2 ^ 64 := by
  have e1 : IntKind.u64.min = 0 := rfl
  have e2 : IntKind.u64.max = 18446744073709551615 := rfl
  simp [Lit.wf, e1, e2] at h
  exact ⟨z.toNat, by omega, by omega⟩
theorem wf_u8 {z : Int} (h : (Lit.int .u8 z).wf = true) : ∃ n : Nat, z = n ∧ n < 256 := by
  have e1 : IntKind.u8.min = 0 := rfl
  have e2 : IntKind.u8.max = 255 := rfl
  simp [Lit.wf, e1, e2] at h
  exact ⟨z.toNat, by omega, by omega⟩
theorem wf_i64 {z : Int} (h : (Lit.int .i64 z).wf = true) : -9223372036854775808 ≤ z ∧ z ≤ 9223372036854775807 := by
  have e1 : IntKind.i64.min = -9223372036854775808 := rfl
  have e2 : IntKind.i64.max = 9223372036854775807 := rfl
  simp [Lit.wf, e1, e2] at h
  exact h
end Go.SL
end
section
/- Slices of slices; heaps in another order. -/
namespace Go.SL

theorem run_bound {P : Program} {k : IntKind} {j : Int} {y : Nat} {code : BoundsCode} (h0 : 0 ≤ j) (h1 : j ≤ y) (w : World) : (Instr.sliceBound (.int k j) y code).run P w = .ok j.toNat w := by
  simp [Instr.sliceBound, asIntOf, h0, h1]
/-- Where a slice begins that leaves so many away. -/
def sub (base : Option Addr) (l m sz : Nat) : Option Addr := if m = l then base else base.map (·.add (l * sz))
theorem sub_zero (base : Option Addr) (m sz : Nat) : sub base 0 m sz = base := by
  unfold sub; split
  · rfl
  · cases base <;> simp [add_zero']
section
variable {P : Program} {own : List Heap} {n : Nat} {env : Env} {o : Oper}
theorem opv_sliceHi {t e : TypeId} {sz : Nat} {x y : Operand} {base : Option Addr} {len cap : Nat} {k : IntKind} {j : Int} [h1 : TyE P t e sz] (ho : o.op = .slice t x none (some y) none) (hx : ev env x = some (.slice base len cap)) (hy : ev env y = some (.int k j))
    (h0 : 0 ≤ j) (hj : j ≤ cap) : OpV P own n o env (.slice base j.toNat cap) :=
  opv_run (by rw [ho]; rfl) fun a w ha => by
    have hs := sub_zero base cap sz
    unfold sub at hs
    simp only [Nat.zero_mul] at hs
    simp [execOp, ho, ha.eval hx, ha.eval hy, Instr.sliceAt, Instr.slice, Instr.sliceBounds, run_und h1.u, h1.s, run_bound h0 hj]
    intro h; rw [if_neg h] at hs; exact hs
theorem opv_sliceLo {t e : TypeId} {sz : Nat} {x y : Operand} {base : Option Addr} {len cap : Nat} {k : IntKind} {j : Int} [h1 : TyE P t e sz] (ho : o.op = .slice t x (some y) none none) (hx : ev env x = some (.slice base len cap)) (hy : ev env y = some (.int k j))
    (h0 : 0 ≤ j) (hj : j ≤ len) : OpV P own n o env (.slice (sub base j.toNat cap sz) (len - j.toNat) (cap - j.toNat)) :=
  opv_run (by rw [ho]; rfl) fun a w ha => by
    simp [execOp, ho, ha.eval hx, ha.eval hy, Instr.sliceAt, Instr.slice, Instr.sliceBounds, run_und h1.u, h1.s, run_bound h0 hj, sub]
end
section
variable {P : Program} {own : List Heap} {n : Nat} {env : Env} {o : Oper}
theorem opv_loadEx {t : TypeId} {x : Operand} {k : Nat} {base : Option Addr} {cs : List Value} {v : Value} [ty : TyS P t] (ho : o.op = .load t x) (hx : ev env x = some (ept base k)) (m : SlIn own base cs) (hv : cs[k]? = some v) : OpV P own n o env v := opv_loadE ho hx hv
theorem opv_loadELx {t : TypeId} {x : Operand} {k sz : Nat} {base : Option Addr} {cs ds vs : List Value} [ty : TyA P t sz] (ho : o.op = .load t x) (hx : ev env x = some (ept base k)) (m : SlIn own base cs) (hd : dropO cs k = some ds) (hv : takeO ds sz = some vs) (hpos : Nat.blt 0 sz = true) : OpV P own n o env (.agg ⟨vs⟩) := opv_loadEL ho hx hd hv hpos
/-- A struct of two cells of a slice. -/
theorem opv_load2 {t : TypeId} {x : Operand} {k : Nat} {base : Option Addr} {cs : List Value} {v u : Value} [ty : TyA P t 2] (ho : o.op = .load t x) (hx : ev env x = some (ept base k)) (m : SlIn own base cs) (hv : cs[k]? = some v) (hu : cs[k + 1]? = some u) : OpV P own n o env (.agg ⟨[v, u]⟩) :=
  opv_loadEA (vs := [v, u]) ho hx (Nat.succ_pos 1) rfl fun j w hj => by
    match j, hj with
    | 0, hj => simp at hj; subst hj; exact hv
    | 1, hj => simp at hj; subst hj; exact hu
end
theorem Sl.take {h : Heap} {base : Option Addr} {cs : List Value} (s : Sl h base cs) (k : Nat) : Sl h base (cs.take k) :=
  ⟨fun j v hj => s.cell j v (by rw [List.getElem?_take] at hj; split at hj <;> first | exact hj | cases hj)⟩
theorem Sl.drop {h : Heap} {base : Option Addr} {cs : List Value} (s : Sl h base cs) (l m sz : Nat) (hl : cs.length ≤ m * sz) : Sl h (sub base l m sz) (cs.drop (l * sz)) :=
  ⟨fun j v hj => by
    rw [List.getElem?_drop] at hj
    obtain ⟨a, arr, T, fz, h1, h2, h3, h4⟩ := s.cell _ v hj
    have hlt := (List.getElem?_eq_some_iff.1 hj).1
    have hne : m ≠ l := fun e => by subst e; omega
    obtain ⟨b, off, sp⟩ := a
    simp only at h2; subst h2; subst h1
    refine ⟨⟨b, off + l * sz, Option.none⟩, arr, T, fz, ?_, rfl, h3, by simpa [Nat.add_assoc] using h4⟩
    simp [sub, hne, addr_add]⟩
section
variable {P : Program} {r : Option Nat} {F : Heap} {n : Nat} {Q : SPost} {env : Env} {own own' rest : List Heap} {ds : List Deferred}
theorem swp_perm {c : Code} (p : own.Perm own') (h : SWP P r F n c Q env own' ds) : SWP P r F n c Q env own ds :=
  fun a w ha hd hs => h a w ha hd (hs.perm (p.cons F))
/-- Where ways meet again. -/
theorem swp_joinS {S : Type} (E : S → Env) (O : S → List Heap) (I : S → Prop) {c y : Code} {Q2 Q3 : SPost}
    (h1 : SWP P r F n c (Thn (fun env' own' ds' => ds' = ds ∧ ∃ s, (Sub (E s) env' ∧ ∀ w, Sat (F :: own') w → Sat (F :: O s) w) ∧ I s) Q3) env own ds) (h2 : ∀ s, I s → SWP P r F n y Q2 (E s) (O s) ds) :
    SWP P r F n c (Thn (SWP P r F n y Q2) Q3) env own ds := by
  refine h1.mono fun e env' own' ds' h => ?_
  cases e with
  | normal =>
    obtain ⟨rfl, s, ⟨g1, g2⟩, hI⟩ := h
    exact SWP.weaken g1 g2 (h2 s hI)
  | _ => exact h
theorem next_perm {E : Env} {O O' : List Heap} [t : TakeL own O' rest] (p : O'.Perm O) (h : Sub E env) : Sub E env ∧ ∀ w, Sat (F :: own) w → Sat (F :: O) w :=
  ⟨h, fun _ s => ((s.perm (t.perm.cons F)).sub (List.Sublist.cons_cons F (List.sublist_append_left _ _))).perm (p.cons F)⟩
end
/-- What sort of operation it is: for the walk's driver. -/
def kindOf : Op → Nat
  | .move _ | .assign _ | .pick .. | .extract .. | .makeFunc .. => 0
  | .unOp .. => 0
  | .binOp op .. => match op with
    | .eql | .neq | .lss | .leq | .gtr | .geq => 2
    | _ => 1
  | .load .. | .fieldAddr .. | .indexAddr .. | .index .. | .field .. => 3
  | .call _ => 4
  | _ => 5
theorem gk (k : Nat) {q : Bool} {P : Program} {r : Option Nat} {F : Heap} {n : Nat} {Q : SPost} {env : Env} {own : List Heap} {ds : List Deferred} {all : Array Oper} {l : List Oper} {o : Oper} (_ : kindOf o.op = k)
    (h : SOL q P r F n all (o :: l) Q env own ds) : SOL q P r F n all (o :: l) Q env own ds := h
end Go.SL
end
