/- Contracts of functions over heaps; calls. -/
import Derived.Test.YtnfepffmlhmmhaaSlB
import Derived.WalkKit
import Derived.Laws.Rows
import Derived.Laws.Tables
namespace Go.SL

/-- 'f' called: it wants the heaps 'hs'; whatever else there is stays; what it leaves behind beyond that is not told. -/
def T (P : Program) (f : FuncId) (args : List Value) (hs : List Heap) (Q : Ending → List Heap → Prop) : Prop :=
  ∀ w X, Sat (hs ++ X) w → Calls P f args.toArray w fun e w' => ∃ own, Sat (own ++ X) w' ∧ Q e own

/-- It hands back a known value, and leaves all as it was. -/
def PFn (P : Program) (f : FuncId) (args : List Value) (hs : List Heap) (v : Value) : Prop := T P f args hs fun e own => e = .returned v ∧ own = hs

theorem T.mono {P : Program} {f : FuncId} {args : List Value} {hs : List Heap} {Q Q' : Ending → List Heap → Prop} (h : T P f args hs Q) (hq : ∀ e own, Q e own → Q' e own) : T P f args hs Q' :=
  fun w X s => (h w X s).mono fun _ _ ⟨own, h1, h2⟩ => ⟨own, h1, hq _ _ h2⟩

/-! ### Finding heaps -/
class TakeH (own : List Heap) (h : Heap) (rest : outParam (List Heap)) : Prop where
  perm : own.Perm (h :: rest)
instance TakeH.head {h : Heap} {r : List Heap} : TakeH (h :: r) h r := ⟨List.Perm.refl _⟩
instance TakeH.tail {h k : Heap} {r r' : List Heap} [t : TakeH r h r'] : TakeH (k :: r) h (k :: r') := ⟨(t.perm.cons k).trans (List.Perm.swap _ _ _)⟩
class TakeL (own : List Heap) (hs : List Heap) (rest : outParam (List Heap)) : Prop where
  perm : own.Perm (hs ++ rest)
instance TakeL.nil {own : List Heap} : TakeL own [] own := ⟨List.Perm.refl _⟩
instance TakeL.cons {own : List Heap} {h : Heap} {hs r r' : List Heap} [t : TakeH own h r] [u : TakeL r hs r'] : TakeL own (h :: hs) r' :=
  ⟨t.perm.trans (u.perm.cons h)⟩

/-- A block that is known, among heaps. -/
class InH (h : Heap) (b : Nat) (o : outParam Obj) : Prop where
  eq : h (.b b) = some (.o o)
instance InH.blk {b : Nat} {o : Obj} : InH (blk b o) b o := ⟨blk_self b o⟩
class At (own : List Heap) (b : Nat) (o : outParam Obj) : Prop where
  mem : ∃ h ∈ own, h (.b b) = some (.o o)
instance At.head {h : Heap} {r : List Heap} {b : Nat} {o : Obj} [t : InH h b o] : At (h :: r) b o := ⟨h, List.mem_cons_self .., t.eq⟩
instance (priority := low) At.tail {h : Heap} {r : List Heap} {b : Nat} {o : Obj} [t : At r b o] : At (h :: r) b o := let ⟨k, hk, e⟩ := t.mem; ⟨k, List.mem_cons_of_mem _ hk, e⟩
theorem At.get {own : List Heap} {b : Nat} {o : Obj} (t : At own b o) {X : List Heap} {w : World} (s : Sat (own ++ X) w) : w.heap[b]? = some o :=
  let ⟨_, hm, e⟩ := t.mem; s.at (List.mem_append.2 (.inl hm)) e
theorem At.get' {F : Heap} {own : List Heap} {b : Nat} {o : Obj} (t : At own b o) {X : List Heap} {w : World} (s : Sat (F :: own ++ X) w) : w.heap[b]? = some o :=
  t.get (X := X) (s.sub (List.sublist_cons_self _ _))

/-- A block of one's own that turns. -/
class PutB (own : List Heap) (b : Nat) (o : outParam Obj) (o' : Obj) (own' : outParam (List Heap)) : Prop where
  rest : ∃ r, own.Perm (SL.blk b o :: r) ∧ own'.Perm (SL.blk b o' :: r)
instance PutB.head {b : Nat} {o o' : Obj} {r : List Heap} : PutB (SL.blk b o :: r) b o o' (SL.blk b o' :: r) := ⟨r, List.Perm.refl _, List.Perm.refl _⟩
instance (priority := low) PutB.tail {k : Heap} {b : Nat} {o o' : Obj} {r r' : List Heap} [t : PutB r b o o' r'] : PutB (k :: r) b o o' (k :: r') :=
  let ⟨l, h1, h2⟩ := t.rest; ⟨k :: l, (h1.cons k).trans (List.Perm.swap _ _ _), (h2.cons k).trans (List.Perm.swap _ _ _)⟩

/-! ### A function from its body -/
def ResOk (P : Program) (rs : List ResultVar) (own : List Heap) (env : Env) (n : Nat) (v : Value) : Prop :=
  ∀ (fn : Func) (a : Act) w X, fn.results.toList = rs → Has n env a → Sat (own ++ X) w → (results fn a.tmps).run P w = .ok v w

def resSem (tmps : Array Value) : ResultVar → Sem Value
  | .tmp t => pure (tmps.getD t undef)
  | .cell a t => do loadVar t (← asAddr (tmps.getD a undef))
/-- A result variable holds this. -/
def ResV (P : Program) (own : List Heap) (env : Env) (n : Nat) (x : ResultVar) (v : Value) : Prop :=
  ∀ (a : Act) w X, Has n env a → Sat (own ++ X) w → (resSem a.tmps x).run P w = .ok v w
theorem resV_tmp {P : Program} {own : List Heap} {env : Env} {n t : Nat} {v : Value} (h : look env t = some v) : ResV P own env n (.tmp t) v := fun a w X ha _ => by
  have : a.tmps.getD t undef = v := by rw [Array.getD_eq_getD_getElem?, ha.get t v h]; rfl
  simp [resSem, this]
theorem results_eq (fn : Func) (tmps : Array Value) : results fn tmps = (do
    let vs ← fn.results.mapM (resSem tmps)
    pure (if h : vs.size = 1 then vs[0] else .tuple vs)) := by
  unfold results
  congr 1
theorem resOk_nil {P : Program} {own : List Heap} {env : Env} {n : Nat} : ResOk P [] own env n (.tuple #[]) := fun fn a w X hr _ _ => by
  have hf : fn.results = #[] := Array.ext' (by simpa using hr)
  rw [results_eq, hf]; simp
theorem resOk_one {P : Program} {own : List Heap} {env : Env} {n : Nat} {x : ResultVar} {v : Value} (h : ResV P own env n x v) : ResOk P [x] own env n v := fun fn a w X hr ha s => by
  have hf : fn.results = #[x] := Array.ext' (by simpa using hr)
  rw [results_eq, hf]; simp [h a w X ha s]
theorem resOk_two {P : Program} {own : List Heap} {env : Env} {n : Nat} {x y : ResultVar} {v u : Value} (h : ResV P own env n x v) (h2 : ResV P own env n y u) : ResOk P [x, y] own env n (.tuple #[v, u]) := fun fn a w X hr ha s => by
  have hf : fn.results = #[x, y] := Array.ext' (by simpa using hr)
  rw [results_eq, hf]; simp [h a w X ha s, h2 a w X ha s]
theorem resOk_three {P : Program} {own : List Heap} {env : Env} {n : Nat} {x y z : ResultVar} {v u t : Value} (h : ResV P own env n x v) (h2 : ResV P own env n y u) (h3 : ResV P own env n z t) : ResOk P [x, y, z] own env n (.tuple #[v, u, t]) := fun fn a w X hr ha s => by
  have hf : fn.results = #[x, y, z] := Array.ext' (by simpa using hr)
  rw [results_eq, hf]; simp [h a w X ha s, h2 a w X ha s, h3 a w X ha s]

def params (args : List Value) : Nat → Env
  | k => match args with
    | [] => []
    | v :: r => (k, v) :: params r (k + 1)

theorem look_params (args : List Value) : ∀ k i v, look (params args k) i = some v → k ≤ i ∧ args[i - k]? = some v := by
  induction args with
  | nil => intro k i v h; cases h
  | cons a r ih =>
    intro k i v h
    simp only [params] at h
    by_cases e : k = i
    · subst e; rw [look_cons_self] at h; cases h; simp
    · rw [look_cons_ne _ _ e] at h
      obtain ⟨h1, h2⟩ := ih _ _ _ h
      refine ⟨by omega, ?_⟩
      have : i - k = (i - (k + 1)) + 1 := by omega
      rw [this]; simpa using h2

/-- The mark that a range over a function leaves among the deferred calls. -/
def mark (D : Nat) : Deferred := { target := .collected D, args := #[] }
class Marks (ds : List Deferred) (own : List Heap) (own' : outParam (List Heap)) : Prop where
  out : ∀ {P : Program} {fn : Func} {tmps : Array Value} {R : Ending → World → Prop} {u : FrameMode} {w : World} {X : List Heap}, u ≠ .run → Sat (own ++ X) w → (∀ w', Sat (own' ++ X) w' → LeavesInM Fence.wide 0 P fn tmps R [] u w') → LeavesInM Fence.wide 0 P fn tmps R ds u w
instance Marks.nil {own : List Heap} : Marks [] own own := ⟨fun _ s h => h _ s⟩
theorem run_take {P : Program} {hs : List Heap} {w : World} {D : Nat} (s : Sat (blk D (.deferred (some [])) :: hs) w) :
    ∃ w', (Instr.takeDeferred D).run P w = .ok [] w' ∧ Sat hs w' := by
  have hb : w.heap[D]? = some (.deferred (some [])) := s.at (List.mem_cons_self ..) (blk_self _ _)
  refine ⟨{ w with heap := w.heap.setIfInBounds D (.deferred none) }, ?_, ?_⟩
  · simp [Instr.takeDeferred, getObj, setObj, Sem.run, hb]
  · have : Sat (blk D (.deferred none) :: hs) { w with heap := w.heap.setIfInBounds D (.deferred none) } := by
      have hlt := (Array.getElem?_eq_some_iff.1 hb).1
      exact s.put (by simp [hlt]) rfl rfl (fun k hk => by simp only []; rw [Array.getElem?_setIfInBounds_ne (Ne.symm hk)]) (fun _ => rfl)
    exact this.tail
instance Marks.cons {D : Nat} {ds : List Deferred} {own r own' : List Heap} [t : TakeH own (blk D (.deferred (some []))) r] [u : Marks ds r own'] : Marks (mark D :: ds) own own' :=
  ⟨fun {P fn tmps R m w X} hm s h => by
    obtain ⟨w', h1, h2⟩ := run_take (P := P) (s.perm (t.perm.append_right X))
    exact ⟨hm, .inl ⟨D, w', rfl, h1, u.out hm h2 h⟩⟩⟩

/-- What a function's body must come to. -/
def bodyQ (P : Program) (fn : Func) (n : Nat) (Q : Ending → List Heap → Prop) : SPost
  | .normal, env, own, ds | .ret, env, own, ds => ∃ v own1 own', Marks ds own own1 ∧ ResOk P fn.results.toList own1 env n v ∧ (∀ F w, Sat (F :: own1) w → Sat (F :: own') w) ∧ Q (.returned v) own'
  | .panic chain, _, own, ds => ∃ own1 own', Marks ds own own1 ∧ (∀ F w, Sat (F :: own1) w → Sat (F :: own') w) ∧ Q (.panicked chain) own'
  | _, _, _, _ => False

theorem sat_frame {hs X : List Heap} {w : World} (s : Sat (hs ++ X) w) : Sat (joins X :: hs) w := (s.perm List.perm_append_comm).joins
theorem sat_unframe {hs X : List Heap} {w : World} (d : X.Pairwise Disj) (s : Sat (joins X :: hs) w) : Sat (hs ++ X) w := (s.unjoins d).perm List.perm_append_comm
theorem sat_pair {hs X : List Heap} {w : World} (s : Sat (hs ++ X) w) : X.Pairwise Disj := (s.sub (List.sublist_append_right _ _)).dj

theorem t_of_body {P : Program} {f : FuncId} {fn : Func} {c : Code} {args : List Value} {hs : List Heap} {Q : Ending → List Heap → Prop} (hf : P.funcs[f]? = some fn) (hb : fn.body = some c)
    (hn : args.length ≤ fn.ntmps) (h : ∀ F, SWP P none F fn.ntmps c (bodyQ P fn fn.ntmps Q) (params args 0) hs []) : T P f args hs Q := by
  intro w X s
  have hX := sat_pair s
  refine (callsIn_wide (n := 0)).1 (callsIn_of_wp_marks hf hb trivial ?_)
  have ha : Has fn.ntmps (params args 0) { tmps := args.toArray ++ Array.replicate (fn.ntmps - args.toArray.size) undef, defers := [] } := by
    refine ⟨by simp; omega, fun i v hi => ?_⟩
    obtain ⟨-, h2⟩ := look_params args 0 i v hi
    simp only [Nat.sub_zero] at h2
    have hlt : i < args.length := (List.getElem?_eq_some_iff.1 h2).1
    rw [Array.getElem?_append_left (by simpa using hlt)]
    simpa using h2
  refine wpIn_mono (h (joins X) _ w ha rfl (sat_frame s)) fun e a w' ⟨he, env, own, h1, h2, h3⟩ => ?_
  have h2' : Sat (own ++ [joins X]) w' := h2.perm (List.perm_append_comm (l₁ := [joins X]) (l₂ := own))
  have ret : (∃ v own1 own', Marks a.defers own own1 ∧ ResOk P fn.results.toList own1 env fn.ntmps v ∧ (∀ F w, Sat (F :: own1) w → Sat (F :: own') w) ∧ Q (.returned v) own') →
      LeavesInM Fence.wide 0 P fn a.tmps (fun e w' => ∃ own, Sat (own ++ X) w' ∧ Q e own) a.defers .returning w' := by
    rintro ⟨v, own1, own', hm, hr, hw, hq⟩
    refine hm.out (by simp) h2' fun w2 s2 => ?_
    refine ⟨v, hr fn a w2 [joins X] rfl h1 s2, own', sat_unframe hX (hw _ _ (s2.perm (List.perm_append_comm (l₁ := own1) (l₂ := [joins X])))), hq⟩
  cases e with
  | normal => exact ret h3
  | ret => exact ret h3
  | panic chain =>
    obtain ⟨own1, own', hm, hw, hq⟩ := h3
    refine hm.out (by simp) h2' fun w2 s2 => ?_
    exact ⟨own', sat_unframe hX (hw _ _ (s2.perm (List.perm_append_comm (l₁ := own1) (l₂ := [joins X])))), hq⟩
  | exit _ => exact h3.elim
  | goto _ => exact h3.elim
  | outgrown => exact absurd rfl he

/-! ### Calls -/
class Enters (P : Program) (f : FuncId) : Prop where
  run : ∀ args w, (callFunc f args).run P w = .ok (.enter f args) w

def evs (env : Env) : List Operand → Option (List Value)
  | [] => some []
  | x :: r => match ev env x with
    | some v => match evs env r with
      | some vs => some (v :: vs)
      | none => none
    | none => none
theorem evs_eval {n : Nat} {env : Env} {a : Act} (h : Has n env a) : ∀ {xs : List Operand} {vs : List Value}, evs env xs = some vs → xs.map a.eval = vs := by
  intro xs
  induction xs with
  | nil => intro vs e; cases e; rfl
  | cons x r ih =>
    intro vs e
    simp only [evs] at e
    cases h1 : ev env x with
    | none => rw [h1] at e; cases e
    | some v =>
      rw [h1] at e
      cases h2 : evs env r with
      | none => rw [h2] at e; cases e
      | some vs' =>
        rw [h2] at e; cases e
        simp [h.eval h1, ih h2]

theorem run_call {P : Program} {n : Nat} {env : Env} {a : Act} {o : Oper} {c : Call} {x : Operand} {f : FuncId} {first captured : Array Value} {vs : List Value} [he : Enters P f] (ha : Has n env a)
    (ho : o.op = .call c) (hc : c.callee = .value x) (hx : ev env x = some (.func (.func f) first captured)) (hvs : evs env c.args.toList = some vs) (w : World) :
    (execOp a.eval o).run P w = .ok (.enter f (first ++ vs.toArray ++ captured)) w := by
  have h1 : c.args.map a.eval = vs.toArray := Array.ext' (by simpa using evs_eval ha hvs)
  simp only [execOp, ho, resolve, hc, ha.eval hx, h1, Deferred.ofValue]
  exact he.run _ w

/-- Three lists, one behind the other, spelled out. -/
def app2 : List Value → Option (List Value) → Option (List Value)
  | [], b => b
  | v :: r, b => match app2 r b with | some l => some (v :: l) | none => none
def appO (a b c : List Value) : Option (List Value) := app2 a (app2 b (app2 c (some [])))
theorem app2_eq : ∀ {a l x : List Value}, app2 a (some x) = some l → l = a ++ x := by
  intro a
  induction a with
  | nil => intro l x h; cases h; rfl
  | cons v r ih =>
    intro l x h
    simp only [app2] at h
    cases e : app2 r (some x) with
    | none => rw [e] at h; cases h
    | some l' => rw [e] at h; cases h; rw [ih e]; rfl
theorem app2_some : ∀ (a x : List Value), app2 a (some x) = some (a ++ x) := by
  intro a
  induction a with
  | nil => intro x; rfl
  | cons v r ih => intro x; simp [app2, ih]
theorem appO_eq {a b c l : List Value} (h : appO a b c = some l) : a ++ b ++ c = l := by
  simp only [appO, app2_some, List.append_nil, Option.some.injEq] at h
  rw [← h, List.append_assoc]
theorem opv_call {P : Program} {own rest hs : List Heap} {n : Nat} {env : Env} {o : Oper} {c : Call} {x : Operand} {f : FuncId} {first captured : Array Value} {vs all : List Value} {v : Value} [Enters P f]
    [t : TakeL own hs rest] (ho : o.op = .call c) (hc : c.callee = .value x) (hx : ev env x = some (.func (.func f) first captured)) (hvs : evs env c.args.toList = some vs)
    (hall' : appO first.toList vs captured.toList = some all) (h : PFn P f all hs v) : OpV P own n o env v := by
  have hall := appO_eq hall'
  refine ⟨by rw [ho]; rfl, fun a w X ha hs' => ?_⟩
  have hp : (own ++ X).Perm (hs ++ (rest ++ X)) := by rw [← List.append_assoc]; exact t.perm.append_right X
  refine ⟨w, hs', .inr (.inr ⟨f, _, run_call ha ho hc hx hvs w, ?_⟩)⟩
  have e : first ++ vs.toArray ++ captured = all.toArray := by rw [← hall]; simp
  rw [e]
  refine (h w (rest ++ X) (hs'.perm hp)).mono ?_
  rintro e w' ⟨own', s2, rfl, rfl⟩
  exact ⟨rfl, s2.perm hp.symm⟩

section
variable {P : Program} {r : Option Nat} {F : Heap} {n : Nat} {Q : SPost} {env : Env} {own rest hs : List Heap} {ds : List Deferred} {all : Array Oper} {l : List Nat} {i : Nat} {o : Oper}

/-- A call of a function, by its contract; the heaps that it wants are taken out, those that it leaves are put back at the head. -/
theorem so_call {c : Call} {x : Operand} {f : FuncId} {first captured : Array Value} {vs vall : List Value} {R : Ending → List Heap → Prop} [Enters P f] [t : TakeL own hs rest] {d : Nat}
    (hi : all[i]? = some o) (hd : o.dst = some d) (hn : d < n) (hg : wantedE all env o = some true)
    (ho : o.op = .call c) (hc : c.callee = .value x) (hx : ev env x = some (.func (.func f) first captured)) (hvs : evs env c.args.toList = some vs)
    (hall : first.toList ++ vs ++ captured.toList = vall) (h : T P f vall hs R)
    (hr : ∀ e own', R e own' → (∃ v, e = .returned v ∧ SO false P r F n all l Q ((d, v) :: env) (own' ++ rest) ds) ∨ (∃ ch, e = .panicked ch ∧ Q (.panic ch) env (own' ++ rest) ds)) :
    SO false P r F n all (i :: l) Q env own ds := by
  intro a w ha hds hs'
  rw [wpOpsIn_cons]
  simp only [wpOpIn, hi, wanted_of ha hg, if_true]
  refine ⟨fun f _ => by simp, ?_⟩
  rw [fen_round, semAt_plain (by rw [ho]; rfl), run_call ha ho hc hx hvs w]
  have e : first ++ vs.toArray ++ captured = vall.toArray := by rw [← hall]; simp
  rw [e]
  refine ⟨fun hx => by simp at hx, (callsIn_fen _ (h w (rest ++ [F]) ?_)).mono ?_⟩
  · exact hs'.perm ((List.perm_append_comm (l₁ := [F]) (l₂ := own)).trans (by rw [← List.append_assoc]; exact t.perm.append_right [F]))
  · rintro e w' ⟨own', s2, hR⟩
    have s3 : Sat (F :: (own' ++ rest)) w' := s2.perm (by rw [← List.append_assoc]; exact List.perm_append_comm (l₁ := own' ++ rest) (l₂ := [F]))
    rcases hr e own' hR with ⟨v, rfl, hq⟩ | ⟨ch, rfl, hq⟩
    · rw [hd]; exact hq _ w' (ha.put v hn) hds s3
    · exact Lift.mk (by simp) ha hds s3 hq
end
end Go.SL
