/- Closed calls, run by the kernel: code, functions. -/
import Derived.Test.YtnfepffmlhmmhaaSlV12
set_option linter.unusedVariables false
set_option linter.unusedSimpArgs false
namespace Go.SL
noncomputable section

/-! ### What is no longer reached -/
mutual
/-- The blocks of a value, from a number on, by bits. -/
def idsV (b0 : Nat) : VV → Nat → Nat
  | .lit _, a => a
  | .ptr b _, a | .slc b _ _ _, a | .mp b, a | .tl b _ _ _ _, a | .yl b, a => match Nat.ble b0 b with
    | true => a ||| (1 <<< (b - b0))
    | false => a
  | .agg l, a | .tup l, a => idsL b0 l a
  | .fn _ x y, a => idsL b0 y (idsL b0 x a)
  | .ifc _ v, a => idsV b0 v a
def idsL (b0 : Nat) : List VV → Nat → Nat
  | [], a => a
  | v :: l, a => idsL b0 l (idsV b0 v a)
end
def idsM (b0 : Nat) : List ME → Nat → Nat
  | [], a => a
  | e :: l, a => idsM b0 l (idsV b0 e.val a)
def idsT (b0 : Nat) : List (Value × VV) → Nat → Nat
  | [], a => a
  | (_, v) :: l, a => idsT b0 l (idsV b0 v a)
def idsE (b0 : Nat) : VE → Nat → Nat
  | [], a => a
  | (_, v) :: l, a => idsE b0 l (idsV b0 v a)
def idsO (b0 : Nat) : VO → Nat → Nat
  | .cells l _, a => idsL b0 l a
  | .map es _, a => idsM b0 es a
  | .tab es, a => idsT b0 es a
  | .loop _ E _ _ _ _, a => idsE b0 E a
/-- What is reached of blocks that are reached, or older. -/
def markH (b0 : Nat) : VH → Nat → Nat
  | [], a => a
  | (b, o) :: H, a => match Nat.ble b0 b with
    | false => markH b0 H (idsO b0 o a)
    | true => match a.testBit (b - b0) with
      | true => markH b0 H (idsO b0 o a)
      | false => markH b0 H a
def closeH (b0 : Nat) (H : VH) : Nat → Nat → Nat
  | 0, a => a
  | k + 1, a => match markH b0 H a with
    | a' => match Nat.beq a a' with
      | true => a
      | false => closeH b0 H k a'
def keepH (b0 a : Nat) : VH → VH
  | [] => []
  | (b, o) :: H => match Nat.ble b0 b with
    | false => (b, o) :: keepH b0 a H
    | true => match a.testBit (b - b0) with
      | true => (b, o) :: keepH b0 a H
      | false => keepH b0 a H
def countN (b0 : Nat) : VH → Nat
  | [] => 0
  | (b, _) :: H => match Nat.ble b0 b with
    | true => countN b0 H + 1
    | false => countN b0 H
/-- The heap without blocks that came later, and are not reached. -/
def gcH (most b0 a : Nat) (H : VH) : VH := match Nat.ble (countN b0 H) most with
  | true => H
  | false => keepH b0 (closeH b0 H 20 a) H
def keepK {α : Type} (b0 a : Nat) : VH → (VH → α) → α
  | [], k => k []
  | (b, o) :: H, k => match Nat.ble b0 b with
    | false => keepK b0 a H fun r => k ((b, o) :: r)
    | true => match a.testBit (b - b0) with
      | true => keepK b0 a H fun r => k ((b, o) :: r)
      | false => keepK b0 a H k
theorem keepK_eq {α : Type} {b0 a : Nat} : ∀ (H : VH) (k : VH → α), keepK b0 a H k = k (keepH b0 a H)
  | [], k => rfl
  | (b, o) :: H, k => by
    simp only [keepK, keepH]
    cases Nat.ble b0 b
    · simp only [keepK_eq H]
    · cases a.testBit (b - b0) <;> simp only [keepK_eq H]
def gcK {α : Type} (most b0 a : Nat) (H : VH) (k : VH → α) : α := match Nat.ble (countN b0 H) most with
  | true => k H
  | false => fN (closeH b0 H 20 a) fun m => keepK b0 m H k
theorem gcK_eq {α : Type} {most b0 a : Nat} {H : VH} {k : VH → α} : gcK most b0 a H k = k (gcH most b0 a H) := by
  unfold gcK gcH
  cases Nat.ble (countN b0 H) most
  · simp only [fN_eq, keepK_eq]
  · rfl
theorem keepH_den {ρ : Rn} {b0 a : Nat} : ∀ {H : VH} {own : List Heap}, denH ρ H = some own → ∃ own', denH ρ (keepH b0 a H) = some own' ∧ own'.Sublist own
  | [], own, h => by cases h; exact ⟨[], rfl, List.Sublist.refl _⟩
  | (b, o) :: H, own, h => by
    obtain ⟨i, ob, hs, h1, h2, h3, rfl⟩ := denH_cons h
    obtain ⟨own', g1, g2⟩ := keepH_den (b0 := b0) (a := a) h3
    simp only [keepH]
    split
    · exact ⟨_, denH_mk h1 h2 g1, g2.cons_cons _⟩
    · split
      · exact ⟨_, denH_mk h1 h2 g1, g2.cons_cons _⟩
      · exact ⟨own', g1, g2.cons _⟩
theorem gcH_den {ρ : Rn} {m b0 a : Nat} {H : VH} {own : List Heap} (h : denH ρ H = some own) : ∃ own', denH ρ (gcH m b0 a H) = some own' ∧ own'.Sublist own := by
  unfold gcH
  split
  · exact ⟨own, h, List.Sublist.refl _⟩
  · exact keepH_den h

/-! ### Loops over functions -/
def dbl : List Nat → List Heap
  | [] => []
  | D :: l => blk D (.deferred (some [])) :: dbl l
def mks : List Nat → List Deferred
  | [] => []
  | D :: l => mark D :: mks l
theorem marks_dbl : ∀ (l : List Nat) (own : List Heap), Marks (mks l) (dbl l ++ own) own
  | [], own => Marks.nil
  | D :: l, own => @Marks.cons D (mks l) _ (dbl l ++ own) own TakeH.head (marks_dbl l own)
theorem swp_hide {P : Program} {r : Option Nat} {F : Heap} {n : Nat} {c : Code} {Q : SPost} {env : Env} {A own : List Heap} {ds : List Deferred}
    (h : ∀ F', SWP P r F' n c (fun e env own ds => ∃ own2, (A ++ own).Perm own2 ∧ Q e env own2 ds) env own ds) : SWP P r F n c Q env (A ++ own) ds := by
  intro a w ha hd s
  have s0 : Sat ((F :: A) ++ own) w := s
  have hdj : (F :: A).Pairwise Disj := (s0.sub (List.sublist_append_left _ _)).dj
  refine wpIn_mono (h (joins (F :: A)) a w ha hd s0.joins) fun e a' w' ⟨he, env', own', h1, h2, own2, h3, h4⟩ => ⟨he, env', own2, h1, ?_, h4⟩
  have s2 : Sat ((F :: A) ++ own') w' := h2.unjoins hdj
  exact Sat.perm s2 (h3.cons F)
def allLt (n : Nat) : List Nat → Bool
  | [] => true
  | p :: l => match Nat.blt p n with
    | true => allLt n l
    | false => false
theorem allLt_ok {n : Nat} : ∀ {l : List Nat}, allLt n l = true → ∀ p ∈ l, p < n
  | [], _, p, hp => by cases hp
  | q :: l, h, p, hp => by
    simp only [allLt] at h
    split at h
    · rename_i hb
      rcases List.mem_cons.1 hp with rfl | hp
      · exact Nat.le_of_ble_eq_true hb
      · exact allLt_ok h p hp
    · cases h
def bindV : List Nat → List VV → VE → VE
  | t :: ts, v :: vs, E => bindV ts vs ((t, v) :: E)
  | _, _, E => E
theorem bindV_den {ρ : Rn} : ∀ {ps : List Nat} {vs : List VV} {xs : List Value} {E : VE} {env : Env}, denL ρ vs = some xs → denEnv ρ E = some env → denEnv ρ (bindV ps vs E) = some (bindP ps xs env)
  | [], vs, xs, E, env, h, he => by cases vs <;> cases xs <;> exact he
  | t :: ts, [], xs, E, env, h, he => by cases h; exact he
  | t :: ts, v :: vs, xs, E, env, h, he => by
    obtain ⟨y, ys, h1, h2, rfl⟩ := denL_cons h
    show denEnv ρ (bindV ts vs ((t, v) :: E)) = some (bindP ts ys ((t, y) :: env))
    exact bindV_den h2 (denEnv_mk h1 he)

abbrev CRes := Option (Exit × VE × VH × Nat)
def evSeq (r : CRes) (k : VE → VH → Nat → CRes) : CRes := match r with
  | some (.normal, E, H, nx) => k E H nx
  | _ => r
def evBlk (id : Nat) (r : CRes) : CRes := match r with
  | some (.exit id', E, H, nx) => match Nat.beq id' id with
    | true => some (.normal, E, H, nx)
    | false => some (.exit id', E, H, nx)
  | _ => r
def norm (r : Option (VE × VH × Nat)) : CRes := match r with
  | some (E, H, nx) => some (.normal, E, H, nx)
  | none => none
def stepLoop (b0 : Nat) (rec : Code → VE → VH → Nat → CRes) (body : Code) (E : VE) (H : VH) (nx : Nat) : CRes :=
  evSeq (rec body E H nx) fun E' H' nx' => tidyK [] E' fun E2 => gcK 24 b0 (idsE b0 E2 0) H' fun H2 => rec (.loop body) E2 H2 nx'
def stepCond (rec : Code → VE → VH → Nat → CRes) (E : VE) (H : VH) (nx : Nat) (a b : Code) : Option VV → CRes
  | some (.lit (.bool true)) => rec a E H nx
  | some (.lit (.bool false)) => rec b E H nx
  | _ => none
/-- Orders of a function's regions, looked at before. -/
abbrev Orders := List (Nat × List (List DM.It))
def ordersOf : Orders → Nat → List (List DM.It)
  | [], _ => []
  | (i, x) :: g, id => match Nat.beq i id with
    | true => x
    | false => ordersOf g id
def drawReg (P : Program) (call : CallE) (n : Nat) (ops : Array Oper) (E : VE) (H : VH) (nx : Nat) : List (List DM.It) → Option (VE × VH × Nat)
  | [] => evDraw P call n ops E H nx
  | its :: l => evDrawG P call n ops (its :: l) E H nx
def stepReg (P : Program) (call : CallE) (n : Nat) (g : Orders) (id : Nat) (ops : Array Oper) (E : VE) (H : VH) (nx : Nat) : Bool → CRes
  | false => norm (evOps P call n ops ops.toList E H nx)
  | true => norm (drawReg P call n ops E H nx (ordersOf g id))
def andB (a b : Bool) : Bool := match a with
  | true => b
  | false => false
theorem andB_true {a b : Bool} (h : andB a b = true) : a = true ∧ b = true := by
  cases a
  · cases h
  · exact ⟨rfl, h⟩
def regB (P : Program) (n : Nat) (ops : Array Oper) (l : List (List DM.It)) : Bool → Bool
  | true => checksA P n ops l
  | false => true
/-- All orders of a piece of code are right ones. -/
def regsB (P : Program) (n : Nat) (g : Orders) : Code → Bool
  | .region id ops d => regB P n ops (ordersOf g id) d
  | .seq a b => andB (regsB P n g a) (regsB P n g b)
  | .cond _ a b => andB (regsB P n g a) (regsB P n g b)
  | .block _ b => regsB P n g b
  | .loop b => regsB P n g b
  | .scope b => regsB P n g b
  | _ => true
theorem regsB_nil {P : Program} {n : Nat} : ∀ c : Code, regsB P n [] c = true := by
  intro c
  induction c with
  | region id ops d => cases d <;> rfl
  | seq a b ha hb => simp only [regsB, ha, hb, andB]
  | cond x a b ha hb => simp only [regsB, ha, hb, andB]
  | block id b hb => simpa only [regsB] using hb
  | loop b hb => simpa only [regsB] using hb
  | scope b hb => simpa only [regsB] using hb
  | _ => simp only [regsB]
def evScope : CRes → CRes
  | some (.normal, E, H, nx) => some (.normal, E, H, nx)
  | some (.ret, E, H, nx) => some (.ret, E, H, nx)
  | some (.exit id, E, H, nx) => some (.exit id, E, H, nx)
  | _ => none
def recAt (b : Nat) (H : VH) : Option LS := match getH H b with
  | some (.loop _ _ _ _ _ st) => some st
  | _ => none
def leaveR (b : Nat) (E : VE) (H : VH) (nx : Nat) : Option LS → CRes
  | some .ready => some (.normal, E, delH H b, nx)
  | some (.done .ret) => some (.ret, E, delH H b, nx)
  | some (.done (.exit id)) => some (.exit id, E, delH H b, nx)
  | _ => none
def endR (b : Nat) (E : VE) : Option (VV × VH × Nat) → CRes
  | some (_, H, nx) => leaveR b E H nx (recAt b H)
  | none => none
def stepRange (P : Program) (call : CallE) (n : Nat) (E : VE) (H : VH) (nx : Nat) (g : Operand) (ps : List Nat) (asg body : Code) : CRes := match evV E g with
  | some u => match funOf u, allLt n ps with
    | some (f, a, c), true => match entersB P f with
      | true => tidyK [] E fun E1 => fN (nx + 1) fun nx1 => endR nx E (call (.f f) (a ++ [.yl nx] ++ c) ((nx, .loop n E1 ps asg body .ready) :: H) nx1)
      | false => none
    | _, _ => none
  | none => none
def stepRg (P : Program) (call : CallE) (n : Nat) (E : VE) (H : VH) (nx : Nat) (g : Operand) (ps : List Nat) (asg body : Code) : Bool → CRes
  | true => none
  | false => stepRange P call n E H nx g ps asg body
def stepC (P : Program) (call : CallE) (n b0 : Nat) (g : Orders) (inr : Bool) (rec : Code → VE → VH → Nat → CRes) (c : Code) (E : VE) (H : VH) (nx : Nat) : CRes := match c with
  | .skip => some (.normal, E, H, nx)
  | .label _ => some (.normal, E, H, nx)
  | .region id ops d => stepReg P call n g id ops E H nx d
  | .seq a b => evSeq (rec a E H nx) (rec b)
  | .cond c a b => stepCond rec E H nx a b (evV E c)
  | .block id body => evBlk id (rec body E H nx)
  | .loop body => stepLoop b0 rec body E H nx
  | .exit id => some (.exit id, E, H, nx)
  | .ret => some (.ret, E, H, nx)
  | .scope body => evScope (rec body E H nx)
  | .rangeFunc x ps asg body => stepRg P call n E H nx x ps.toList asg body inr
  | _ => none
def evC (P : Program) (call : CallE) (n b0 : Nat) (g : Orders) (inr : Bool) (k : Nat) : Code → VE → VH → Nat → CRes :=
  Nat.rec (motive := fun _ => Code → VE → VH → Nat → CRes) (fun _ _ _ _ => none) (fun _ rec c E H nx => stepC P call n b0 g inr rec c E H nx) k

section
variable {P : Program} {call : CallE} {n b0 : Nat} {g : Orders} {inr : Bool}
/-- What stands behind a piece of code: blocks of marks lie beside. -/
def ContM (ρ : Rn) (E : VE) (H : VH) (nx : Nat) (K : Env → List Heap → List Nat → Prop) : Prop := ∀ ρ' env own Ds, Ext ρ ρ' → Fresh ρ' nx → denEnv ρ' E = some env → denH ρ' H = some own → K env own Ds
theorem ContM.ext {ρ ρ' : Rn} {E : VE} {H : VH} {nx : Nat} {K : Env → List Heap → List Nat → Prop} (h : ContM ρ E H nx K) (e : Ext ρ ρ') : ContM ρ' E H nx K := fun ρ2 env own Ds e2 => h ρ2 env own Ds (e.trans e2)
/-- What a piece of code comes to. -/
def CodeOk (P : Program) (n : Nat) (inr : Bool) (c : Code) (E : VE) (H : VH) (nx : Nat) (x : Exit) (E' : VE) (H' : VH) (nx' : Nat) : Prop :=
  ∀ (ρ : Rn) (env : Env) (own : List Heap) (F : Heap) (r : Option Nat) (Q : SPost) (ds : List Deferred) (Ds : List Nat), (inr = false → r = none) → Fresh ρ nx → denEnv ρ E = some env → denH ρ H = some own →
    ContM ρ E' H' nx' (fun env own Ds => Q x env (dbl Ds ++ own) (mks Ds ++ ds)) → SWP P r F n c Q env (dbl Ds ++ own) (mks Ds ++ ds)
theorem evSeq_some {r : CRes} {k : VE → VH → Nat → CRes} {x : Exit} {E : VE} {H : VH} {nx : Nat} (h : evSeq r k = some (x, E, H, nx)) :
    (∃ E1 H1 nx1, r = some (.normal, E1, H1, nx1) ∧ k E1 H1 nx1 = some (x, E, H, nx)) ∨ (r = some (x, E, H, nx) ∧ x ≠ .normal) := by
  unfold evSeq at h
  split at h
  · exact .inl ⟨_, _, _, rfl, h⟩
  · rename_i hn
    exact .inr ⟨h, fun e => by subst e; exact hn _ _ _ h⟩
theorem codeOk_seq {a b : Code} {E E1 E' : VE} {H H1 H' : VH} {nx nx1 nx' : Nat} {x : Exit} (ha : CodeOk P n inr a E H nx .normal E1 H1 nx1) (hb : CodeOk P n inr b E1 H1 nx1 x E' H' nx') : CodeOk P n inr (.seq a b) E H nx x E' H' nx' :=
  fun ρ env own F r Q ds Ds hr hf he hH hk => swp_seq (ha ρ env own F r _ ds Ds hr hf he hH fun ρ1 env1 own1 Ds1 e1 f1 d1 h1 => hb ρ1 env1 own1 F r Q ds Ds1 hr f1 d1 h1 (hk.ext e1))
theorem thn_other {K : Env → List Heap → List Deferred → Prop} {Q : SPost} {x : Exit} (hx : x ≠ .normal) {env : Env} {own : List Heap} {ds : List Deferred} (h : Q x env own ds) : Thn K Q x env own ds := by
  cases x with
  | normal => exact (hx rfl).elim
  | _ => exact h
/-- So many rounds of a loop, at most. -/
def LoopOk (P : Program) (n : Nat) (inr : Bool) (m : Nat) (c : Code) (E : VE) (H : VH) (nx : Nat) (x : Exit) (E' : VE) (H' : VH) (nx' : Nat) : Prop :=
  ∀ (ρ : Rn) (env : Env) (own : List Heap) (F : Heap) (r : Option Nat) (Q : SPost) (ds : List Deferred) (Ds : List Nat), (inr = false → r = none) → Fresh ρ nx → denEnv ρ E = some env → denH ρ H = some own →
    ContM ρ E' H' nx' (fun env own Ds => Q x env (dbl Ds ++ own) (mks Ds ++ ds)) → SRounds P r F n c Q m env (dbl Ds ++ own) (mks Ds ++ ds)
theorem srounds_weaken2 {r : Option Nat} {F : Heap} {c : Code} {Q : SPost} {m : Nat} {env env' : Env} {own own' : List Heap} {ds : List Deferred} (hs : Sub env' env) (ho : ∀ w, Sat (F :: own) w → Sat (F :: own') w) (h : SRounds P r F n c Q m env' own' ds) : SRounds P r F n c Q m env own ds := by
  cases m with
  | zero => exact h
  | succ m => exact SWP.weaken hs ho h
theorem swp_range1 {Q : SPost} {env : Env} {own : List Heap} {F : Heap} {ds : List Deferred} {x : Operand} {ps : Array Nat} {asg body : Code} {f : FuncId} {first captured : Array Value} [he : Enters P f]
    (hg : ev env x = some (.func (.func f) first captured)) {RR : Nat → Loop → List Heap → Prop}
    (h : ∀ L rc, Has n env { tmps := rc.tmps, defers := [] } → rc.params = ps → rc.assign = asg → rc.body = body → rc.state = .ready → rc.pending = none →
      T P f (first.toList ++ [.func (.yield L) #[] #[]] ++ captured.toList) (blk L (.loop rc) :: own) fun e own' => ∃ v, e = .returned v ∧ RR L rc own')
    (hend : ∀ L rc own' D, RR L rc own' → ∃ r3 own1, own'.Perm (blk L (.loop r3) :: own1) ∧ r3.state ≠ .busy ∧
      ((r3.pending = none ∧ Q .normal env (blk D (.deferred (some [])) :: own1) (mark D :: ds)) ∨
       ∃ c, r3.pending = some c ∧ SWP P none F n c Q env (blk D (.deferred (some [])) :: own1) (mark D :: ds))) :
    SWP P none F n (.rangeFunc x ps asg body) Q env own ds := by
  intro a w ha hd hs
  refine wpIn_rangeFunc fun fn _ => ?_
  let L := w.heap.size + 1
  let rc : Loop := { state := .ready, pending := none, fn, tmps := a.tmps, params := ps, assign := asg, body, defers := w.heap.size }
  let xv : Value := .func (.yield L) #[] #[]
  let w1 := (w.alloc (.deferred (some []))).alloc (.loop rc)
  have hres : (resolve a.eval (rangeCall x L) 0).run P w1 = .ok { target := .fn (.func f) captured, args := first ++ #[xv] } w1 := by
    simp only [resolve, ha.eval hg, Deferred.ofValue, Sem.run_pure]
    simp [Act.eval, xv]
  have hinv : (invoke (.fn (.func f) captured) (first ++ #[xv])).run P w1 = .ok (.enter f (first ++ #[xv] ++ captured)) w1 := he.run _ _
  refine ⟨L, [SL.mark w.heap.size], w1, { target := .fn (.func f) captured, args := first ++ #[xv] }, w1, f, first ++ #[xv] ++ captured, w1, run_enterLoop_outer fn a.tmps ps asg body, hres, fun _ _ => by simp, hinv, fun hx => by simp at hx, callsIn_fen _ ?_⟩
  have e : first ++ #[xv] ++ captured = (first.toList ++ [xv] ++ captured.toList).toArray := by apply Array.ext'; simp
  rw [e]
  have sD : Sat (blk w.heap.size (.deferred (some [])) :: F :: own) (w.alloc (.deferred (some []))) := sat_alloc hs _ (fun _ => rfl)
  have sL : Sat (blk L (.loop rc) :: blk w.heap.size (.deferred (some [])) :: F :: own) w1 := by
    have := sat_alloc sD (.loop rc) (fun _ => rfl)
    rw [World.size_alloc] at this; exact this
  have sA : Sat ((blk L (.loop rc) :: own) ++ [blk w.heap.size (.deferred (some [])), F]) w1 := by
    refine sL.perm ((?_ : List.Perm _ _).cons _)
    exact List.perm_append_comm (l₁ := [blk w.heap.size (.deferred (some [])), F]) (l₂ := own)
  refine (h L rc (has_tmps ha) rfl rfl rfl rfl rfl w1 _ sA).mono ?_
  rintro e w3 ⟨own', s3, v, rfl, hR⟩
  obtain ⟨r3, own1, hp, hst, hQ⟩ := hend L rc own' w.heap.size hR
  have s4 : Sat (blk L (.loop r3) :: (own1 ++ [blk w.heap.size (.deferred (some [])), F])) w3 := s3.perm (hp.append_right _)
  have hL3 : w3.heap[L]? = some (.loop r3) := s4.at (List.mem_cons_self ..) (blk_self _ _)
  have s5 := (sat_put (o' := .loop { r3 with state := .exhausted }) s4 (fun _ => rfl)).tail
  have s6 : Sat (F :: (blk w.heap.size (.deferred (some [])) :: own1)) (w3.putObj L (.loop { r3 with state := .exhausted })) := by
    refine s5.perm ?_
    have p1 : (own1 ++ [blk w.heap.size (.deferred (some [])), F]).Perm ([F, blk w.heap.size (.deferred (some []))] ++ own1) :=
      List.perm_append_comm.trans ((List.Perm.swap F _ []).append_right _)
    exact p1
  refine ⟨r3.pending, _, run_endLoop hL3 hst, ?_⟩
  rcases hQ with ⟨h1, h2⟩ | ⟨c, h1, h2⟩
  · rw [h1] at s6 ⊢
    exact Lift.mk (ds := SL.mark w.heap.size :: ds) (by simp) (has_tmps ha) (by simp [hd]) s6 h2
  · rw [h1] at s6 ⊢
    exact h2 _ _ (has_tmps ha) (by simp [hd]) s6
section
variable {Fn : Fence} {m : Nat} {b : Frame} {a : Act} {k : List Item} {cs : List Frame} {w : World} {QA : Exit → Act → World → Prop}
theorem stepR_scope {c : Code} : step P (lone (b.atR a (.code (.scope c) :: k)) cs w) = .next (lone (b.atR a (.code c :: .inScope c :: k)) cs w) :=
  step_lone_go (by simp [Go.stepG, Go.stepG.exec, Frame.atR])
theorem stepR_inScope {c : Code} : step P (lone (b.atR a (.inScope c :: k)) cs w) = .next (lone (b.atR a k) cs w) :=
  step_lone_go (by simp [Go.stepG, Go.stepG.exec, Frame.atR])
/-- A scope through which the run goes without a goto. -/
theorem wpIn_scope {c : Code} (h : c.wpIn Fn m P (fun e a w => (∀ l, e ≠ .goto l) ∧ QA e a w) a w) : (Code.scope c).wpIn Fn m P QA a w := by
  intro b k cs hro hb hr
  have h0 : (lone (b.atR a (.code (.scope c) :: k)) cs w).fenced P Fn := fenced_calm hb hr rfl
  obtain ⟨e, a₁, w₁, ⟨hn, hq⟩, harr⟩ := h b (.inScope c :: k) cs hro hb hr
  cases e with
  | normal => exact ⟨.normal, a₁, w₁, hq, .head h0 stepR_scope (StepsIn.trans harr (.one (fenced_calm hb hr rfl) stepR_inScope))⟩
  | exit id' =>
    have hx : exitTo id' (.inScope c :: k) = exitTo id' k := by simp [exitTo]
    exact ⟨.exit id', a₁, w₁, hq, fun k' hk => .head h0 stepR_scope (harr.1 k' (by rw [hx]; exact hk)),
      fun hr' hk => let ⟨k₁, h1, h2⟩ := harr.2 hr' (by rw [hx]; exact hk); ⟨k₁, h1, .head h0 stepR_scope h2⟩⟩
  | goto l => exact (hn l rfl).elim
  | ret => exact ⟨_, a₁, w₁, hq, .of_steps (.one h0 stepR_scope) harr⟩
  | panic ch => exact ⟨_, a₁, w₁, hq, .of_steps (.one h0 stepR_scope) harr⟩
  | outgrown => exact ⟨_, a₁, w₁, hq, .of_steps (.one h0 stepR_scope) harr⟩
end
theorem swp_scope {r : Option Nat} {F : Heap} {c : Code} {Q : SPost} {env : Env} {own : List Heap} {ds : List Deferred} (h : SWP P r F n c (fun e env own ds => (∀ l, e ≠ .goto l) ∧ Q e env own ds) env own ds) : SWP P r F n (.scope c) Q env own ds :=
  fun a w ha hd hs => wpIn_scope (wpIn_mono (h a w ha hd hs) fun e a' w' ⟨he, env', own', h1, h2, h3, h4⟩ => ⟨h3, he, env', own', h1, h2, h4⟩)
theorem recAt_ok {ρ : Rn} {b : Nat} {H : VH} {own : List Heap} {st : LS} {i : BI} {r : Loop} (hH : denH ρ H = some own) (hi : ρ b = some i) (hl : i.lp = some r) (h : recAt b H = some st) :
    ∃ rest, denH ρ (delH H b) = some rest ∧ own.Perm (blk i.blk (.loop { r with state := st.state, pending := st.pend }) :: rest) := by
  unfold recAt at h
  split at h
  · rename_i hg
    cases h
    obtain ⟨j, ob, h1, h2, -⟩ := getH_den hH hg
    rw [hi] at h1; cases h1
    obtain ⟨r', g1, -, rfl⟩ := denO_loop h2
    rw [hl] at g1; cases g1
    exact delH_den hH hg hi h2
  · cases h
theorem range_ok (hc : RecOk P call) {g0 : Operand} {ps : Array Nat} {asg body : Code} {E E' : VE} {H H' : VH} {nx nx' : Nat} {x : Exit} (h : stepRange P call n E H nx g0 ps.toList asg body = some (x, E', H', nx')) : CodeOk P n false (.rangeFunc g0 ps asg body) E H nx x E' H' nx' := by
  intro ρ env own F r Q ds Ds hr hf he hH hk
  cases hr rfl
  unfold stepRange at h
  split at h
  · rename_i u hu
    split at h
    · rename_i f a c hfu hal
      split at h
      · rename_i hen
        rw [tidyK_eq, fN_eq] at h
        unfold endR at h
        split at h
        · rename_i v H2 nx2 hcall
          haveI := entersB_ok hen
          obtain ⟨y, g1, g2⟩ := evV_den he hu
          obtain ⟨xs, ys, g3, g4, rfl⟩ := funOf_ok g2 hfu
          obtain ⟨env1, t1, t2⟩ := tidy_sub he
          refine swp_hide fun F' => ?_
          refine swp_range1 (RR := fun L rc own' => ∃ ρ1 i, Ext ρ ρ1 ∧ Fresh ρ1 nx2 ∧ denEnv ρ1 E = some env ∧ denH ρ1 H2 = some own' ∧ ρ1 nx = some i ∧ i.blk = L ∧ i.lp = some rc) (f := f) (first := ⟨xs⟩) (captured := ⟨ys⟩) g1 ?_ ?_
          · intro L rc ha hp1 hp2 hp3 hst hpe
            let i : BI := { blk := L, pre := [], post := [], cap := 0, sz := 0, lp := some rc }
            have hi : putR ρ nx i nx = some i := putR_self ..
            have e := putR_ext hf i
            have hrec : RecIs (putR ρ nx i) n (tidy [] E) ps.toList asg body rc := ⟨env1, denEnv_ext e t1, ha.weaken t2, by rw [hp1], hp2, hp3⟩
            have hob := denO_loop_mk (ρ := putR ρ nx i) (i := i) (st := .ready) rfl hrec
            have hrc : ({ rc with state := LS.ready.state, pending := LS.ready.pend } : Loop) = rc := by
              cases rc; simp only [LS.state, LS.pend] at *; subst hst; subst hpe; rfl
            rw [hrc] at hob
            have hargs : denL (putR ρ nx i) (a ++ [.yl nx] ++ c) = some (xs ++ [.func (.yield L) #[] #[]] ++ ys) := by
              refine denL_append (denL_append (denL_ext e g3) ?_) (denL_ext e g4)
              exact denL_mk (by simp only [den, hi]; rfl) rfl
            refine (hc.f f _ _ _ _ hcall (putR ρ nx i) _ _ (putR_fresh hf i) hargs (denH_mk hi hob (denH_ext e hH))).mono ?_
            rintro e' own' ⟨v', rfl, ρ1, e1, f1, -, k1⟩
            exact ⟨v', rfl, ρ1, i, e.trans e1, f1, denEnv_ext (e.trans e1) he, k1, e1 _ _ hi, rfl, rfl⟩
          · rintro L rc own' D ⟨ρ1, i, e1, f1, q1, q2, q3, rfl, q4⟩
            have fin : ∀ {x'} {st : LS} {rest : List Heap}, recAt nx H2 = some st → x' = x → E' = E → H' = delH H2 nx → nx' = nx2 → denH ρ1 (delH H2 nx) = some rest → ∃ own2, (dbl Ds ++ (blk D (.deferred (some [])) :: rest)).Perm own2 ∧ Q x' env own2 (mark D :: (mks Ds ++ ds)) := by
              rintro x' st rest hs rfl rfl rfl rfl hrest
              refine ⟨dbl (D :: Ds) ++ rest, List.perm_middle, ?_⟩
              exact hk ρ1 env rest (D :: Ds) e1 f1 q1 hrest
            unfold leaveR at h
            split at h
            · rename_i hs
              cases h
              obtain ⟨rest, k1, k2⟩ := recAt_ok q2 q3 q4 hs
              exact ⟨_, rest, k2, by simp [LS.state], .inl ⟨rfl, fin hs rfl rfl rfl rfl k1⟩⟩
            · rename_i hs
              cases h
              obtain ⟨rest, k1, k2⟩ := recAt_ok q2 q3 q4 hs
              exact ⟨_, rest, k2, by simp [LS.state], .inr ⟨.ret, rfl, swp_ret (fin hs rfl rfl rfl rfl k1)⟩⟩
            · rename_i id hs
              cases h
              obtain ⟨rest, k1, k2⟩ := recAt_ok q2 q3 q4 hs
              exact ⟨_, rest, k2, by simp [LS.state], .inr ⟨.exit id, rfl, swp_exit (fin hs rfl rfl rfl rfl k1)⟩⟩
            · cases h
        · cases h
      · cases h
    · cases h
  · cases h
theorem evC_ok (hc : RecOk P call) : ∀ (k : Nat) (c : Code) (E : VE) (H : VH) (nx : Nat) (x : Exit) (E' : VE) (H' : VH) (nx' : Nat), regsB P n g c = true → evC P call n b0 g inr k c E H nx = some (x, E', H', nx') →
    CodeOk P n inr c E H nx x E' H' nx' ∧ ∀ b, c = .loop b → ∃ m, LoopOk P n inr m b E H nx x E' H' nx' := by
  intro k
  induction k with
  | zero => intro c E H nx x E' H' nx' hg h; cases h
  | succ k ih =>
    intro c E H nx x E' H' nx' hg h
    have h' : stepC P call n b0 g inr (evC P call n b0 g inr k) c E H nx = some (x, E', H', nx') := h
    unfold stepC at h'
    split at h'
    · cases h'
      exact ⟨fun ρ env own F r Q ds Ds hrr hf he hH hk => swp_skip (hk ρ env own Ds (Ext.refl ρ) hf he hH), fun b e => by cases e⟩
    · cases h'
      exact ⟨fun ρ env own F r Q ds Ds hrr hf he hH hk => swp_label (hk ρ env own Ds (Ext.refl ρ) hf he hH), fun b e => by cases e⟩
    · rename_i id ops d
      unfold stepReg at h'
      split at h'
      · unfold norm at h'
        split at h'
        · rename_i E1 H1 nx1 ho
          cases h'
          exact ⟨fun ρ env own F r Q ds Ds hrr hf he hH hk => swp_hide fun F' => sl_region rfl (evOps_ok hc ho hf he hH fun ρ1 env1 own1 e1 f1 d1 h1 => ⟨_, List.Perm.refl _, hk ρ1 env1 own1 Ds e1 f1 d1 h1⟩), fun b e => by cases e⟩
        · cases h'
      · unfold norm at h'
        split at h'
        · rename_i E1 H1 nx1 ho
          cases h'
          simp only [regsB, regB] at hg
          unfold drawReg at ho
          split at ho
          · exact ⟨fun ρ env own F r Q ds Ds hrr hf he hH hk => swp_hide fun F' => evDraw_ok hc ho hf he hH fun ρ1 env1 own1 e1 f1 d1 h1 => ⟨_, List.Perm.refl _, hk ρ1 env1 own1 Ds e1 f1 d1 h1⟩, fun b e => by cases e⟩
          · rename_i hl
            rw [hl] at hg
            exact ⟨fun ρ env own F r Q ds Ds hrr hf he hH hk => swp_hide fun F' => evDrawG_ok hc hg ho hf he hH fun ρ1 env1 own1 e1 f1 d1 h1 => ⟨_, List.Perm.refl _, hk ρ1 env1 own1 Ds e1 f1 d1 h1⟩, fun b e => by cases e⟩
        · cases h'
    · rename_i a b
      obtain ⟨ga, gb⟩ := andB_true (show andB (regsB P n g a) (regsB P n g b) = true from hg)
      rcases evSeq_some h' with ⟨E1, H1, nx1, h1, h2⟩ | ⟨h1, hx⟩
      · exact ⟨codeOk_seq (ih _ _ _ _ _ _ _ _ ga h1).1 (ih _ _ _ _ _ _ _ _ gb h2).1, fun b e => by cases e⟩
      · exact ⟨fun ρ env own F r Q ds Ds hrr hf he hH hk => swp_seq ((ih _ _ _ _ _ _ _ _ ga h1).1 ρ env own F r _ ds Ds hrr hf he hH fun ρ1 env1 own1 Ds1 e1 f1 d1 h1 => thn_other hx (hk ρ1 env1 own1 Ds1 e1 f1 d1 h1)), fun b e => by cases e⟩
    · rename_i c a b
      obtain ⟨ga, gb⟩ := andB_true (show andB (regsB P n g a) (regsB P n g b) = true from hg)
      unfold stepCond at h'
      split at h'
      · rename_i hv
        refine ⟨fun ρ env own F r Q ds Ds hrr hf he hH hk => ?_, fun b e => by cases e⟩
        obtain ⟨y, g1, g2⟩ := evV_den he hv
        cases g2
        exact swp_true g1 ((ih _ _ _ _ _ _ _ _ ga h').1 ρ env own F r Q ds Ds hrr hf he hH hk)
      · rename_i hv
        refine ⟨fun ρ env own F r Q ds Ds hrr hf he hH hk => ?_, fun b e => by cases e⟩
        obtain ⟨y, g1, g2⟩ := evV_den he hv
        cases g2
        exact swp_false g1 ((ih _ _ _ _ _ _ _ _ gb h').1 ρ env own F r Q ds Ds hrr hf he hH hk)
      · cases h'
    · rename_i id body
      have hg1 : regsB P n g body = true := hg
      unfold evBlk at h'
      split at h'
      · rename_i id' E1 H1 nx1 hr
        split at h'
        · rename_i hb
          cases h'
          have := Nat.eq_of_beq_eq_true hb; subst this
          exact ⟨fun ρ env own F r Q ds Ds hrr hf he hH hk => swp_block ((ih _ _ _ _ _ _ _ _ hg1 hr).1 ρ env own F r _ ds Ds hrr hf he hH fun ρ1 env1 own1 Ds1 e1 f1 d1 h1 => inb_exit (hk ρ1 env1 own1 Ds1 e1 f1 d1 h1)), fun b e => by cases e⟩
        · rename_i hb
          cases h'
          exact ⟨fun ρ env own F r Q ds Ds hrr hf he hH hk => swp_block ((ih _ _ _ _ _ _ _ _ hg1 hr).1 ρ env own F r _ ds Ds hrr hf he hH fun ρ1 env1 own1 Ds1 e1 f1 d1 h1 => inb_out hb (hk ρ1 env1 own1 Ds1 e1 f1 d1 h1)), fun b e => by cases e⟩
      · rename_i hn
        refine ⟨fun ρ env own F r Q ds Ds hrr hf he hH hk => swp_block ((ih _ _ _ _ _ _ _ _ hg1 h').1 ρ env own F r _ ds Ds hrr hf he hH fun ρ1 env1 own1 Ds1 e1 f1 d1 h1 => ?_), fun b e => by cases e⟩
        have hq := hk ρ1 env1 own1 Ds1 e1 f1 d1 h1
        cases x with
        | exit id' => exact (hn _ _ _ _ h').elim
        | _ => exact hq
    · rename_i body
      have hg1 : regsB P n g body = true := hg
      unfold stepLoop at h'
      simp only [tidyK_eq, gcK_eq] at h'
      have key : ∃ m, LoopOk P n inr m body E H nx x E' H' nx' := by
        rcases evSeq_some h' with ⟨E1, H1, nx1, h1, h2⟩ | ⟨h1, hx⟩
        · obtain ⟨m, hm⟩ := (ih _ _ _ _ _ _ _ _ hg h2).2 body rfl
          refine ⟨m + 1, fun ρ env own F r Q ds Ds hrr hf he hH hk => srounds ((ih _ _ _ _ _ _ _ _ hg1 h1).1 ρ env own F r _ ds Ds hrr hf he hH fun ρ1 env1 own1 Ds1 e1 f1 d1 h1 => ?_)⟩
          obtain ⟨env2, g1, g2⟩ := tidy_sub d1
          obtain ⟨own2, g3, g4⟩ := gcH_den h1
          exact srounds_weaken2 g2 (fun _ s => s.sub ((g4.append_left (dbl Ds1)).cons_cons F)) (hm ρ1 env2 own2 F r Q ds Ds1 hrr f1 g1 g3 (hk.ext e1))
        · exact ⟨1, fun ρ env own F r Q ds Ds hrr hf he hH hk => srounds ((ih _ _ _ _ _ _ _ _ hg1 h1).1 ρ env own F r _ ds Ds hrr hf he hH fun ρ1 env1 own1 Ds1 e1 f1 d1 h1 => thn_other hx (hk ρ1 env1 own1 Ds1 e1 f1 d1 h1))⟩
      refine ⟨fun ρ env own F r Q ds Ds hrr hf he hH hk => ?_, fun b e => by cases e; exact key⟩
      obtain ⟨m, hm⟩ := key
      exact swp_rounds m (hm ρ env own F r Q ds Ds hrr hf he hH hk)
    · rename_i id
      cases h'
      exact ⟨fun ρ env own F r Q ds Ds hrr hf he hH hk => swp_exit (hk ρ env own Ds (Ext.refl ρ) hf he hH), fun b e => by cases e⟩
    · cases h'
      exact ⟨fun ρ env own F r Q ds Ds hrr hf he hH hk => swp_ret (hk ρ env own Ds (Ext.refl ρ) hf he hH), fun b e => by cases e⟩
    · rename_i body
      have hg1 : regsB P n g body = true := hg
      have key : ∃ y, evC P call n b0 g inr k body E H nx = some (y, E', H', nx') ∧ y = x ∧ ∀ l, x ≠ .goto l := by
        unfold evScope at h'
        split at h'
        · rename_i E1 H1 nx1 he1; cases h'; exact ⟨_, he1, rfl, fun l e => by cases e⟩
        · rename_i E1 H1 nx1 he1; cases h'; exact ⟨_, he1, rfl, fun l e => by cases e⟩
        · rename_i id E1 H1 nx1 he1; cases h'; exact ⟨_, he1, rfl, fun l e => by cases e⟩
        · cases h'
      obtain ⟨y, he1, rfl, hn⟩ := key
      exact ⟨fun ρ env own F r Q ds Ds hrr hf he hH hk => swp_scope ((ih _ _ _ _ _ _ _ _ hg1 he1).1 ρ env own F r _ ds Ds hrr hf he hH fun ρ1 env1 own1 Ds1 e1 f1 d1 h1 => ⟨hn, hk ρ1 env1 own1 Ds1 e1 f1 d1 h1⟩), fun b e => by cases e⟩
    · rename_i g0 ps asg bd
      unfold stepRg at h'
      split at h'
      · cases h'
      · exact ⟨range_ok hc h', fun b e => by cases e⟩
    · cases h'

/-! ### Functions -/
def resV1 (P : Program) (E : VE) (H : VH) : ResultVar → Option VV
  | .tmp t => lookV E t
  | .cell a t => match lookV E a with
    | some (.ptr b off) => loadV P H t b off
    | _ => none
def resVs (P : Program) (E : VE) (H : VH) : List ResultVar → Option VV
  | [] => some (.tup [])
  | [x] => resV1 P E H x
  | [x, y] => match resV1 P E H x, resV1 P E H y with
    | some u, some v => some (.tup [u, v])
    | _, _ => none
  | [x, y, z] => match resV1 P E H x, resV1 P E H y, resV1 P E H z with
    | some u, some v, some w => some (.tup [u, v, w])
    | _, _, _ => none
  | _ => none
theorem resV1_ok {ρ : Rn} {E : VE} {env : Env} {H : VH} {own : List Heap} {x : ResultVar} {v : VV} (he : denEnv ρ E = some env) (hH : denH ρ H = some own) (h : resV1 P E H x = some v) : ∃ y, den ρ v = some y ∧ ResV P own env n x y := by
  cases x with
  | tmp t =>
    obtain ⟨y, g1, g2⟩ := lookV_den he h
    exact ⟨y, g2, resV_tmp g1⟩
  | cell a t =>
    simp only [resV1] at h
    split at h
    · rename_i b off ha
      obtain ⟨y, g1, g2⟩ := lookV_den he ha
      obtain ⟨i, hi, rfl⟩ := den_ptr g2
      obtain ⟨r, q1, q2⟩ := loadV_ok hH (fun _ h => h) h hi
      refine ⟨r, q1, fun A w X hA s => ?_⟩
      have h2 : A.tmps.getD a undef = .pointer (some (i.at off)) := by rw [Array.getD_eq_getD_getElem?, hA.get _ _ g1]; rfl
      simp [resSem, h2, asAddr, q2 w X s]
    · cases h
theorem resVs_ok {ρ : Rn} {E : VE} {env : Env} {H : VH} {own : List Heap} {l : List ResultVar} {v : VV} (he : denEnv ρ E = some env) (hH : denH ρ H = some own) (h : resVs P E H l = some v) : ∃ y, den ρ v = some y ∧ ResOk P l own env n y := by
  unfold resVs at h
  split at h
  · cases h; exact ⟨.tuple ⟨[]⟩, rfl, resOk_nil⟩
  · obtain ⟨y, g1, g2⟩ := resV1_ok (n := n) he hH h
    exact ⟨y, g1, resOk_one g2⟩
  · split at h
    · rename_i u v' h1 h2
      cases h
      obtain ⟨y, g1, g2⟩ := resV1_ok (n := n) he hH h1
      obtain ⟨z, g3, g4⟩ := resV1_ok (n := n) he hH h2
      exact ⟨.tuple ⟨[y, z]⟩, by simp only [den, denL, g1, g3], resOk_two g2 g4⟩
    · cases h
  · split at h
    · rename_i u v' w h1 h2 h3
      cases h
      obtain ⟨y, g1, g2⟩ := resV1_ok (n := n) he hH h1
      obtain ⟨z, g3, g4⟩ := resV1_ok (n := n) he hH h2
      obtain ⟨t, g5, g6⟩ := resV1_ok (n := n) he hH h3
      exact ⟨.tuple ⟨[y, z, t]⟩, by simp only [den, denL, g1, g3, g5], resOk_three g2 g4 g6⟩
    · cases h
  · cases h
def paramsV : List VV → Nat → VE
  | [], _ => []
  | v :: r, k => (k, v) :: paramsV r (k + 1)
theorem paramsV_den {ρ : Rn} : ∀ {l : List VV} {xs : List Value} {k : Nat}, denL ρ l = some xs → denEnv ρ (paramsV l k) = some (params xs k)
  | [], xs, k, h => by cases h; rfl
  | v :: l, xs, k, h => by
    obtain ⟨y, ys, h1, h2, rfl⟩ := denL_cons h
    exact denEnv_mk h1 (paramsV_den h2)
/-- OTabs of orders: by function. -/
abbrev OTabs := List (Nat × Orders)
def tableOf : OTabs → Nat → Orders
  | [], _ => []
  | (i, x) :: g, f => match Nat.beq i f with
    | true => x
    | false => tableOf g f
def regF (P : Program) (p : Nat × Orders) : Bool := match P.funcs[p.1]? with
  | some fn => match fn.body with
    | some c => regsB P fn.ntmps p.2 c
    | none => true
  | none => true
def TablesOk (P : Program) (tb : OTabs) : Prop := ∀ f fn c, P.funcs[f]? = some fn → fn.body = some c → regsB P fn.ntmps (tableOf tb f) c = true
theorem tablesOk_nil {P : Program} : TablesOk P [] := fun f fn c _ _ => regsB_nil c
theorem tablesOk_cons {P : Program} {p : Nat × Orders} {tb : OTabs} (h : regF P p = true) (ht : TablesOk P tb) : TablesOk P (p :: tb) := fun f fn c hf hb => by
  obtain ⟨i, x⟩ := p
  simp only [tableOf]
  split
  · rename_i he
    have := Nat.eq_of_beq_eq_true he; subst this
    simp only [regF, hf, hb] at h
    exact h
  · exact ht f fn c hf hb
def stepF (P : Program) (tb : OTabs) (fuel : Nat) (rec : CallE) : FuncId → List VV → VH → Nat → Option (VV × VH × Nat) := fun f args H nx => match P.funcs[f]? with
  | some fn => match fn.body with
    | some c => match Nat.ble args.length fn.ntmps with
      | true => match evC P rec fn.ntmps nx (tableOf tb f) false fuel c (paramsV args 0) H nx with
        | some (.normal, E, H', nx') => match resVs P E H' fn.results.toList with
          | some v => fVV v fun v => gcK 8 nx (idsV nx v 0) H' fun H2 => some (v, H2, nx')
          | none => none
        | some (.ret, E, H', nx') => match resVs P E H' fn.results.toList with
          | some v => fVV v fun v => gcK 8 nx (idsV nx v 0) H' fun H2 => some (v, H2, nx')
          | none => none
        | _ => none
      | false => none
    | none => none
  | none => none
theorem stepF_ok {tb : OTabs} {fuel : Nat} {rec : CallE} (ht : TablesOk P tb) (hr : RecOk P rec) : ∀ f args H nx r, stepF P tb fuel rec f args H nx = some r → ∀ ρ xs own, Fresh ρ nx → denL ρ args = some xs → denH ρ H = some own →
    T P f xs own fun e own' => ∃ v, e = .returned v ∧ Post ρ r.1 r.2.1 r.2.2 v own' := by
  intro f args H nx r h ρ xs own hf ha hH
  unfold stepF at h
  split at h
  · rename_i fn hfn
    split at h
    · rename_i c hb
      split at h
      · rename_i hn
        have hlen : xs.length ≤ fn.ntmps := by rw [denL_length ha]; exact Nat.le_of_ble_eq_true hn
        have fin : ∀ {x : Exit} {E : VE} {H' : VH} {nx' : Nat} {v : VV}, (x = .normal ∨ x = .ret) → evC P rec fn.ntmps nx (tableOf tb f) false fuel c (paramsV args 0) H nx = some (x, E, H', nx') → resVs P E H' fn.results.toList = some v →
            T P f xs own fun e own' => ∃ y, e = .returned y ∧ Post ρ v (gcH 8 nx (idsV nx v 0) H') nx' y own' := fun {x E H' nx' v} hx he hv => by
          refine t_of_body hfn hb hlen fun F => (evC_ok hr _ _ _ _ _ _ _ _ _ (ht _ _ _ hfn hb) he).1 ρ _ own F none _ [] [] (fun _ => rfl) hf (paramsV_den ha) hH ?_
          intro ρ1 env1 own1 Ds e1 f1 d1 h1
          obtain ⟨y, g1, g2⟩ := resVs_ok (P := P) (n := fn.ntmps) d1 h1 hv
          obtain ⟨own4, g3, g4⟩ := gcH_den (m := 8) (b0 := nx) (a := idsV nx v 0) h1
          have : ∃ v' own2 own3, Marks (mks Ds ++ []) (dbl Ds ++ own1) own2 ∧ ResOk P fn.results.toList own2 env1 fn.ntmps v' ∧ (∀ F w, Sat (F :: own2) w → Sat (F :: own3) w) ∧ (∃ y, Ending.returned v' = .returned y ∧ Post ρ v (gcH 8 nx (idsV nx v 0) H') nx' y own3) :=
            ⟨y, own1, own4, by rw [List.append_nil]; exact marks_dbl Ds own1, g2, fun F _ s => s.sub (g4.cons_cons F), y, rfl, ρ1, e1, f1, g1, g3⟩
          rcases hx with rfl | rfl <;> exact this
        split at h
        · rename_i E H' nx' he
          split at h
          · rename_i v hv; rw [fVV_eq, gcK_eq] at h; cases h; exact fin (.inl rfl) he hv
          · cases h
        · rename_i E H' nx' he
          split at h
          · rename_i v hv; rw [fVV_eq, gcK_eq] at h; cases h; exact fin (.inr rfl) he hv
          · cases h
        · cases h
      · cases h
    · cases h
  · cases h

/-! ### Rounds -/
def roundEnd (b n : Nat) (E : VE) (ps : List Nat) (asg body : Code) : CRes → Option (VV × VH × Nat)
  | some (.normal, _, H, nx) => some (.lit (.bool true), (b, .loop n E ps asg body .ready) :: H, nx)
  | some (.ret, _, H, nx) => some (.lit (.bool false), (b, .loop n E ps asg body (.done .ret)) :: H, nx)
  | some (.exit id, _, H, nx) => some (.lit (.bool false), (b, .loop n E ps asg body (.done (.exit id))) :: H, nx)
  | _ => none
def roundBody (P : Program) (fuel : Nat) (rec : CallE) (b n : Nat) (E : VE) (ps : List Nat) (asg body : Code) (b0 : Nat) : CRes → Option (VV × VH × Nat)
  | some (.normal, E1, H1, nx1) => roundEnd b n E ps asg body (evC P rec n b0 [] true fuel body E1 H1 nx1)
  | _ => none
/-- A call of yield. -/
def stepY (P : Program) (fuel : Nat) (rec : CallE) (b : Nat) (args : List VV) (H : VH) (nx : Nat) : Option (VV × VH × Nat) := match getH H b with
  | some (.loop n E ps asg body .ready) => match andB (Nat.beq args.length ps.length) (allLt n ps) with
    | true => roundBody P fuel rec b n E ps asg body nx (evC P rec n nx [] true fuel asg (bindV ps args E) (delH H b) nx)
    | false => none
  | _ => none
theorem stepY_ok {fuel : Nat} {rec : CallE} (hr : RecOk P rec) : ∀ b args H nx r, stepY P fuel rec b args H nx = some r → ∀ ρ xs own i, Fresh ρ nx → denL ρ args = some xs → denH ρ H = some own → ρ b = some i →
    ∀ n env o c x, o.op = .call c → c.callee = .value x → ev env x = some (.func (.yield i.blk) #[] #[]) → evs env c.args.toList = some xs → HOp P own n o env (Post ρ r.1 r.2.1 r.2.2) := by
  intro b args H nx r h ρ xs own i hf ha hH hi n' env o c x ho hcal hx hvs
  unfold stepY at h
  split at h
  · rename_i n E ps asg body hg
    split at h
    · rename_i hok
      obtain ⟨hlen, hlt⟩ := andB_true hok
      unfold roundBody at h
      split at h
      · rename_i E1 H1 nx1 hasg
        obtain ⟨j, ob, g1, g2, -⟩ := getH_den hH hg
        rw [hi] at g1; cases g1
        obtain ⟨rest, d1, d2⟩ := delH_den hH hg hi g2
        obtain ⟨rl, l1, hrec, rfl⟩ := denO_loop g2
        obtain ⟨env0, q1, q2, q3, q4, q5⟩ := id hrec
        let rc : Loop := { rl with state := LS.ready.state, pending := LS.ready.pend }
        have hbody : ∀ (x : Exit) (E2 : VE) (H2 : VH) (nx2 : Nat), evC P rec n nx [] true fuel body E1 H1 nx1 = some (x, E2, H2, nx2) → ∀ (K : List Heap → Prop) (Kx : Code → List Heap → Prop),
            (∀ ρ2 own2, Ext ρ ρ2 → Fresh ρ2 nx2 → denH ρ2 H2 = some own2 → ∀ env2 ds2 Ds, RoundQ K Kx x env2 (dbl Ds ++ own2) ds2) →
            ∀ F, SWP P (some i.blk) F n rc.assign (Thn (fun env2 own2 ds2 => ∀ F2, SWP P (some i.blk) F2 n rc.body (RoundQ K Kx) env2 own2 ds2) fun _ _ _ _ => False) (bindP rc.params.toList xs env0) rest [] := by
          intro x E2 H2 nx2 hb K Kx hk F
          have s1 := (evC_ok hr _ _ _ _ _ _ _ _ _ (regsB_nil asg) hasg).1 ρ (bindP ps xs env0) rest F (some i.blk) (Thn (fun env2 own2 ds2 => ∀ F2, SWP P (some i.blk) F2 n rc.body (RoundQ K Kx) env2 own2 ds2) fun _ _ _ _ => False) [] [] (fun e => by cases e) hf (bindV_den ha q1) d1 ?_
          · have e1 : rc.assign = asg := q4
            have e2 : rc.params.toList = ps := q3
            rw [e1, e2]
            exact s1
          · intro ρ1 env1 own1 Ds e1 f1 k1 k2 F2
            have e3 : rc.body = body := q5
            rw [e3]
            refine (evC_ok hr _ _ _ _ _ _ _ _ _ (regsB_nil body) hb).1 ρ1 env1 own1 F2 (some i.blk) _ [] Ds (fun e => by cases e) f1 k1 k2 ?_
            intro ρ2 env2 own2 Ds2 e2 f2 k3 k4
            exact hk ρ2 own2 (e1.trans e2) f2 k4 _ _ _
        have drop : ∀ (Ds : List Nat) (own2 : List Heap) (F : Heap) (w : World), Sat (F :: (dbl Ds ++ own2)) w → Sat (F :: own2) w := fun Ds own2 F w s => s.sub ((List.sublist_append_right _ _).cons_cons F)
        have hxl : xs.length = rc.params.size := by
          rw [denL_length ha, Nat.eq_of_beq_eq_true hlen, ← q3]; simp [rc]
        have hplt : ∀ p ∈ rc.params.toList, p < n := fun p hp => allLt_ok hlt p (by rw [← q3]; exact hp)
        have go : ∀ (K : List Heap → Prop) (Kx : Code → List Heap → Prop),
            (∀ F, SWP P (some i.blk) F n rc.assign (Thn (fun env2 own2 ds2 => ∀ F2, SWP P (some i.blk) F2 n rc.body (RoundQ K Kx) env2 own2 ds2) fun _ _ _ _ => False) (bindP rc.params.toList xs env0) rest []) →
            (∀ own2, K own2 → Post ρ r.1 r.2.1 r.2.2 (.bool true) (blk i.blk (.loop { rc with state := .ready, pending := none }) :: own2)) →
            (∀ c own2, Kx c own2 → Post ρ r.1 r.2.1 r.2.2 (.bool false) (blk i.blk (.loop { rc with state := .done, pending := some c }) :: own2)) → HOp P own n' o env (Post ρ r.1 r.2.1 r.2.2) := by
          intro K Kx h1 h2 h3
          refine ⟨by rw [ho]; rfl, fun a w X hA s => ?_⟩
          have s1 : Sat ((blk i.blk (.loop rc) :: rest) ++ X) w := s.perm (d2.append_right X)
          have hdj : (blk i.blk (.loop rc) :: rest).Pairwise Disj := (s1.sub (List.sublist_append_left _ _)).dj
          have hy := yt_round (rc := rc) (x := xs) (K := K) (Kx := Kx) q2 hplt hxl rfl hdj h1
          have h4 := (hop_yield ho hcal hx hvs hy).2 a w X hA (by simpa using s1.joins)
          obtain ⟨w', h5⟩ := h4
          refine ⟨w', ?_⟩
          have fin : ∀ {v : Value} {own' : List Heap} {w : World}, Sat (own' ++ X) w → (∃ H', own' = [H'] ∧ ((v = .bool true ∧ ∃ own2, (blk i.blk (.loop { rc with state := .ready, pending := none }) :: own2).Pairwise Disj ∧ H' = joins (blk i.blk (.loop { rc with state := .ready, pending := none }) :: own2) ∧ K own2) ∨
              (v = .bool false ∧ ∃ c own2, (blk i.blk (.loop { rc with state := .done, pending := some c }) :: own2).Pairwise Disj ∧ H' = joins (blk i.blk (.loop { rc with state := .done, pending := some c }) :: own2) ∧ Kx c own2))) →
              ∃ own2, Sat (own2 ++ X) w ∧ Post ρ r.1 r.2.1 r.2.2 v own2 := by
            rintro v own' w s ⟨H', rfl, ⟨rfl, own2, hd2, rfl, hK⟩ | ⟨rfl, c, own2, hd2, rfl, hK⟩⟩
            · exact ⟨_, Sat.unjoins hd2 (by simpa using s), h2 own2 hK⟩
            · exact ⟨_, Sat.unjoins hd2 (by simpa using s), h3 c own2 hK⟩
          rcases h5 with ⟨v, o1, k1, k2, k3⟩ | ⟨o1, k1, k2, k3⟩ | ⟨f, as, k1, k2⟩ | ⟨L, f, tmps, as, bd, k1, k2⟩
          · obtain ⟨o2, z1, z2⟩ := fin k2 k3
            exact .inl ⟨v, o2, k1, z1, z2⟩
          · obtain ⟨o2, z1, z2⟩ := fin k2 k3
            exact .inr (.inl ⟨o2, k1, z1, z2⟩)
          · refine .inr (.inr (.inl ⟨f, as, k1, k2.mono fun e w'' h5 => ?_⟩))
            obtain ⟨v, o1, h6, h7, h8⟩ := h5
            obtain ⟨o2, z1, z2⟩ := fin h7 h8
            exact ⟨v, o2, h6, z1, z2⟩
          · refine .inr (.inr (.inr ⟨L, f, tmps, as, bd, k1, fun r => (k2 r).mono fun e w'' h5 => ?_⟩))
            obtain ⟨v, o1, h6, h7, h8⟩ := h5
            obtain ⟨o2, z1, z2⟩ := fin h7 h8
            exact ⟨v, o2, h6, z1, z2⟩
        have post : ∀ {st : LS} {H2 : VH} {nx2 : Nat} {b' : Bool} {own2 : List Heap}, (∃ ρ2, Ext ρ ρ2 ∧ Fresh ρ2 nx2 ∧ denH ρ2 H2 = some own2) →
            Post ρ (.lit (.bool b')) ((b, .loop n E ps asg body st) :: H2) nx2 (.bool b') (blk i.blk (.loop { rc with state := st.state, pending := st.pend }) :: own2) := by
          rintro st H2 nx2 b' own2 ⟨ρ2, e2, f2, k⟩
          have hob : denO ρ2 i (.loop n E ps asg body st) = some (.loop { rc with state := st.state, pending := st.pend }) := denO_loop_mk (r := rl) l1 (hrec.ext e2)
          exact ⟨ρ2, e2, f2, rfl, denH_mk (e2 _ _ hi) hob k⟩
        unfold roundEnd at h
        split at h
        · rename_i E2 H2 nx2 hb
          cases h
          refine go (fun own2 => ∃ ρ2, Ext ρ ρ2 ∧ Fresh ρ2 nx2 ∧ denH ρ2 H2 = some own2) (fun _ _ => False) (hbody _ _ _ _ hb _ _ ?_) ?_ ?_
          · intro ρ2 own2 e2 f2 k env2 ds2 Ds
            exact ⟨own2, drop Ds own2, ρ2, e2, f2, k⟩
          · intro own2 hk; exact post (st := .ready) hk
          · intro c own2 hk; exact hk.elim
        · rename_i E2 H2 nx2 hb
          cases h
          refine go (fun _ => False) (fun c own2 => c = .ret ∧ ∃ ρ2, Ext ρ ρ2 ∧ Fresh ρ2 nx2 ∧ denH ρ2 H2 = some own2) (hbody _ _ _ _ hb _ _ ?_) ?_ ?_
          · intro ρ2 own2 e2 f2 k env2 ds2 Ds
            exact ⟨own2, drop Ds own2, rfl, ρ2, e2, f2, k⟩
          · intro own2 hk; exact hk.elim
          · rintro c own2 ⟨rfl, hk⟩; exact post (st := .done .ret) hk
        · rename_i id E2 H2 nx2 hb
          cases h
          refine go (fun _ => False) (fun c own2 => c = .exit id ∧ ∃ ρ2, Ext ρ ρ2 ∧ Fresh ρ2 nx2 ∧ denH ρ2 H2 = some own2) (hbody _ _ _ _ hb _ _ ?_) ?_ ?_
          · intro ρ2 own2 e2 f2 k env2 ds2 Ds
            exact ⟨own2, drop Ds own2, rfl, ρ2, e2, f2, k⟩
          · intro own2 hk; exact hk.elim
          · rintro c own2 ⟨rfl, hk⟩; exact post (st := .done (.exit id)) hk
        · cases h
      · cases h
    · cases h
  · cases h

/-! ### What was run before -/
structure Memo where
  f : FuncId
  args : List VV
  H : VH
  nx : Nat
  v : VV
  H' : VH
  nx' : Nat
def MemoOk (P : Program) (m : Memo) : Prop := ∀ ρ xs own, Fresh ρ m.nx → denL ρ m.args = some xs → denH ρ m.H = some own →
  T P m.f xs own fun e own' => ∃ v, e = .returned v ∧ Post ρ m.v m.H' m.nx' v own'
def sameM (m : Memo) (f : FuncId) (args : List VV) (nx : Nat) : Bool := andB (Nat.beq m.f f) (andB (Nat.beq m.nx nx) (eqVVs m.args args))
/-- The call, and what is left of the heap. -/
def findM : List Memo → FuncId → List VV → VH → Nat → Option (Memo × VH)
  | [], _, _, _, _ => none
  | m :: l, f, args, H, nx => match sameM m f args nx with
    | true => match takeH m.H H with
      | some R => some (m, R)
      | none => findM l f args H nx
    | false => findM l f args H nx
def viaF (tbl : List Memo) (rec : FuncId → List VV → VH → Nat → Option (VV × VH × Nat)) (f : FuncId) (args : List VV) (H : VH) (nx : Nat) : Option (VV × VH × Nat) := match findM tbl f args H nx with
  | some (m, R) => appK m.H' R fun H' => some (m.v, H', m.nx')
  | none => rec f args H nx
def stepW (P : Program) (tb : OTabs) (tbl : List Memo) (fuel : Nat) (rec : CallE) : CallE
  | .f f, args, H, nx => viaF tbl (stepF P tb fuel rec) f args H nx
  | .y b, args, H, nx => stepY P fuel rec b args H nx
def MemosOk (P : Program) (tbl : List Memo) : Prop := ∀ m ∈ tbl, MemoOk P m
theorem memosOk_nil : MemosOk P [] := fun m h => by cases h
theorem memosOk_cons {m : Memo} {l : List Memo} (h : MemoOk P m) (hl : MemosOk P l) : MemosOk P (m :: l) := fun x hx => by
  rcases List.mem_cons.1 hx with rfl | hx
  · exact h
  · exact hl x hx
theorem findM_ok {f : FuncId} {args : List VV} {H R : VH} {nx : Nat} : ∀ {tbl : List Memo} {m : Memo}, findM tbl f args H nx = some (m, R) → m ∈ tbl ∧ m.f = f ∧ m.args = args ∧ takeH m.H H = some R ∧ m.nx = nx
  | [], m, h => by cases h
  | x :: l, m, h => by
    have rest : findM l f args H nx = some (m, R) → m ∈ x :: l ∧ m.f = f ∧ m.args = args ∧ takeH m.H H = some R ∧ m.nx = nx := fun h => by
      obtain ⟨h1, h2⟩ := findM_ok h
      exact ⟨List.mem_cons_of_mem _ h1, h2⟩
    simp only [findM] at h
    split at h
    · rename_i hs
      split at h
      · rename_i R' ht
        cases h
        obtain ⟨h1, h2⟩ := andB_true hs
        obtain ⟨h3, h4⟩ := andB_true h2
        exact ⟨List.mem_cons_self .., Nat.eq_of_beq_eq_true h1, eqVVs_ok h4, ht, Nat.eq_of_beq_eq_true h3⟩
      · exact rest h
    · exact rest h
theorem t_frame {f : FuncId} {xs : List Value} {own a r : List Heap} {Q Q' : Ending → List Heap → Prop} (p : own.Perm (a ++ r)) (h : T P f xs a Q) (hq : ∀ e own', Q e own' → Q' e (own' ++ r)) : T P f xs own Q' := fun w X s => by
  have s' : Sat (a ++ (r ++ X)) w := by
    rw [← List.append_assoc]
    exact s.perm (p.append_right X)
  exact (h w (r ++ X) s').mono fun e w' ⟨own', s2, q⟩ => ⟨own' ++ r, by rw [List.append_assoc]; exact s2, hq e own' q⟩
theorem stepW_ok {tb : OTabs} {tbl : List Memo} {fuel : Nat} {rec : CallE} (hb : TablesOk P tb) (ht : MemosOk P tbl) (hr : RecOk P rec) : RecOk P (stepW P tb tbl fuel rec) := by
  refine ⟨fun f args H nx r h => ?_, fun b args H nx r h => stepY_ok hr b args H nx r h⟩
  have h : viaF tbl (stepF P tb fuel rec) f args H nx = some r := h
  unfold viaF at h
  split at h
  · rename_i m R hm
    rw [appK_eq] at h
    cases h
    obtain ⟨h1, h2, h3, h4, h5⟩ := findM_ok hm
    subst h2; subst h3; subst h5
    intro ρ xs own hf ha hH
    obtain ⟨a, r, g1, g2, g3⟩ := takeH_den h4 hH
    refine t_frame g3 (ht m h1 ρ xs a hf ha g1) ?_
    rintro e own' ⟨v, rfl, ρ1, e1, f1, d1, k1⟩
    exact ⟨v, rfl, ρ1, e1, f1, d1, denH_append k1 (denH_ext e1 g2)⟩
  · exact stepF_ok hb hr f args H nx r h
def evF (P : Program) (tb : OTabs) (tbl : List Memo) (fuel depth : Nat) : CallE := Nat.rec (motive := fun _ => CallE) (fun _ _ _ _ => none) (fun _ rec => stepW P tb tbl fuel rec) depth
theorem evF_ok {tb : OTabs} {tbl : List Memo} (hb : TablesOk P tb) (ht : MemosOk P tbl) (fuel : Nat) : ∀ depth, RecOk P (evF P tb tbl fuel depth) := by
  intro depth
  induction depth with
  | zero => exact ⟨fun f args H nx r h => (by cases h), fun b args H nx r h => (by cases h)⟩
  | succ d ih => exact stepW_ok hb ht ih
def leftB : Option VH → Bool
  | some _ => true
  | none => false
def memoB (P : Program) (tb : OTabs) (tbl : List Memo) (fuel depth : Nat) (m : Memo) : Bool := match stepF P tb fuel (evF P tb tbl fuel depth) m.f m.args m.H m.nx with
  | some (v, H', nx') => andB (Nat.beq nx' m.nx') (andB (eqVV v m.v) (leftB (takeH m.H' H')))
  | none => false
/-- A call that was run is known. -/
theorem memo_ok {tb : OTabs} {tbl : List Memo} {fuel depth : Nat} {m : Memo} (hb : TablesOk P tb) (ht : MemosOk P tbl) (h : memoB P tb tbl fuel depth m = true) : MemoOk P m := by
  unfold memoB at h
  split at h
  · rename_i v H' nx' he
    obtain ⟨h1, h2⟩ := andB_true h
    obtain ⟨h3, h4⟩ := andB_true h2
    have e1 := Nat.eq_of_beq_eq_true h1
    have e2 := eqVV_ok h3
    subst e1; subst e2
    intro ρ xs own hf ha hH w X s
    refine (stepF_ok hb (evF_ok hb ht fuel depth) _ _ _ _ _ he ρ xs own hf ha hH w X s).mono ?_
    rintro e w' ⟨own', s', y, rfl, ρ1, e1, f1, d1, k1⟩
    obtain ⟨R, hR⟩ : ∃ R, takeH m.H' H' = some R := by
      cases hx : takeH m.H' H' with
      | none => rw [hx] at h4; cases h4
      | some R => exact ⟨R, rfl⟩
    obtain ⟨a, r, g1, g2, g3⟩ := takeH_den hR k1
    refine ⟨a, ?_, y, rfl, ρ1, e1, f1, d1, g1⟩
    have s2 := s'.perm (g3.append_right X)
    exact s2.sub ((List.sublist_append_left a r).append_right X)
  · cases h
/-- A closed call, run by the kernel. -/
theorem closed_call {tb : OTabs} {tbl : List Memo} {fuel depth : Nat} {f : FuncId} {args : List Value} {v : Value} {H' : VH} {nx' : Nat} (hb : TablesOk P tb) (ht : MemosOk P tbl) (h : evF P tb tbl fuel depth (.f f) (lits args) [] 0 = some (.lit v, H', nx')) : PFn P f args [] v := by
  have := (evF_ok (P := P) hb ht fuel depth).f f _ _ _ _ h (fun _ => none) args [] (fun _ _ => rfl) (denL_lits args) rfl
  intro w X s
  refine (this w X s).mono ?_
  rintro e w' ⟨own', s', y, rfl, ρ', -, -, hd, -⟩
  cases hd
  exact ⟨[], s'.sub (List.sublist_append_right _ _), rfl, rfl⟩
def closedB (P : Program) (tb : OTabs) (tbl : List Memo) (fuel depth : Nat) (f : FuncId) (args : List Value) : Bool := match evF P tb tbl fuel depth (.f f) (lits args) [] 0 with
  | some (.lit (.bool true), _, _) => true
  | _ => false
theorem closed_true {tb : OTabs} {tbl : List Memo} {fuel depth : Nat} {f : FuncId} {args : List Value} (hb : TablesOk P tb) (ht : MemosOk P tbl) (h : closedB P tb tbl fuel depth f args = true) : PFn P f args [] (.bool true) := by
  unfold closedB at h
  split at h
  · rename_i H' nx' he; exact closed_call hb ht he
  · cases h
end
end
end Go.SL
