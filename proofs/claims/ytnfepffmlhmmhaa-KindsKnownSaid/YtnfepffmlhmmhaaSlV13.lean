/- Closed calls, run by the kernel: code, functions. -/
import Derived.Test.YtnfepffmlhmmhaaSlV12
set_option linter.unusedVariables false
set_option linter.unusedSimpArgs false
namespace Go.SL
noncomputable section

/-! ### What is no longer reached -/
mutual
/-- The blocks of a value, from a number on, by bits. -/
def idsV (b0 : Nat) : VV → Nat → Nat
  | .lit _, a => a
  | .ptr b _, a | .slc b _ _ _, a | .mp b, a => match Nat.ble b0 b with
    | true => a ||| (1 <<< (b - b0))
    | false => a
  | .agg l, a | .tup l, a => idsL b0 l a
  | .fn _ x y, a => idsL b0 y (idsL b0 x a)
  | .ifc _ v, a => idsV b0 v a
def idsL (b0 : Nat) : List VV → Nat → Nat
  | [], a => a
  | v :: l, a => idsL b0 l (idsV b0 v a)
end
def idsM (b0 : Nat) : List ME → Nat → Nat
  | [], a => a
  | e :: l, a => idsM b0 l (idsV b0 e.val a)
def idsT (b0 : Nat) : List (Value × VV) → Nat → Nat
  | [], a => a
  | (_, v) :: l, a => idsT b0 l (idsV b0 v a)
def idsO (b0 : Nat) : VO → Nat → Nat
  | .cells l _, a => idsL b0 l a
  | .map es _, a => idsM b0 es a
  | .tab es, a => idsT b0 es a
def idsE (b0 : Nat) : VE → Nat → Nat
  | [], a => a
  | (_, v) :: l, a => idsE b0 l (idsV b0 v a)
/-- What is reached of blocks that are reached, or older. -/
def markH (b0 : Nat) : VH → Nat → Nat
  | [], a => a
  | (b, o) :: H, a => match Nat.ble b0 b with
    | false => markH b0 H (idsO b0 o a)
    | true => match a.testBit (b - b0) with
      | true => markH b0 H (idsO b0 o a)
      | false => markH b0 H a
def closeH (b0 : Nat) (H : VH) : Nat → Nat → Nat
  | 0, a => a
  | k + 1, a => match markH b0 H a with
    | a' => match Nat.beq a a' with
      | true => a
      | false => closeH b0 H k a'
def keepH (b0 a : Nat) : VH → VH
  | [] => []
  | (b, o) :: H => match Nat.ble b0 b with
    | false => (b, o) :: keepH b0 a H
    | true => match a.testBit (b - b0) with
      | true => (b, o) :: keepH b0 a H
      | false => keepH b0 a H
def countN (b0 : Nat) : VH → Nat
  | [] => 0
  | (b, _) :: H => match Nat.ble b0 b with
    | true => countN b0 H + 1
    | false => countN b0 H
/-- The heap without blocks that came later, and are not reached. -/
def gcH (most b0 a : Nat) (H : VH) : VH := match Nat.ble (countN b0 H) most with
  | true => H
  | false => keepH b0 (closeH b0 H 20 a) H
def keepK {α : Type} (b0 a : Nat) : VH → (VH → α) → α
  | [], k => k []
  | (b, o) :: H, k => match Nat.ble b0 b with
    | false => keepK b0 a H fun r => k ((b, o) :: r)
    | true => match a.testBit (b - b0) with
      | true => keepK b0 a H fun r => k ((b, o) :: r)
      | false => keepK b0 a H k
theorem keepK_eq {α : Type} {b0 a : Nat} : ∀ (H : VH) (k : VH → α), keepK b0 a H k = k (keepH b0 a H)
  | [], k => rfl
  | (b, o) :: H, k => by
    simp only [keepK, keepH]
    cases Nat.ble b0 b
    · simp only [keepK_eq H]
    · cases a.testBit (b - b0) <;> simp only [keepK_eq H]
def gcK {α : Type} (most b0 a : Nat) (H : VH) (k : VH → α) : α := match Nat.ble (countN b0 H) most with
  | true => k H
  | false => fN (closeH b0 H 20 a) fun m => keepK b0 m H k
theorem gcK_eq {α : Type} {most b0 a : Nat} {H : VH} {k : VH → α} : gcK most b0 a H k = k (gcH most b0 a H) := by
  unfold gcK gcH
  cases Nat.ble (countN b0 H) most
  · simp only [fN_eq, keepK_eq]
  · rfl
theorem keepH_den {ρ : Rn} {b0 a : Nat} : ∀ {H : VH} {own : List Heap}, denH ρ H = some own → ∃ own', denH ρ (keepH b0 a H) = some own' ∧ own'.Sublist own
  | [], own, h => by cases h; exact ⟨[], rfl, List.Sublist.refl _⟩
  | (b, o) :: H, own, h => by
    obtain ⟨i, ob, hs, h1, h2, h3, rfl⟩ := denH_cons h
    obtain ⟨own', g1, g2⟩ := keepH_den (b0 := b0) (a := a) h3
    simp only [keepH]
    split
    · exact ⟨_, denH_mk h1 h2 g1, g2.cons_cons _⟩
    · split
      · exact ⟨_, denH_mk h1 h2 g1, g2.cons_cons _⟩
      · exact ⟨own', g1, g2.cons _⟩
theorem gcH_den {ρ : Rn} {m b0 a : Nat} {H : VH} {own : List Heap} (h : denH ρ H = some own) : ∃ own', denH ρ (gcH m b0 a H) = some own' ∧ own'.Sublist own := by
  unfold gcH
  split
  · exact ⟨own, h, List.Sublist.refl _⟩
  · exact keepH_den h

abbrev CRes := Option (Exit × VE × VH × Nat)
def evSeq (r : CRes) (k : VE → VH → Nat → CRes) : CRes := match r with
  | some (.normal, E, H, nx) => k E H nx
  | _ => r
def evBlk (id : Nat) (r : CRes) : CRes := match r with
  | some (.exit id', E, H, nx) => match Nat.beq id' id with
    | true => some (.normal, E, H, nx)
    | false => some (.exit id', E, H, nx)
  | _ => r
def norm (r : Option (VE × VH × Nat)) : CRes := match r with
  | some (E, H, nx) => some (.normal, E, H, nx)
  | none => none
def stepLoop (b0 : Nat) (rec : Code → VE → VH → Nat → CRes) (body : Code) (E : VE) (H : VH) (nx : Nat) : CRes :=
  evSeq (rec body E H nx) fun E' H' nx' => tidyK [] E' fun E2 => gcK 24 b0 (idsE b0 E2 0) H' fun H2 => rec (.loop body) E2 H2 nx'
def stepCond (rec : Code → VE → VH → Nat → CRes) (E : VE) (H : VH) (nx : Nat) (a b : Code) : Option VV → CRes
  | some (.lit (.bool true)) => rec a E H nx
  | some (.lit (.bool false)) => rec b E H nx
  | _ => none
/-- Orders of a function's regions, looked at before. -/
abbrev Orders := List (Nat × List (List DM.It))
def ordersOf : Orders → Nat → List (List DM.It)
  | [], _ => []
  | (i, x) :: g, id => match Nat.beq i id with
    | true => x
    | false => ordersOf g id
def drawReg (P : Program) (call : CallE) (n : Nat) (ops : Array Oper) (E : VE) (H : VH) (nx : Nat) : List (List DM.It) → Option (VE × VH × Nat)
  | [] => evDraw P call n ops E H nx
  | its :: l => evDrawG P call n ops (its :: l) E H nx
def stepReg (P : Program) (call : CallE) (n : Nat) (g : Orders) (id : Nat) (ops : Array Oper) (E : VE) (H : VH) (nx : Nat) : Bool → CRes
  | false => norm (evOps P call n ops ops.toList E H nx)
  | true => norm (drawReg P call n ops E H nx (ordersOf g id))
def andB (a b : Bool) : Bool := match a with
  | true => b
  | false => false
theorem andB_true {a b : Bool} (h : andB a b = true) : a = true ∧ b = true := by
  cases a
  · cases h
  · exact ⟨rfl, h⟩
def regB (P : Program) (n : Nat) (ops : Array Oper) (l : List (List DM.It)) : Bool → Bool
  | true => checksA P n ops l
  | false => true
/-- All orders of a piece of code are right ones. -/
def regsB (P : Program) (n : Nat) (g : Orders) : Code → Bool
  | .region id ops d => regB P n ops (ordersOf g id) d
  | .seq a b => andB (regsB P n g a) (regsB P n g b)
  | .cond _ a b => andB (regsB P n g a) (regsB P n g b)
  | .block _ b => regsB P n g b
  | .loop b => regsB P n g b
  | _ => true
theorem regsB_nil {P : Program} {n : Nat} : ∀ c : Code, regsB P n [] c = true := by
  intro c
  induction c with
  | region id ops d => cases d <;> rfl
  | seq a b ha hb => simp only [regsB, ha, hb, andB]
  | cond x a b ha hb => simp only [regsB, ha, hb, andB]
  | block id b hb => simpa only [regsB] using hb
  | loop b hb => simpa only [regsB] using hb
  | _ => simp only [regsB]
def stepC (P : Program) (call : CallE) (n b0 : Nat) (g : Orders) (rec : Code → VE → VH → Nat → CRes) (c : Code) (E : VE) (H : VH) (nx : Nat) : CRes := match c with
  | .skip => some (.normal, E, H, nx)
  | .label _ => some (.normal, E, H, nx)
  | .region id ops d => stepReg P call n g id ops E H nx d
  | .seq a b => evSeq (rec a E H nx) (rec b)
  | .cond c a b => stepCond rec E H nx a b (evV E c)
  | .block id body => evBlk id (rec body E H nx)
  | .loop body => stepLoop b0 rec body E H nx
  | .exit id => some (.exit id, E, H, nx)
  | .ret => some (.ret, E, H, nx)
  | _ => none
def evC (P : Program) (call : CallE) (n b0 : Nat) (g : Orders) (k : Nat) : Code → VE → VH → Nat → CRes :=
  Nat.rec (motive := fun _ => Code → VE → VH → Nat → CRes) (fun _ _ _ _ => none) (fun _ rec c E H nx => stepC P call n b0 g rec c E H nx) k

section
variable {P : Program} {call : CallE} {n b0 : Nat} {g : Orders}
/-- What a piece of code comes to. -/
def CodeOk (P : Program) (n : Nat) (c : Code) (E : VE) (H : VH) (nx : Nat) (x : Exit) (E' : VE) (H' : VH) (nx' : Nat) : Prop :=
  ∀ (ρ : Rn) (env : Env) (own : List Heap) (F : Heap) (r : Option Nat) (Q : SPost) (ds : List Deferred), Fresh ρ nx → denEnv ρ E = some env → denH ρ H = some own → Cont ρ E' H' nx' (fun env own => Q x env own ds) → SWP P r F n c Q env own ds
theorem evSeq_some {r : CRes} {k : VE → VH → Nat → CRes} {x : Exit} {E : VE} {H : VH} {nx : Nat} (h : evSeq r k = some (x, E, H, nx)) :
    (∃ E1 H1 nx1, r = some (.normal, E1, H1, nx1) ∧ k E1 H1 nx1 = some (x, E, H, nx)) ∨ (r = some (x, E, H, nx) ∧ x ≠ .normal) := by
  unfold evSeq at h
  split at h
  · exact .inl ⟨_, _, _, rfl, h⟩
  · rename_i hn
    exact .inr ⟨h, fun e => by subst e; exact hn _ _ _ h⟩
theorem codeOk_seq {a b : Code} {E E1 E' : VE} {H H1 H' : VH} {nx nx1 nx' : Nat} {x : Exit} (ha : CodeOk P n a E H nx .normal E1 H1 nx1) (hb : CodeOk P n b E1 H1 nx1 x E' H' nx') : CodeOk P n (.seq a b) E H nx x E' H' nx' :=
  fun ρ env own F r Q ds hf he hH hk => swp_seq (ha ρ env own F r _ ds hf he hH fun ρ1 env1 own1 e1 f1 d1 h1 => hb ρ1 env1 own1 F r Q ds f1 d1 h1 (hk.ext e1))
theorem thn_other {K : Env → List Heap → List Deferred → Prop} {Q : SPost} {x : Exit} (hx : x ≠ .normal) {env : Env} {own : List Heap} {ds : List Deferred} (h : Q x env own ds) : Thn K Q x env own ds := by
  cases x with
  | normal => exact (hx rfl).elim
  | _ => exact h
/-- So many rounds of a loop, at most. -/
def LoopOk (P : Program) (n : Nat) (m : Nat) (c : Code) (E : VE) (H : VH) (nx : Nat) (x : Exit) (E' : VE) (H' : VH) (nx' : Nat) : Prop :=
  ∀ (ρ : Rn) (env : Env) (own : List Heap) (F : Heap) (r : Option Nat) (Q : SPost) (ds : List Deferred), Fresh ρ nx → denEnv ρ E = some env → denH ρ H = some own → Cont ρ E' H' nx' (fun env own => Q x env own ds) → SRounds P r F n c Q m env own ds
theorem srounds_weaken2 {r : Option Nat} {F : Heap} {c : Code} {Q : SPost} {m : Nat} {env env' : Env} {own own' : List Heap} {ds : List Deferred} (hs : Sub env' env) (ho : ∀ w, Sat (F :: own) w → Sat (F :: own') w) (h : SRounds P r F n c Q m env' own' ds) : SRounds P r F n c Q m env own ds := by
  cases m with
  | zero => exact h
  | succ m => exact SWP.weaken hs ho h
theorem evC_ok (hc : RecOk P call) : ∀ (k : Nat) (c : Code) (E : VE) (H : VH) (nx : Nat) (x : Exit) (E' : VE) (H' : VH) (nx' : Nat), regsB P n g c = true → evC P call n b0 g k c E H nx = some (x, E', H', nx') →
    CodeOk P n c E H nx x E' H' nx' ∧ ∀ b, c = .loop b → ∃ m, LoopOk P n m b E H nx x E' H' nx' := by
  intro k
  induction k with
  | zero => intro c E H nx x E' H' nx' hg h; cases h
  | succ k ih =>
    intro c E H nx x E' H' nx' hg h
    have h' : stepC P call n b0 g (evC P call n b0 g k) c E H nx = some (x, E', H', nx') := h
    unfold stepC at h'
    split at h'
    · cases h'
      exact ⟨fun ρ env own F r Q ds hf he hH hk => swp_skip (hk ρ env own (Ext.refl ρ) hf he hH), fun b e => by cases e⟩
    · cases h'
      exact ⟨fun ρ env own F r Q ds hf he hH hk => swp_label (hk ρ env own (Ext.refl ρ) hf he hH), fun b e => by cases e⟩
    · rename_i id ops d
      unfold stepReg at h'
      split at h'
      · unfold norm at h'
        split at h'
        · rename_i E1 H1 nx1 ho
          cases h'
          exact ⟨fun ρ env own F r Q ds hf he hH hk => sl_region rfl (evOps_ok hc ho hf he hH hk), fun b e => by cases e⟩
        · cases h'
      · unfold norm at h'
        split at h'
        · rename_i E1 H1 nx1 ho
          cases h'
          simp only [regsB, regB] at hg
          unfold drawReg at ho
          split at ho
          · exact ⟨fun ρ env own F r Q ds hf he hH hk => evDraw_ok hc ho hf he hH hk, fun b e => by cases e⟩
          · rename_i hl
            rw [hl] at hg
            exact ⟨fun ρ env own F r Q ds hf he hH hk => evDrawG_ok hc hg ho hf he hH hk, fun b e => by cases e⟩
        · cases h'
    · rename_i a b
      obtain ⟨ga, gb⟩ := andB_true (show andB (regsB P n g a) (regsB P n g b) = true from hg)
      rcases evSeq_some h' with ⟨E1, H1, nx1, h1, h2⟩ | ⟨h1, hx⟩
      · exact ⟨codeOk_seq (ih _ _ _ _ _ _ _ _ ga h1).1 (ih _ _ _ _ _ _ _ _ gb h2).1, fun b e => by cases e⟩
      · exact ⟨fun ρ env own F r Q ds hf he hH hk => swp_seq ((ih _ _ _ _ _ _ _ _ ga h1).1 ρ env own F r _ ds hf he hH fun ρ1 env1 own1 e1 f1 d1 h1 => thn_other hx (hk ρ1 env1 own1 e1 f1 d1 h1)), fun b e => by cases e⟩
    · rename_i c a b
      obtain ⟨ga, gb⟩ := andB_true (show andB (regsB P n g a) (regsB P n g b) = true from hg)
      unfold stepCond at h'
      split at h'
      · rename_i hv
        refine ⟨fun ρ env own F r Q ds hf he hH hk => ?_, fun b e => by cases e⟩
        obtain ⟨y, g1, g2⟩ := evV_den he hv
        cases g2
        exact swp_true g1 ((ih _ _ _ _ _ _ _ _ ga h').1 ρ env own F r Q ds hf he hH hk)
      · rename_i hv
        refine ⟨fun ρ env own F r Q ds hf he hH hk => ?_, fun b e => by cases e⟩
        obtain ⟨y, g1, g2⟩ := evV_den he hv
        cases g2
        exact swp_false g1 ((ih _ _ _ _ _ _ _ _ gb h').1 ρ env own F r Q ds hf he hH hk)
      · cases h'
    · rename_i id body
      have hg1 : regsB P n g body = true := hg
      unfold evBlk at h'
      split at h'
      · rename_i id' E1 H1 nx1 hr
        split at h'
        · rename_i hb
          cases h'
          have := Nat.eq_of_beq_eq_true hb; subst this
          exact ⟨fun ρ env own F r Q ds hf he hH hk => swp_block ((ih _ _ _ _ _ _ _ _ hg1 hr).1 ρ env own F r _ ds hf he hH fun ρ1 env1 own1 e1 f1 d1 h1 => inb_exit (hk ρ1 env1 own1 e1 f1 d1 h1)), fun b e => by cases e⟩
        · rename_i hb
          cases h'
          exact ⟨fun ρ env own F r Q ds hf he hH hk => swp_block ((ih _ _ _ _ _ _ _ _ hg1 hr).1 ρ env own F r _ ds hf he hH fun ρ1 env1 own1 e1 f1 d1 h1 => inb_out hb (hk ρ1 env1 own1 e1 f1 d1 h1)), fun b e => by cases e⟩
      · rename_i hn
        refine ⟨fun ρ env own F r Q ds hf he hH hk => swp_block ((ih _ _ _ _ _ _ _ _ hg1 h').1 ρ env own F r _ ds hf he hH fun ρ1 env1 own1 e1 f1 d1 h1 => ?_), fun b e => by cases e⟩
        have hq := hk ρ1 env1 own1 e1 f1 d1 h1
        cases x with
        | exit id' => exact (hn _ _ _ _ h').elim
        | _ => exact hq
    · rename_i body
      have hg1 : regsB P n g body = true := hg
      unfold stepLoop at h'
      simp only [tidyK_eq, gcK_eq] at h'
      have key : ∃ m, LoopOk P n m body E H nx x E' H' nx' := by
        rcases evSeq_some h' with ⟨E1, H1, nx1, h1, h2⟩ | ⟨h1, hx⟩
        · obtain ⟨m, hm⟩ := (ih _ _ _ _ _ _ _ _ hg h2).2 body rfl
          refine ⟨m + 1, fun ρ env own F r Q ds hf he hH hk => srounds ((ih _ _ _ _ _ _ _ _ hg1 h1).1 ρ env own F r _ ds hf he hH fun ρ1 env1 own1 e1 f1 d1 h1 => ?_)⟩
          obtain ⟨env2, g1, g2⟩ := tidy_sub d1
          obtain ⟨own2, g3, g4⟩ := gcH_den h1
          exact srounds_weaken2 g2 (fun _ s => s.sub (g4.cons_cons F)) (hm ρ1 env2 own2 F r Q ds f1 g1 g3 (hk.ext e1))
        · exact ⟨1, fun ρ env own F r Q ds hf he hH hk => srounds ((ih _ _ _ _ _ _ _ _ hg1 h1).1 ρ env own F r _ ds hf he hH fun ρ1 env1 own1 e1 f1 d1 h1 => thn_other hx (hk ρ1 env1 own1 e1 f1 d1 h1))⟩
      refine ⟨fun ρ env own F r Q ds hf he hH hk => ?_, fun b e => by cases e; exact key⟩
      obtain ⟨m, hm⟩ := key
      exact swp_rounds m (hm ρ env own F r Q ds hf he hH hk)
    · rename_i id
      cases h'
      exact ⟨fun ρ env own F r Q ds hf he hH hk => swp_exit (hk ρ env own (Ext.refl ρ) hf he hH), fun b e => by cases e⟩
    · cases h'
      exact ⟨fun ρ env own F r Q ds hf he hH hk => swp_ret (hk ρ env own (Ext.refl ρ) hf he hH), fun b e => by cases e⟩
    · cases h'

/-! ### Functions -/
def resV1 (P : Program) (E : VE) (H : VH) : ResultVar → Option VV
  | .tmp t => lookV E t
  | .cell a t => match lookV E a with
    | some (.ptr b off) => loadV P H t b off
    | _ => none
def resVs (P : Program) (E : VE) (H : VH) : List ResultVar → Option VV
  | [] => some (.tup [])
  | [x] => resV1 P E H x
  | [x, y] => match resV1 P E H x, resV1 P E H y with
    | some u, some v => some (.tup [u, v])
    | _, _ => none
  | [x, y, z] => match resV1 P E H x, resV1 P E H y, resV1 P E H z with
    | some u, some v, some w => some (.tup [u, v, w])
    | _, _, _ => none
  | _ => none
theorem resV1_ok {ρ : Rn} {E : VE} {env : Env} {H : VH} {own : List Heap} {x : ResultVar} {v : VV} (he : denEnv ρ E = some env) (hH : denH ρ H = some own) (h : resV1 P E H x = some v) : ∃ y, den ρ v = some y ∧ ResV P own env n x y := by
  cases x with
  | tmp t =>
    obtain ⟨y, g1, g2⟩ := lookV_den he h
    exact ⟨y, g2, resV_tmp g1⟩
  | cell a t =>
    simp only [resV1] at h
    split at h
    · rename_i b off ha
      obtain ⟨y, g1, g2⟩ := lookV_den he ha
      obtain ⟨i, hi, rfl⟩ := den_ptr g2
      obtain ⟨r, q1, q2⟩ := loadV_ok hH (fun _ h => h) h hi
      refine ⟨r, q1, fun A w X hA s => ?_⟩
      have h2 : A.tmps.getD a undef = .pointer (some (i.at off)) := by rw [Array.getD_eq_getD_getElem?, hA.get _ _ g1]; rfl
      simp [resSem, h2, asAddr, q2 w X s]
    · cases h
theorem resVs_ok {ρ : Rn} {E : VE} {env : Env} {H : VH} {own : List Heap} {l : List ResultVar} {v : VV} (he : denEnv ρ E = some env) (hH : denH ρ H = some own) (h : resVs P E H l = some v) : ∃ y, den ρ v = some y ∧ ResOk P l own env n y := by
  unfold resVs at h
  split at h
  · cases h; exact ⟨.tuple ⟨[]⟩, rfl, resOk_nil⟩
  · obtain ⟨y, g1, g2⟩ := resV1_ok (n := n) he hH h
    exact ⟨y, g1, resOk_one g2⟩
  · split at h
    · rename_i u v' h1 h2
      cases h
      obtain ⟨y, g1, g2⟩ := resV1_ok (n := n) he hH h1
      obtain ⟨z, g3, g4⟩ := resV1_ok (n := n) he hH h2
      exact ⟨.tuple ⟨[y, z]⟩, by simp only [den, denL, g1, g3], resOk_two g2 g4⟩
    · cases h
  · split at h
    · rename_i u v' w h1 h2 h3
      cases h
      obtain ⟨y, g1, g2⟩ := resV1_ok (n := n) he hH h1
      obtain ⟨z, g3, g4⟩ := resV1_ok (n := n) he hH h2
      obtain ⟨t, g5, g6⟩ := resV1_ok (n := n) he hH h3
      exact ⟨.tuple ⟨[y, z, t]⟩, by simp only [den, denL, g1, g3, g5], resOk_three g2 g4 g6⟩
    · cases h
  · cases h
def paramsV : List VV → Nat → VE
  | [], _ => []
  | v :: r, k => (k, v) :: paramsV r (k + 1)
theorem paramsV_den {ρ : Rn} : ∀ {l : List VV} {xs : List Value} {k : Nat}, denL ρ l = some xs → denEnv ρ (paramsV l k) = some (params xs k)
  | [], xs, k, h => by cases h; rfl
  | v :: l, xs, k, h => by
    obtain ⟨y, ys, h1, h2, rfl⟩ := denL_cons h
    exact denEnv_mk h1 (paramsV_den h2)
/-- OTabs of orders: by function. -/
abbrev OTabs := List (Nat × Orders)
def tableOf : OTabs → Nat → Orders
  | [], _ => []
  | (i, x) :: g, f => match Nat.beq i f with
    | true => x
    | false => tableOf g f
def regF (P : Program) (p : Nat × Orders) : Bool := match P.funcs[p.1]? with
  | some fn => match fn.body with
    | some c => regsB P fn.ntmps p.2 c
    | none => true
  | none => true
def TablesOk (P : Program) (tb : OTabs) : Prop := ∀ f fn c, P.funcs[f]? = some fn → fn.body = some c → regsB P fn.ntmps (tableOf tb f) c = true
theorem tablesOk_nil {P : Program} : TablesOk P [] := fun f fn c _ _ => regsB_nil c
theorem tablesOk_cons {P : Program} {p : Nat × Orders} {tb : OTabs} (h : regF P p = true) (ht : TablesOk P tb) : TablesOk P (p :: tb) := fun f fn c hf hb => by
  obtain ⟨i, x⟩ := p
  simp only [tableOf]
  split
  · rename_i he
    have := Nat.eq_of_beq_eq_true he; subst this
    simp only [regF, hf, hb] at h
    exact h
  · exact ht f fn c hf hb
def stepF (P : Program) (tb : OTabs) (fuel : Nat) (rec : CallE) : CallE := fun f args H nx => match P.funcs[f]? with
  | some fn => match fn.body with
    | some c => match Nat.ble args.length fn.ntmps with
      | true => match evC P rec fn.ntmps nx (tableOf tb f) fuel c (paramsV args 0) H nx with
        | some (.normal, E, H', nx') => match resVs P E H' fn.results.toList with
          | some v => fVV v fun v => gcK 8 nx (idsV nx v 0) H' fun H2 => some (v, H2, nx')
          | none => none
        | some (.ret, E, H', nx') => match resVs P E H' fn.results.toList with
          | some v => fVV v fun v => gcK 8 nx (idsV nx v 0) H' fun H2 => some (v, H2, nx')
          | none => none
        | _ => none
      | false => none
    | none => none
  | none => none
theorem stepF_ok {tb : OTabs} {fuel : Nat} {rec : CallE} (ht : TablesOk P tb) (hr : RecOk P rec) : RecOk P (stepF P tb fuel rec) := by
  intro f args H nx r h ρ xs own hf ha hH
  unfold stepF at h
  split at h
  · rename_i fn hfn
    split at h
    · rename_i c hb
      split at h
      · rename_i hn
        have hlen : xs.length ≤ fn.ntmps := by rw [denL_length ha]; exact Nat.le_of_ble_eq_true hn
        have fin : ∀ {x : Exit} {E : VE} {H' : VH} {nx' : Nat} {v : VV}, (x = .normal ∨ x = .ret) → evC P rec fn.ntmps nx (tableOf tb f) fuel c (paramsV args 0) H nx = some (x, E, H', nx') → resVs P E H' fn.results.toList = some v →
            T P f xs own fun e own' => ∃ y, e = .returned y ∧ Post ρ v (gcH 8 nx (idsV nx v 0) H') nx' y own' := fun {x E H' nx' v} hx he hv => by
          refine t_of_body hfn hb hlen fun F => (evC_ok hr _ _ _ _ _ _ _ _ _ (ht _ _ _ hfn hb) he).1 ρ _ own F none _ [] hf (paramsV_den ha) hH ?_
          intro ρ1 env1 own1 e1 f1 d1 h1
          obtain ⟨y, g1, g2⟩ := resVs_ok (P := P) (n := fn.ntmps) d1 h1 hv
          obtain ⟨own4, g3, g4⟩ := gcH_den (m := 8) (b0 := nx) (a := idsV nx v 0) h1
          have : ∃ v' own2 own3, Marks [] own1 own2 ∧ ResOk P fn.results.toList own2 env1 fn.ntmps v' ∧ (∀ F w, Sat (F :: own2) w → Sat (F :: own3) w) ∧ (∃ y, Ending.returned v' = .returned y ∧ Post ρ v (gcH 8 nx (idsV nx v 0) H') nx' y own3) :=
            ⟨y, own1, own4, Marks.nil, g2, fun F _ s => s.sub (g4.cons_cons F), y, rfl, ρ1, e1, f1, g1, g3⟩
          rcases hx with rfl | rfl <;> exact this
        split at h
        · rename_i E H' nx' he
          split at h
          · rename_i v hv; rw [fVV_eq, gcK_eq] at h; cases h; exact fin (.inl rfl) he hv
          · cases h
        · rename_i E H' nx' he
          split at h
          · rename_i v hv; rw [fVV_eq, gcK_eq] at h; cases h; exact fin (.inr rfl) he hv
          · cases h
        · cases h
      · cases h
    · cases h
  · cases h

/-! ### What was run before -/
structure Memo where
  f : FuncId
  args : List VV
  H : VH
  nx : Nat
  v : VV
  H' : VH
  nx' : Nat
def MemoOk (P : Program) (m : Memo) : Prop := ∀ ρ xs own, Fresh ρ m.nx → denL ρ m.args = some xs → denH ρ m.H = some own →
  T P m.f xs own fun e own' => ∃ v, e = .returned v ∧ Post ρ m.v m.H' m.nx' v own'
def sameM (m : Memo) (f : FuncId) (args : List VV) (nx : Nat) : Bool := andB (Nat.beq m.f f) (andB (Nat.beq m.nx nx) (eqVVs m.args args))
/-- The call, and what is left of the heap. -/
def findM : List Memo → FuncId → List VV → VH → Nat → Option (Memo × VH)
  | [], _, _, _, _ => none
  | m :: l, f, args, H, nx => match sameM m f args nx with
    | true => match takeH m.H H with
      | some R => some (m, R)
      | none => findM l f args H nx
    | false => findM l f args H nx
def viaM (tbl : List Memo) (rec : CallE) : CallE := fun f args H nx => match findM tbl f args H nx with
  | some (m, R) => appK m.H' R fun H' => some (m.v, H', m.nx')
  | none => rec f args H nx
def MemosOk (P : Program) (tbl : List Memo) : Prop := ∀ m ∈ tbl, MemoOk P m
theorem memosOk_nil : MemosOk P [] := fun m h => by cases h
theorem memosOk_cons {m : Memo} {l : List Memo} (h : MemoOk P m) (hl : MemosOk P l) : MemosOk P (m :: l) := fun x hx => by
  rcases List.mem_cons.1 hx with rfl | hx
  · exact h
  · exact hl x hx
theorem findM_ok {f : FuncId} {args : List VV} {H R : VH} {nx : Nat} : ∀ {tbl : List Memo} {m : Memo}, findM tbl f args H nx = some (m, R) → m ∈ tbl ∧ m.f = f ∧ m.args = args ∧ takeH m.H H = some R ∧ m.nx = nx
  | [], m, h => by cases h
  | x :: l, m, h => by
    have rest : findM l f args H nx = some (m, R) → m ∈ x :: l ∧ m.f = f ∧ m.args = args ∧ takeH m.H H = some R ∧ m.nx = nx := fun h => by
      obtain ⟨h1, h2⟩ := findM_ok h
      exact ⟨List.mem_cons_of_mem _ h1, h2⟩
    simp only [findM] at h
    split at h
    · rename_i hs
      split at h
      · rename_i R' ht
        cases h
        obtain ⟨h1, h2⟩ := andB_true hs
        obtain ⟨h3, h4⟩ := andB_true h2
        exact ⟨List.mem_cons_self .., Nat.eq_of_beq_eq_true h1, eqVVs_ok h4, ht, Nat.eq_of_beq_eq_true h3⟩
      · exact rest h
    · exact rest h
theorem t_frame {f : FuncId} {xs : List Value} {own a r : List Heap} {Q Q' : Ending → List Heap → Prop} (p : own.Perm (a ++ r)) (h : T P f xs a Q) (hq : ∀ e own', Q e own' → Q' e (own' ++ r)) : T P f xs own Q' := fun w X s => by
  have s' : Sat (a ++ (r ++ X)) w := by
    rw [← List.append_assoc]
    exact s.perm (p.append_right X)
  exact (h w (r ++ X) s').mono fun e w' ⟨own', s2, q⟩ => ⟨own' ++ r, by rw [List.append_assoc]; exact s2, hq e own' q⟩
theorem viaM_ok {tbl : List Memo} {rec : CallE} (ht : MemosOk P tbl) (hr : RecOk P rec) : RecOk P (viaM tbl rec) := by
  intro f args H nx r h
  unfold viaM at h
  split at h
  · rename_i m R hm
    rw [appK_eq] at h
    cases h
    obtain ⟨h1, h2, h3, h4, h5⟩ := findM_ok hm
    subst h2; subst h3; subst h5
    intro ρ xs own hf ha hH
    obtain ⟨a, r, g1, g2, g3⟩ := takeH_den h4 hH
    refine t_frame g3 (ht m h1 ρ xs a hf ha g1) ?_
    rintro e own' ⟨v, rfl, ρ1, e1, f1, d1, k1⟩
    exact ⟨v, rfl, ρ1, e1, f1, d1, denH_append k1 (denH_ext e1 g2)⟩
  · exact hr f args H nx r h
def evF (P : Program) (tb : OTabs) (tbl : List Memo) (fuel depth : Nat) : CallE := Nat.rec (motive := fun _ => CallE) (fun _ _ _ _ => none) (fun _ rec => viaM tbl (stepF P tb fuel rec)) depth
theorem evF_ok {tb : OTabs} {tbl : List Memo} (hb : TablesOk P tb) (ht : MemosOk P tbl) (fuel : Nat) : ∀ depth, RecOk P (evF P tb tbl fuel depth) := by
  intro depth
  induction depth with
  | zero => intro f args H nx r h; cases h
  | succ d ih => exact viaM_ok ht (stepF_ok hb ih)
def leftB : Option VH → Bool
  | some _ => true
  | none => false
def memoB (P : Program) (tb : OTabs) (tbl : List Memo) (fuel depth : Nat) (m : Memo) : Bool := match stepF P tb fuel (evF P tb tbl fuel depth) m.f m.args m.H m.nx with
  | some (v, H', nx') => andB (Nat.beq nx' m.nx') (andB (eqVV v m.v) (leftB (takeH m.H' H')))
  | none => false
/-- A call that was run is known. -/
theorem memo_ok {tb : OTabs} {tbl : List Memo} {fuel depth : Nat} {m : Memo} (hb : TablesOk P tb) (ht : MemosOk P tbl) (h : memoB P tb tbl fuel depth m = true) : MemoOk P m := by
  unfold memoB at h
  split at h
  · rename_i v H' nx' he
    obtain ⟨h1, h2⟩ := andB_true h
    obtain ⟨h3, h4⟩ := andB_true h2
    have e1 := Nat.eq_of_beq_eq_true h1
    have e2 := eqVV_ok h3
    subst e1; subst e2
    intro ρ xs own hf ha hH w X s
    refine (stepF_ok hb (evF_ok hb ht fuel depth) _ _ _ _ _ he ρ xs own hf ha hH w X s).mono ?_
    rintro e w' ⟨own', s', y, rfl, ρ1, e1, f1, d1, k1⟩
    obtain ⟨R, hR⟩ : ∃ R, takeH m.H' H' = some R := by
      cases hx : takeH m.H' H' with
      | none => rw [hx] at h4; cases h4
      | some R => exact ⟨R, rfl⟩
    obtain ⟨a, r, g1, g2, g3⟩ := takeH_den hR k1
    refine ⟨a, ?_, y, rfl, ρ1, e1, f1, d1, g1⟩
    have s2 := s'.perm (g3.append_right X)
    exact s2.sub ((List.sublist_append_left a r).append_right X)
  · cases h
/-- A closed call, run by the kernel. -/
theorem closed_call {tb : OTabs} {tbl : List Memo} {fuel depth : Nat} {f : FuncId} {args : List Value} {v : Value} {H' : VH} {nx' : Nat} (hb : TablesOk P tb) (ht : MemosOk P tbl) (h : evF P tb tbl fuel depth f (lits args) [] 0 = some (.lit v, H', nx')) : PFn P f args [] v := by
  have := evF_ok (P := P) hb ht fuel depth f _ _ _ _ h (fun _ => none) args [] (fun _ _ => rfl) (denL_lits args) rfl
  intro w X s
  refine (this w X s).mono ?_
  rintro e w' ⟨own', s', y, rfl, ρ', -, -, hd, -⟩
  cases hd
  exact ⟨[], s'.sub (List.sublist_append_right _ _), rfl, rfl⟩
def closedB (P : Program) (tb : OTabs) (tbl : List Memo) (fuel depth : Nat) (f : FuncId) (args : List Value) : Bool := match evF P tb tbl fuel depth f (lits args) [] 0 with
  | some (.lit (.bool true), _, _) => true
  | _ => false
theorem closed_true {tb : OTabs} {tbl : List Memo} {fuel depth : Nat} {f : FuncId} {args : List Value} (hb : TablesOk P tb) (ht : MemosOk P tbl) (h : closedB P tb tbl fuel depth f args = true) : PFn P f args [] (.bool true) := by
  unfold closedB at h
  split at h
  · rename_i H' nx' he; exact closed_call hb ht he
  · cases h
end
end
end Go.SL
