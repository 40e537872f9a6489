/- Closed calls, run by the kernel: one operation, whatever it is; the operations of a region in its own order. -/
import Derived.Test.YtnfepffmlhmmhaaSlV10
set_option linter.unusedVariables false
set_option linter.unusedSimpArgs false
namespace Go.SL
noncomputable section

/-- What runs a call: its arguments, the heap, the next number; what comes out, and the same behind it. -/
inductive Who
  | f (f : FuncId)
  | y (b : Nat)
abbrev CallE := Who → List VV → VH → Nat → Option (VV × VH × Nat)
structure RecOk (P : Program) (call : CallE) : Prop where
  f : ∀ f args H nx r, call (.f f) args H nx = some r → ∀ ρ xs own, Fresh ρ nx → denL ρ args = some xs → denH ρ H = some own →
    T P f xs own fun e own' => ∃ v, e = .returned v ∧ Post ρ r.1 r.2.1 r.2.2 v own'
  y : ∀ b args H nx r, call (.y b) args H nx = some r → ∀ ρ xs own i, Fresh ρ nx → denL ρ args = some xs → denH ρ H = some own → ρ b = some i →
    ∀ n env o c x, o.op = .call c → c.callee = .value x → ev env x = some (.func (.yield i.blk) #[] #[]) → evs env c.args.toList = some xs → HOp P own n o env (Post ρ r.1 r.2.1 r.2.2)
def entersB (P : Program) (f : FuncId) : Bool := match P.funcs[f]? with
  | some fn => !(fn.name == "runtime.NumGoroutine") && !fn.body.isNone
  | none => false
theorem entersB_ok {P : Program} {f : FuncId} (h : entersB P f = true) : Enters P f := ⟨fun args w => by
  unfold entersB at h
  split at h
  · rename_i fn hf
    simp only [Bool.and_eq_true, Bool.not_eq_true'] at h
    unfold callFunc
    simp only [Go.program, Sem.run_bind]
    simp [Sem.run, Result.andThen, hf, h.1, h.2]
  · cases h⟩
def funOf : VV → Option (FuncId × List VV × List VV)
  | .lit (.func (.func f) ⟨a⟩ ⟨c⟩) => some (f, lits a, lits c)
  | .fn (.func f) a c => some (f, a, c)
  | _ => none
theorem funOf_ok {ρ : Rn} {v : VV} {f : FuncId} {a c : List VV} {y : Value} (hy : den ρ v = some y) (h : funOf v = some (f, a, c)) : ∃ xs ys, denL ρ a = some xs ∧ denL ρ c = some ys ∧ y = .func (.func f) ⟨xs⟩ ⟨ys⟩ := by
  unfold funOf at h
  split at h
  · cases h; cases hy; exact ⟨_, _, denL_lits _, denL_lits _, rfl⟩
  · cases h; exact den_fn hy
  · cases h
def with0 (nx : Nat) : Option VH → Option (VV × VH × Nat)
  | some H => some (.lit undef, H, nx)
  | none => none
def evCall (P : Program) (call : CallE) (H : VH) (nx : Nat) (E : VE) (c : Call) (x : Operand) : Option (VV × VH × Nat) := match evV E x with
  | some (.yl b) => match evsV E c.args.toList with
    | some vs => call (.y b) vs H nx
    | none => none
  | some u => match funOf u, evsV E c.args.toList with
    | some (f, a, k), some vs => match entersB P f with
      | true => call (.f f) (a ++ vs ++ k) H nx
      | false => none
    | _, _ => none
  | none => none
def new3 (nx : Nat) (H : VH) : Option (NK × VO) → Option (VV × VH × Nat)
  | some (k, vo) => some (k.vv nx, (nx, vo) :: H, nx + 1)
  | none => none
def quiet3 (nx : Nat) (H : VH) : Option VV → Option (VV × VH × Nat)
  | some v => some (v, H, nx)
  | none => none
def opAppend (P : Program) (H : VH) (nx : Nat) (E : VE) (c : Call) : Option (VV × VH × Nat) := match c.args.toList, c.argTypes.toList with
  | [x, y], [t, t'] => match Nat.beq t t' with
    | true => appendV P E H nx t x y
    | false => none
  | _, _ => none
def opCopy (P : Program) (H : VH) (nx : Nat) (E : VE) (c : Call) : Option (VV × VH × Nat) := match c.args.toList, c.argTypes.toList with
  | [x, y], [t, _] => match copyV P E H t x y with
    | some (v, H') => some (v, H', nx)
    | none => none
  | _, _ => none
def opClear (P : Program) (H : VH) (nx : Nat) (E : VE) (c : Call) : Option (VV × VH × Nat) := match c.args.toList, c.argTypes.toList with
  | [x], [t] => match clearV P E H t x with
    | some H' => some (.lit (.tuple #[]), H', nx)
    | none => none
  | _, _ => none
def opCall (P : Program) (call : CallE) (H : VH) (nx : Nat) (E : VE) (o : Oper) (c : Call) : Option (VV × VH × Nat) := match c.callee with
  | .value x => evCall P call H nx E c x
  | .builtin .append => opAppend P H nx E c
  | .builtin .copy => opCopy P H nx E c
  | .builtin .clear => opClear P H nx E c
  | _ => quiet3 nx H (evQ P H E o)
def evOp (P : Program) (call : CallE) (H : VH) (nx : Nat) (E : VE) (o : Oper) : Option (VV × VH × Nat) := match o.op with
  | .alloc _ | .box _ _ | .buildSlice _ _ _ | .makeSlice _ _ _ | .makeMap _ _ => new3 nx H (newV P E o)
  | .store t x y => with0 nx (storeV P E H t x y)
  | .insert t m k x | .mapUpdate t m k x => with0 nx (insertV P E H t m k x)
  | .call c => opCall P call H nx E o c
  | _ => quiet3 nx H (evQ P H E o)

section
variable {P : Program} {call : CallE} {ρ : Rn} {E : VE} {env : Env} {H : VH} {own hs : List Heap} {n nx : Nat} {o : Oper} {r : VV × VH × Nat}
theorem hop_evQ {v : VV} (hf : Fresh ρ nx) (he : denEnv ρ E = some env) (hH : denH ρ H = some own) (h : evQ P H E o = some v) : HOp P own n o env (Post ρ v H nx) :=
  hop_quiet hf hH (evQ_ok he hH (fun _ h => h) h)
theorem evCall_ok (hc : RecOk P call) {c : Call} {x : Operand} (hf : Fresh ρ nx) (he : denEnv ρ E = some env) (hH : denH ρ H = some own) (ho : o.op = .call c) (hcal : c.callee = .value x) (h : evCall P call H nx E c x = some r) :
    HOp P own n o env (Post ρ r.1 r.2.1 r.2.2) := by
  unfold evCall at h
  split at h
  · rename_i b hu
    split at h
    · rename_i vs hvs
      obtain ⟨y, g1, g2⟩ := evV_den he hu
      obtain ⟨i, hi, rfl⟩ := den_yl g2
      obtain ⟨zs, g5, g6⟩ := evsV_den he hvs
      exact hc.y b _ H nx r h ρ _ own i hf g6 hH hi n env o c x ho hcal g1 g5
    · cases h
  · rename_i u hu
    split at h
    · rename_i f a k vs hfu hvs
      split at h
      · rename_i hen
        haveI := entersB_ok hen
        obtain ⟨y, g1, g2⟩ := evV_den he hu
        obtain ⟨xs, ys, g3, g4, rfl⟩ := funOf_ok g2 hfu
        obtain ⟨zs, g5, g6⟩ := evsV_den he hvs
        have hl := denL_append (denL_append g3 g6) g4
        exact hop_call (vall := xs ++ zs ++ ys) ho hcal g1 g5 (by simp [appO, app2_some]) (hc.f f _ H nx r h ρ _ own hf hl hH)
      · cases h
    · cases h
  · cases h
theorem with0_some {nx : Nat} {q : Option VH} (h : with0 nx q = some r) : ∃ H', q = some H' ∧ r = (.lit undef, H', nx) := by
  cases q with
  | none => cases h
  | some H' => cases h; exact ⟨H', rfl, rfl⟩
theorem evOp_ok (hc : RecOk P call) (hf : Fresh ρ nx) (he : denEnv ρ E = some env) (hH : denH ρ H = some own) (h : evOp P call H nx E o = some r) : HOp P own n o env (Post ρ r.1 r.2.1 r.2.2) := by
  have new : ∀ {q : Option (NK × VO)}, newV P E o = q → new3 nx H q = some r → HOp P own n o env (Post ρ r.1 r.2.1 r.2.2) := fun {q} hq hr => by
    cases q with
    | none => cases hr
    | some kv => obtain ⟨k, vo⟩ := kv; cases hr; exact hop_new hf hH (newV_ok he hq)
  have qt : quiet3 nx H (evQ P H E o) = some r → HOp P own n o env (Post ρ r.1 r.2.1 r.2.2) := fun hr => by
    cases hq : evQ P H E o with
    | none => rw [hq] at hr; cases hr
    | some v => rw [hq] at hr; cases hr; exact hop_evQ hf he hH hq
  unfold evOp at h
  split at h
  · exact new rfl h
  · exact new rfl h
  · exact new rfl h
  · exact new rfl h
  · exact new rfl h
  · rename_i t x y ho
    obtain ⟨H', hs, rfl⟩ := with0_some h
    exact storeV_ok hf he hH ho hs
  · rename_i t m k x ho
    obtain ⟨H', hs, rfl⟩ := with0_some h
    exact insertV_ok hf he hH (.inl ho) hs
  · rename_i t m k x ho
    obtain ⟨H', hs, rfl⟩ := with0_some h
    exact insertV_ok hf he hH (.inr ho) hs
  · rename_i c ho
    unfold opCall at h
    split at h
    · rename_i x hcal
      exact evCall_ok hc hf he hH ho hcal h
    · rename_i hcal
      unfold opAppend at h
      split at h
      · rename_i x y t t' hx ht
        split at h
        · rename_i hb
          have := Nat.eq_of_beq_eq_true hb; subst this
          exact appendV_ok hf he hH ho hcal (Array.ext' (by simpa using hx)) (Array.ext' (by simpa using ht)) h
        · cases h
      · cases h
    · rename_i hcal
      unfold opCopy at h
      split at h
      · rename_i x y t t' hx ht
        split at h
        · rename_i v H' hcp
          cases h
          exact copyV_ok hf he hH ho hcal (Array.ext' (by simpa using hx)) (Array.ext' (by simpa using ht)) hcp
        · cases h
      · cases h
    · rename_i hcal
      unfold opClear at h
      split at h
      · rename_i x t hx ht
        split at h
        · rename_i H' hcl
          cases h
          exact clearV_ok hf he hH ho hcal (Array.ext' (by simpa using hx)) (Array.ext' (by simpa using ht)) hcl
        · cases h
      · cases h
    · exact qt h
  · exact qt h

/-! ### Guards -/
def wantedV (all : Array Oper) (E : VE) (o : Oper) : Option Bool := match o.guard with
  | none => some true
  | some (j, want) => match nthF all.toList j with
    | some p => match p.dst with
      | some d => match lookV E d with
        | some (.lit (.bool b)) => some (b == want)
        | some (.lit _) => some false
        | _ => none
      | none => none
    | none => none
theorem wantedV_ok {all : Array Oper} {t : Bool} (he : denEnv ρ E = some env) (h : wantedV all E o = some t) : wantedE all env o = some t := by
  unfold wantedV at h
  unfold wantedE
  cases hg : o.guard with
  | none => rw [hg] at h; exact h
  | some p =>
    obtain ⟨j, want⟩ := p
    rw [hg] at h
    simp only at h ⊢
    split at h
    · rename_i q hq
      rw [nthF_eq, nth_eq, Array.getElem?_toList] at hq
      split at h
      · rename_i d hd
        have e1 : (all[j]?).bind (·.dst) = some d := by rw [hq]; exact hd
        rw [e1]
        simp only
        split at h
        · rename_i b hb
          obtain ⟨x, g1, g2⟩ := lookV_den he hb
          cases g2; rw [g1]; exact h
        · rename_i v hnb hv
          obtain ⟨x, g1, g2⟩ := lookV_den he hv
          cases g2; rw [g1]
          cases h
          cases v <;> first | rfl | exact (hnb _ rfl).elim
        · cases h
      · cases h
    · cases h

/-! ### The operations, one behind the other -/
def setE (E : VE) (d : Option Nat) (v : VV) : VE := match d with
  | some d => (d, v) :: E
  | none => E
def dstOk (n : Nat) : Option Nat → Bool
  | some d => Nat.blt d n
  | none => true
abbrev KOps := VE → VH → Nat → Option (VE × VH × Nat)
def contO (d : Option Nat) (E : VE) (k : KOps) : Option (VV × VH × Nat) → Option (VE × VH × Nat)
  | some (v, H', nx') => fVV v fun v => fN nx' fun nx' => k (setE E d v) H' nx'
  | none => none
def passO (o : Oper) (E : VE) (H : VH) (nx : Nat) (k : KOps) : Option (VE × VH × Nat) := match plainOp o.op with
  | true => k (setE E o.dst (.lit undef)) H nx
  | false => none
def wantO (P : Program) (call : CallE) (o : Oper) (E : VE) (H : VH) (nx : Nat) (k : KOps) : Option Bool → Option (VE × VH × Nat)
  | some true => contO o.dst E k (evOp P call H nx E o)
  | some false => passO o E H nx k
  | none => none
def stepO (P : Program) (call : CallE) (n : Nat) (all : Array Oper) (o : Oper) (k : KOps) (E : VE) (H : VH) (nx : Nat) : Option (VE × VH × Nat) := match dstOk n o.dst with
  | true => wantO P call o E H nx k (wantedV all E o)
  | false => none
def evOpsS (P : Program) (call : CallE) (n : Nat) (all : Array Oper) : List Oper → KOps
  | [], E, H, nx => some (E, H, nx)
  | o :: l, E, H, nx => stepO P call n all o (evOpsS P call n all l) E H nx
def evOps (P : Program) (call : CallE) (n : Nat) (all : Array Oper) (l : List Oper) : KOps :=
  List.rec (motive := fun _ => KOps) (fun E H nx => some (E, H, nx)) (fun o _ ih => stepO P call n all o ih) l
theorem evOps_cons {P : Program} {call : CallE} {n : Nat} {all : Array Oper} {o : Oper} {l : List Oper} {E : VE} {H : VH} {nx : Nat} : evOps P call n all (o :: l) E H nx = match dstOk n o.dst with
    | true => match wantedV all E o with
      | some true => match evOp P call H nx E o with
        | some (v, H', nx') => fVV v fun v => fN nx' fun nx' => evOps P call n all l (setE E o.dst v) H' nx'
        | none => none
      | some false => match plainOp o.op with
        | true => evOps P call n all l (setE E o.dst (.lit undef)) H nx
        | false => none
      | none => none
    | false => none := by
  show stepO P call n all o (evOps P call n all l) E H nx = _
  unfold stepO
  cases dstOk n o.dst with
  | false => rfl
  | true =>
    simp only []
    cases wantedV all E o with
    | none => rfl
    | some b =>
      cases b with
      | true =>
        simp only [wantO]
        cases evOp P call H nx E o <;> rfl
      | false =>
        rfl
theorem sl_hopA {all : Array Oper} {l : List Oper} {r : Option Nat} {F : Heap} {Q : SPost} {ds : List Deferred} {R : Value → List Heap → Prop} (hd : dstOk n o.dst = true) (hg : wantedE all env o = some true) (h : HOp P own n o env R)
    (hr : ∀ v own', R v own' → SOL false P r F n all l Q (match o.dst with | some d => (d, v) :: env | none => env) own' ds) : SOL false P r F n all (o :: l) Q env own ds := fun k hk => by
  obtain ⟨i, k', rfl, hi, hk'⟩ := unl hk
  intro a w ha hds hs'
  rw [wpOpsIn_cons]
  refine hop_wp (X := [F]) h hi (wanted_of ha hg) ha rfl (hs'.perm (List.perm_append_comm (l₁ := [F]) (l₂ := own))) fun v own' w' hR s => ?_
  have h2 := hr v own' hR
  cases hdd : o.dst with
  | none =>
    rw [hdd] at h2
    exact h2 k' hk' _ w' ha hds (s.perm (List.perm_append_comm (l₁ := own') (l₂ := [F])))
  | some d =>
    rw [hdd] at h2 hd
    exact h2 k' hk' _ w' (ha.put v (Nat.le_of_ble_eq_true hd)) hds (s.perm (List.perm_append_comm (l₁ := own') (l₂ := [F])))
theorem setE_den {d : Option Nat} {v : VV} {x : Value} (he : denEnv ρ E = some env) (hv : den ρ v = some x) : denEnv ρ (setE E d v) = some (match d with | some d => (d, x) :: env | none => env) := by
  cases d with
  | none => exact he
  | some d => exact denEnv_mk hv he
/-- What stands behind a piece of code. -/
def Cont (ρ : Rn) (E : VE) (H : VH) (nx : Nat) (K : Env → List Heap → Prop) : Prop := ∀ ρ' env own, Ext ρ ρ' → Fresh ρ' nx → denEnv ρ' E = some env → denH ρ' H = some own → K env own
theorem Cont.ext {ρ ρ' : Rn} {E : VE} {H : VH} {nx : Nat} {K : Env → List Heap → Prop} (h : Cont ρ E H nx K) (e : Ext ρ ρ') : Cont ρ' E H nx K := fun ρ2 env own e2 => h ρ2 env own (e.trans e2)
theorem evOps_ok (hc : RecOk P call) {all : Array Oper} {rd : Option Nat} {F : Heap} {Q : SPost} {ds : List Deferred} : ∀ {l : List Oper} {E : VE} {H : VH} {nx : Nat} {env : Env} {own : List Heap} {ρ : Rn} {E' : VE} {H' : VH} {nx' : Nat}, evOps P call n all l E H nx = some (E', H', nx') →
    Fresh ρ nx → denEnv ρ E = some env → denH ρ H = some own → Cont ρ E' H' nx' (fun env own => Q .normal env own ds) → SOL false P rd F n all l Q env own ds
  | [], E, H, nx, env, own, ρ, E', H', nx', h, hf, he, hH, hk => by cases h; exact sl_nil (hk ρ env own (Ext.refl ρ) hf he hH)
  | o :: l, E, H, nx, env, own, ρ, E', H', nx', h, hf, he, hH, hk => by
    rw [evOps_cons] at h
    split at h
    · rename_i hd
      split at h
      · rename_i hw
        split at h
        · rename_i v H1 nx1 hop
          rw [fVV_eq, fN_eq] at h
          refine sl_hopA hd (wantedV_ok he hw) (evOp_ok hc hf he hH hop) ?_
          rintro x own1 ⟨ρ1, e1, f1, d1, h1⟩
          exact evOps_ok hc h f1 (setE_den (denEnv_ext e1 he) d1) h1 (hk.ext e1)
        · cases h
      · rename_i hw
        split at h
        · rename_i hp
          cases hdd : o.dst with
          | none =>
            rw [hdd] at h
            exact sl_pass0 hdd (wantedV_ok he hw) hp (evOps_ok hc h hf he hH hk)
          | some d =>
            rw [hdd] at h hd
            exact sl_pass hdd hd (wantedV_ok he hw) hp (evOps_ok hc h hf (setE_den (d := some d) he (v := .lit undef) rfl) hH hk)
        · cases h
      · cases h
    · cases h
end
end
end Go.SL
