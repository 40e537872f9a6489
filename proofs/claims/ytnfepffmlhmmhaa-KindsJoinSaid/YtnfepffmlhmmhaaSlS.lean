/- The walk of a region that draws its order, piece by piece. -/
import Derived.Test.YtnfepffmlhmmhaaSlR
set_option linter.unusedVariables false
namespace Go.SL

inductive Sg
  | q (l : List Nat)
  | f (l : List Nat)
  | r (l : List Nat)
  | an (i : Nat)
  | rv (i : Nat)
  | h (c : Bool) (m : Nat)
def Sg.its : Sg → List It
  | .q l => l.map It.q
  | .f l => l.map It.f
  | .r l => l.map It.r
  | .an i => [.an i]
  | .rv i => [.rv i]
  | .h c m => [.h c m]
def allIts : List Sg → List It
  | [] => []
  | s :: r => s.its ++ allIts r

def ChU (P : Program) (r : Option Nat) (F : Heap) (n : Nat) (all : Array Oper) (prot : List Heap) (Q : SPost) (ds : List Deferred) : List Sg → Env → List Heap → An → Prop
  | [], env, own, _ => Q .normal env own ds
  | .q l :: s, env, own, an => QOps P F n all own (fun env' => ChU P r F n all prot Q ds s env' own an) l env
  | .f l :: s, env, own, an => QOps P emp n all [] (fun env' => ChU P r F n all prot Q ds s env' own an) l env
  | .r l :: s, env, own, an => QOps P F n all prot (fun env' => ChU P r F n all prot Q ds s env' own an) l env
  | .an i :: s, env, own, an => ∃ o vf ob, all[i]? = some o ∧ wantedE all env o = some true ∧ NewOp P n o env vf ob ∧ ChU P r F n all prot Q ds s env own (putA an i (vf, ob))
  | .rv i :: s, env, own, an => ∃ vf ob, an i = some (vf, ob) ∧ ∀ b, ChU P r F n all prot Q ds s (extE all i (vf b) env) (blk b ob :: own) an
  | .h c m :: s, env, own, an => ∃ o ownM ownC R, all[m]? = some o ∧ own.Perm (ownM ++ ownC) ∧ ((wantedE all env o = some true ∧ HOp P ownM n o env R) ∨ (wantedE all env o = some false ∧ plainOp o.op = true ∧ R undef ownM)) ∧
      (c = false → ∀ v own', R v own' → ∃ N, own'.Perm (ownM ++ N)) ∧ (c = true → ∃ Y, ownC.Perm (prot ++ Y)) ∧ ∀ v own', R v own' → ChU P r F n all prot Q ds s (extE all m v env) (own' ++ ownC) an

section
variable {P : Program} {r : Option Nat} {F : Heap} {n : Nat} {prot : List Heap} {Q : SPost} {env : Env} {own rest hs ownM ownC : List Heap} {ds : List Deferred} {all : Array Oper} {s : List Sg} {o : Oper} {id : Nat} {an : An}

theorem chain_q {K : Env → List Heap → Prop} {F1 : Heap} {own1 : List Heap} {it : Nat → It} {own : List Heap} {an : An} (hit : ∀ i rr env o v, all[i]? = some o → condAt P F1 n all own1 env o v → Chain P F n all prot K rr (extE all i v env) own an → Chain P F n all prot K (it i :: rr) env own an)
    {rr : List It} : ∀ {l : List Nat} {env : Env}, QOps P F1 n all own1 (fun env' => Chain P F n all prot K rr env' own an) l env → Chain P F n all prot K (l.map it ++ rr) env own an := by
  intro l
  induction l with
  | nil => intro env h; exact h
  | cons i l ih =>
    intro env h
    simp only [QOps] at h
    obtain ⟨o, v, h1, h2, h3, h4⟩ := h
    refine hit i _ env o v h1 ⟨h2, h3⟩ (ih ?_)
    have : extE all i v env = (match o.dst with | some d => (d, v) :: env | none => env) := by simp only [extE, h1, Option.bind_some]; cases o.dst <;> rfl
    rw [this]; exact h4
theorem chain_of : ∀ {s : List Sg} {env : Env} {own : List Heap} {an : An}, ChU P r F n all prot Q ds s env own an → Chain P F n all prot (fun env own => Q .normal env own ds) (allIts s) env own an := by
  intro s
  induction s with
  | nil => intro env own an h; exact h
  | cons x s ih =>
    intro env own an h
    cases x with
    | q l => exact chain_q (it := It.q) (own1 := own) (F1 := F) (fun i rr env o v h1 h2 h3 => ⟨o, v, h1, h2, h3⟩) (qops_mono (fun env h => ih h) h)
    | f l => exact chain_q (it := It.f) (fun i rr env o v h1 h2 h3 => ⟨o, v, h1, h2, h3⟩) (qops_mono (fun env h => ih h) h)
    | r l => exact chain_q (it := It.r) (fun i rr env o v h1 h2 h3 => ⟨o, v, h1, h2, h3⟩) (qops_mono (fun env h => ih h) h)
    | an i =>
      obtain ⟨o, vf, ob, h1, h2, h3, h4⟩ := h
      exact ⟨o, vf, ob, h1, h2, h3, ih h4⟩
    | rv i =>
      obtain ⟨vf, ob, h1, h2⟩ := h
      exact ⟨vf, ob, h1, fun b => ih (h2 b)⟩
    | h c m =>
      obtain ⟨o, ownM, ownC, R, h1, h2, h3, h5, h7, h6⟩ := h
      exact ⟨o, ownM, ownC, R, h1, h2, h3, h5, h7, fun v own' hR => ih (h6 v own' hR)⟩

theorem sl_drawC (s : List Sg) (prot : List Heap) [tp : TakeL own prot rest] {ops : Array Oper} (hok : dok ops = true) (hac : acyOk ops = true) (hits : itsOk ops (allIts s) = true) (hdst : dstB ops n = true)
    (h : ChU P r F n ops prot Q ds s env own (fun _ => none)) : SWP P r F n (.region id ops true) Q env own ds :=
  swp_drawC prot ⟨rest, tp.perm⟩ hok hac hits (dstB_spec hdst) (chain_of h)
theorem chu_nil (h : Q .normal env own ds) : ChU P r F n all prot Q ds [] env own an := h
theorem chu_q {l : List Nat} {A : List Oper} (hA : pickO all l = some A) (h : SOL true P r F n all A (Thn (fun env1 _ _ => ChU P r F n all prot Q ds s env1 own an) (fun _ _ _ _ => False)) env own ds) : ChU P r F n all prot Q ds (.q l :: s) env own an :=
  h l (pickO_eq hA)
theorem chu_f {l : List Nat} {A : List Oper} (hA : pickO all l = some A) (h : SOL true P r emp n all A (Thn (fun env1 _ _ => ChU P r F n all prot Q ds s env1 own an) (fun _ _ _ _ => False)) env [] ds) : ChU P r F n all prot Q ds (.f l :: s) env own an :=
  h l (pickO_eq hA)
theorem chu_r {l : List Nat} {A : List Oper} (hA : pickO all l = some A) (h : SOL true P r F n all A (Thn (fun env1 _ _ => ChU P r F n all prot Q ds s env1 own an) (fun _ _ _ _ => False)) env prot ds) : ChU P r F n all prot Q ds (.r l :: s) env own an :=
  h l (pickO_eq hA)
theorem chu_rv {i d : Nat} {vf : Nat → Value} {ob : Obj} (hi : all[i]? = some o) (hd : o.dst = some d) (ha : an i = some (vf, ob)) (h : ∀ b, ChU P r F n all prot Q ds s ((d, vf b) :: env) (blk b ob :: own) an) : ChU P r F n all prot Q ds (.rv i :: s) env own an := by
  refine ⟨vf, ob, ha, fun b => ?_⟩
  have : extE all i (vf b) env = (d, vf b) :: env := by simp only [extE, hi, Option.bind_some, hd]
  rw [this]; exact h b
theorem chu_new {i : Nat} {vf : Nat → Value} {ob : Obj} (hi : all[i]? = some o) (hg : wantedE all env o = some true) (hn : NewOp P n o env vf ob) (h : ChU P r F n all prot Q ds s env own (putA an i (vf, ob))) : ChU P r F n all prot Q ds (.an i :: s) env own an :=
  ⟨o, vf, ob, hi, hg, hn, h⟩
theorem chu_h {c : Bool} {m d : Nat} {R : Value → List Heap → Prop} (hi : all[m]? = some o) (hd : o.dst = some d) (hg : wantedE all env o = some true) [t : TakeL own hs rest] (hop : HOp P hs n o env R)
    (hgr : c = false → ∀ v own', R v own' → ∃ N, own'.Perm (hs ++ N)) (hpc : c = true → ∃ Y, rest.Perm (prot ++ Y)) (h : ∀ v own', R v own' → ∃ own2, appH own' rest = some own2 ∧ ChU P r F n all prot Q ds s ((d, v) :: env) own2 an) : ChU P r F n all prot Q ds (.h c m :: s) env own an := by
  refine ⟨o, hs, rest, R, hi, t.perm, .inl ⟨hg, hop⟩, hgr, hpc, fun v own' hR => ?_⟩
  obtain ⟨own2, e2, h2⟩ := h v own' hR
  have : extE all m v env = (d, v) :: env := by simp only [extE, hi, Option.bind_some, hd]
  rw [this, ← appH_eq e2]; exact h2
theorem chu_h0 {c : Bool} {m : Nat} {R : Value → List Heap → Prop} (hi : all[m]? = some o) (hd : o.dst = none) (hg : wantedE all env o = some true) [t : TakeL own hs rest] (hop : HOp P hs n o env R)
    (hgr : c = false → ∀ v own', R v own' → ∃ N, own'.Perm (hs ++ N)) (hpc : c = true → ∃ Y, rest.Perm (prot ++ Y)) (h : ∀ v own', R v own' → ∃ own2, appH own' rest = some own2 ∧ ChU P r F n all prot Q ds s env own2 an) : ChU P r F n all prot Q ds (.h c m :: s) env own an := by
  refine ⟨o, hs, rest, R, hi, t.perm, .inl ⟨hg, hop⟩, hgr, hpc, fun v own' hR => ?_⟩
  obtain ⟨own2, e2, h2⟩ := h v own' hR
  have : extE all m v env = env := by simp only [extE, hi, Option.bind_some, hd]
  rw [this, ← appH_eq e2]; exact h2
/-- A guarded operation that is not carried out, where a heavy one was looked for. -/
theorem chu_pass {c : Bool} {m d : Nat} [tp : TakeL own prot rest] (hi : all[m]? = some o) (hd : o.dst = some d) (hg : wantedE all env o = some false) (hp : plainOp o.op = true) (h : ChU P r F n all prot Q ds s ((d, undef) :: env) own an) : ChU P r F n all prot Q ds (.h c m :: s) env own an := by
  refine ⟨o, [], own, fun v own' => v = undef ∧ own' = [], hi, List.Perm.refl _, .inr ⟨hg, hp, rfl, rfl⟩, ?_, fun _ => ⟨rest, tp.perm⟩, ?_⟩
  · rintro - v own' ⟨rfl, rfl⟩; exact ⟨[], List.Perm.refl _⟩
  · rintro v own' ⟨rfl, rfl⟩
    have : extE all m undef env = (d, undef) :: env := by simp only [extE, hi, Option.bind_some, hd]
    rw [this]; exact h

/-! New blocks. -/
theorem new_alloc {t : TypeId} {de : TypeDesc} {z : Value} {ti : TypeInfo} {cs : List Value} [ty : Ty P t de z ti] (ho : o.op = .alloc t) (hz : cellsO z = some cs) :
    NewOp P n o env (fun b => .pointer (some ⟨b, 0, none⟩)) (.cells ⟨cs⟩ t (0, 0)) :=
  ⟨by rw [ho]; rfl, fun _ => by simp [fzo], fun a w _ => by simp [execOp, ho, Instr.alloc, ty.z, newVar, newRow, cellsO_eq hz]⟩
theorem new_box {t : TypeId} {x : Operand} {v : Value} {cs : List Value} (ho : o.op = .box t x) (hx : ev env x = some v) (hz : cellsO v = some cs) :
    NewOp P n o env (fun b => .pointer (some ⟨b, 0, none⟩)) (.cells ⟨cs⟩ t (0, 0)) :=
  ⟨by rw [ho]; rfl, fun _ => by simp [fzo], fun a w ha => by simp [execOp, ho, Instr.box, ha.eval hx, newVar, newRow, cellsO_eq hz]⟩
theorem new_buildSlice {t e : TypeId} {sz bytes len : Nat} {ps : Array (Nat × Operand)} {qs : List (Nat × Value)} {zv : Value} {zc zs cs : List Value} {de : TypeDesc} {ti : TypeInfo} [g : TyG P t e sz bytes] [z : Ty P e de zv ti]
    (ho : o.op = .buildSlice t len ps) (hp : evps env ps.toList = some qs)
    (hzc : cellsO zv = some zc) (hzl : zc.length = sz) (hz : zrep len zc = some zs) (hb : buildO (fun i => some (i * sz, sz)) zs qs = some cs) (hbig : Nat.ble (len * sz) 16777216 = true) :
    NewOp P n o env (fun b => .slice (some ⟨b, 0, none⟩) len len) (.cells ⟨cs⟩ e (0, 0)) := by
  refine ⟨by rw [ho]; rfl, fun _ => by simp [fzo], fun A w hA => ?_⟩
  obtain ⟨i, z', g1, g2, g3, g4, g5, g6⟩ := g.all
  have e1 : (ps.map fun (p : Nat × Operand) => (p.1, A.eval p.2)) = (⟨qs⟩ : Array (Nat × Value)) := Array.ext' (by simpa using evps_eval hA hp)
  have hbig' : ¬ 16777216 < len * sz := by have := Nat.le_of_ble_eq_true hbig; omega
  have hzr := zrep_eq zc len
  rw [hz] at hzr
  simp only [Option.some.injEq] at hzr
  have hfill := fill_eq hb
  have hsz : (sizeOf e).run P w = .ok sz w := by rw [run_size g2, g5]
  have hzero : ((Array.range (len * sz)).map fun j => (⟨zc⟩ : Array Value)[j % (⟨zc⟩ : Array Value).size]!) = ⟨zs⟩ := by
    apply Array.ext'
    apply List.ext_getElem?
    intro j
    have hs0 : (⟨zc⟩ : Array Value).size = sz := hzl
    rw [hs0]
    by_cases hj : j < len * sz
    · have hszpos : 0 < sz := Nat.pos_of_ne_zero fun e => by rw [e] at hj; simp at hj
      have hm : j % sz < zc.length := by rw [hzl]; exact Nat.mod_lt _ hszpos
      rw [hzr, zrep_at zc len j (by rw [hzl]; exact hj), hzl]
      simp [hj, hm]
    · rw [hzr, List.getElem?_eq_none (by simp; omega), List.getElem?_eq_none (by simp [hzl]; omega)]
  simp only [execOp, ho]
  rw [show (ps.map fun (x : Nat × Operand) => match x with | (i, x) => (i, A.eval x)) = (⟨qs⟩ : Array (Nat × Value)) from e1]
  by_cases h0 : len * sz = 0
  · have hzs : zs = [] := by
      have : zs.length = len * sz := by rw [hzr]; simp [hzl]
      rw [h0] at this; exact List.length_eq_zero_iff.1 this
    rw [hzs] at hfill
    have hm0 : (Array.range 0).map (fun (_ : Nat) => (default : Value)) = ⟨[]⟩ := by simp
    simp [Instr.buildSlice, run_und g1, hsz, h0, hm0, hfill, newRow]
  · have hc := cellsO_eq hzc
    have hzero' : ((Array.range (len * sz)).map fun j => zv.cells[j % zv.cells.size]!) = ⟨zs⟩ := by rw [hc]; exact hzero
    simp [Instr.buildSlice, run_und g1, hsz, h0, hbig', z.z, hzero', hfill, newRow]

/-! Heavy operations. -/
/-- A call by a contract. -/
theorem hop_T {c : Call} {x : Operand} {f : FuncId} {first captured : Array Value} {vs vall : List Value} {hs : List Heap} {R : Ending → List Heap → Prop} [Enters P f]
    (ho : o.op = .call c) (hc : c.callee = .value x) (hx : ev env x = some (.func (.func f) first captured)) (hvs : evs env c.args.toList = some vs)
    (hall : appO first.toList vs captured.toList = some vall) (h : T P f vall hs R) (hret : ∀ (e : Ending) (own' : List Heap), R e own' → ∃ v, e = .returned v) :
    HOp P hs n o env fun v own' => R (.returned v) own' :=
  hop_call ho hc hx hvs hall (h.mono fun e own' hR => by obtain ⟨v, rfl⟩ := hret e own' hR; exact ⟨v, rfl, hR⟩)
theorem hop_P {c : Call} {x : Operand} {f : FuncId} {first captured : Array Value} {vs vall : List Value} {hs : List Heap} {v : Value} [Enters P f]
    (ho : o.op = .call c) (hc : c.callee = .value x) (hx : ev env x = some (.func (.func f) first captured)) (hvs : evs env c.args.toList = some vs)
    (hall : appO first.toList vs captured.toList = some vall) (h : PFn P f vall hs v) :
    HOp P hs n o env fun v' own' => v' = v ∧ own' = hs :=
  hop_call ho hc hx hvs hall (h.mono fun e own' ⟨h1, h2⟩ => ⟨v, h1, rfl, h2⟩)
theorem hop_store {t T : TypeId} {x y : Operand} {b off : Nat} {v : Value} {cs vs cs' : List Value} {d : TypeDesc} {z : Value} {ti : TypeInfo} [ty : Ty P t d z ti]
    (ho : o.op = .store t x y) (hx : ev env x = some (.pointer (some ⟨b, off, none⟩))) (hy : ev env y = some v)
    (hv : cellsO v = some vs) (hsz : vs.length = ti.size) (h1 : vs.all (·.oneCell') = true) (hc : spliceO cs off vs = some cs') :
    HOp P [blk b (.cells ⟨cs⟩ T (0, 0))] n o env fun _ own' => own' = [blk b (.cells ⟨cs'⟩ T (0, 0))] := by
  refine ⟨by rw [ho]; rfl, fun a w X ha hs => ?_⟩
  obtain ⟨g1, g2⟩ := spliceO_eq hc
  have s1 : Sat (blk b (.cells ⟨cs⟩ T (0, 0)) :: X) w := by simpa using hs
  have hb : w.heap[b]? = some (.cells ⟨cs⟩ T (0, 0)) := s1.at (List.mem_cons_self ..) (blk_self _ _)
  have hst := run_storeCells_at P b off T vs 0 ⟨cs⟩ w hb (by simpa using g2) (by simpa using h1)
  have hrow : ((⟨cs⟩ : Array Value).toList.take (off + 0) ++ vs ++ (⟨cs⟩ : Array Value).toList.drop (off + 0 + vs.length)).toArray = ⟨cs'⟩ := by rw [g1]; rfl
  rw [hrow] at hst
  have hc' := cellsO_eq hv
  have hrun : (execOp a.eval o).run P w = .ok .skip (w.setRow b ⟨cs'⟩) := by
    simp [execOp, ho, Instr.storeAt, ha.eval hx, ha.eval hy, Instr.sureAddr, storeVar, run_size ty.i, hc', hsz, hst]
  refine ⟨w.setRow b ⟨cs'⟩, .inr (.inl ⟨_, hrun, ?_, rfl⟩)⟩
  have s2 := s1.put (setRow_heap w b _ ⟨cs'⟩ T (0, 0) hb) (by rfl) (by rfl) (fun k hk => setRow_other w b k _ hk) (fun _ => rfl)
  simpa using s2
theorem hop_append {t e : TypeId} {sz bytes : Nat} {c : Call} {x y : Operand} {h hn : Heap} {base : Option Addr} {len cap m mc : Nat} {cs news : List Value} {a : Addr} [g : TyG P t e sz bytes]
    (ho : o.op = .call c) (hc : c.callee = .builtin .append) (hax : c.args = #[x, y]) (hat : c.argTypes = #[t, t])
    (hx : ev env x = some (.slice base len cap)) (hy : ev env y = some (.slice (some a) m mc)) (mm : Sl hn (some a) news) (os : OS h base len cap e sz cs)
    (hm : 0 < m) (hnl : news.length = m * sz) (hpos : 0 < sz) (h1 : news.all (·.oneCell') = true) (hroom : (len + m) * bytes ≤ 70368744177664) (hlen : len + m ≤ 70368744177664) :
    HOp P [h, hn] n o env fun v own' => ∃ h' base' cap', v = .slice base' (len + m) cap' ∧ own' = [h', hn] ∧ OS h' base' (len + m) cap' e sz (cs ++ news) := by
  refine ⟨by rw [ho]; rfl, fun A w X hA hs => ?_⟩
  obtain ⟨i, z, g1, g2, g3, g4, g5, g6⟩ := g.all
  subst g5; subst g6
  have s2 : Sat (h :: hn :: X) w := by simpa using hs
  have hnew : ∀ j v, news[j]? = some v → w.cell? (a.add j) = some v := fun j v hj => by
    have mi : SlIn [h, hn] (some a) news := ⟨hn, by simp, mm⟩
    obtain ⟨a', e1, e2, e3⟩ := mi.cell hs hj
    cases e1
    obtain ⟨b, off, sp⟩ := a
    simp only at e2
    subst e2
    rw [addr_add]; exact e3
  obtain ⟨h', base', cap', w', hrun, os', s3⟩ := run_grow (P := P) (ty := o.type) (c := mc) g1 g2 g3 g4 os s2 hm hnl hnew (by simpa using h1) hroom hlen
  refine ⟨w', .inl ⟨.slice base' (len + m) cap', [h', hn], ?_, by simpa using s3, h', base', cap', rfl, rfl, os'⟩⟩
  simp [execOp, ho, resolve, hc, hax, hat, invoke, builtin, hA.eval hx, hA.eval hy, hrun]
theorem grow_refl {R : Value → List Heap → Prop} {hs : List Heap} (h : ∀ v own', R v own' → ∃ N, own' = hs ++ N) : false = false → ∀ v own', R v own' → ∃ N, own'.Perm (hs ++ N) := fun _ v own' hR => by
  obtain ⟨N, rfl⟩ := h v own' hR; exact ⟨N, List.Perm.refl _⟩
theorem grow_c {R : Value → List Heap → Prop} {hs : List Heap} : true = false → ∀ v own', R v own' → ∃ N, own'.Perm (hs ++ N) := fun h => by cases h
/-! Steps for the walk's driver. -/
theorem chu_P {m d : Nat} {cl : Call} {x : Operand} {f : FuncId} {first captured : Array Value} {vs vall : List Value} {v : Value} [Enters P f]
    (hi : all[m]? = some o) (hd : o.dst = some d) (hg : wantedE all env o = some true) [t : TakeL own hs rest]
    (ho : o.op = .call cl) (hc : cl.callee = .value x) (hx : ev env x = some (.func (.func f) first captured)) (hvs : evs env cl.args.toList = some vs)
    (hall : appO first.toList vs captured.toList = some vall) (hp : PFn P f vall hs v) {own2 : List Heap} (h2 : appH hs rest = some own2) (h : ChU P r F n all prot Q ds s ((d, v) :: env) own2 an) : ChU P r F n all prot Q ds (.h false m :: s) env own an :=
  chu_h hi hd hg (hop_P ho hc hx hvs hall hp) (fun _ v own' hR => ⟨[], by rw [hR.2]; simp⟩) (fun h => by cases h) fun v' own' hR => by
    obtain ⟨rfl, rfl⟩ := hR; exact ⟨own2, h2, h⟩
theorem chu_Pif {m d : Nat} {cl : Call} {x : Operand} {f : FuncId} {first captured : Array Value} {vs vall : List Value} {p : Prop} [Decidable p] [Enters P f]
    (hi : all[m]? = some o) (hd : o.dst = some d) (hg : wantedE all env o = some true) [t : TakeL own hs rest]
    (ho : o.op = .call cl) (hc : cl.callee = .value x) (hx : ev env x = some (.func (.func f) first captured)) (hvs : evs env cl.args.toList = some vs)
    (hall : appO first.toList vs captured.toList = some vall) (hp : PFn P f vall hs (.bool (decide p))) {own2 : List Heap} (h2 : appH hs rest = some own2)
    (h : p → ChU P r F n all prot Q ds s ((d, .bool true) :: env) own2 an) (h' : ¬ p → ChU P r F n all prot Q ds s ((d, .bool false) :: env) own2 an) : ChU P r F n all prot Q ds (.h false m :: s) env own an := by
  by_cases hpp : p
  · exact chu_P hi hd hg ho hc hx hvs hall hp h2 (by rw [decide_eq_true hpp]; exact h hpp)
  · exact chu_P hi hd hg ho hc hx hvs hall hp h2 (by rw [decide_eq_false hpp]; exact h' hpp)
theorem chu_Py {m d : Nat} {cl : Call} {x : Operand} {f : FuncId} {first captured : Array Value} {vs vall : List Value} {p : Prop} [Decidable p] [Enters P f]
    (hi : all[m]? = some o) (hd : o.dst = some d) (hg : wantedE all env o = some true) [t : TakeL own hs rest]
    (ho : o.op = .call cl) (hc : cl.callee = .value x) (hx : ev env x = some (.func (.func f) first captured)) (hvs : evs env cl.args.toList = some vs)
    (hall : appO first.toList vs captured.toList = some vall) (hp : PFn P f vall hs (.bool (decide p))) {own2 : List Heap} (h2 : appH hs rest = some own2) (hpp : p)
    (h : ChU P r F n all prot Q ds s ((d, .bool true) :: env) own2 an) : ChU P r F n all prot Q ds (.h false m :: s) env own an :=
  chu_P hi hd hg ho hc hx hvs hall hp h2 (by rw [decide_eq_true hpp]; exact h)
theorem chu_Pn {m d : Nat} {cl : Call} {x : Operand} {f : FuncId} {first captured : Array Value} {vs vall : List Value} {p : Prop} [Decidable p] [Enters P f]
    (hi : all[m]? = some o) (hd : o.dst = some d) (hg : wantedE all env o = some true) [t : TakeL own hs rest]
    (ho : o.op = .call cl) (hc : cl.callee = .value x) (hx : ev env x = some (.func (.func f) first captured)) (hvs : evs env cl.args.toList = some vs)
    (hall : appO first.toList vs captured.toList = some vall) (hp : PFn P f vall hs (.bool (decide p))) {own2 : List Heap} (h2 : appH hs rest = some own2) (hpp : ¬ p)
    (h : ChU P r F n all prot Q ds s ((d, .bool false) :: env) own2 an) : ChU P r F n all prot Q ds (.h false m :: s) env own an :=
  chu_P hi hd hg ho hc hx hvs hall hp h2 (by rw [decide_eq_false hpp]; exact h)
theorem chu_T {m d : Nat} {cl : Call} {x : Operand} {f : FuncId} {first captured : Array Value} {vs vall : List Value} {R : Ending → List Heap → Prop} [Enters P f]
    (hi : all[m]? = some o) (hd : o.dst = some d) (hg : wantedE all env o = some true) [t : TakeL own hs rest]
    (ho : o.op = .call cl) (hc : cl.callee = .value x) (hx : ev env x = some (.func (.func f) first captured)) (hvs : evs env cl.args.toList = some vs)
    (hall : appO first.toList vs captured.toList = some vall) (hp : T P f vall hs R) (hgr : ∀ (e : Ending) (own' : List Heap), R e own' → ∃ N, own' = hs ++ N)
    (h : ∀ (e : Ending) (own' : List Heap), R e own' → ∃ v own2, e = .returned v ∧ appH own' rest = some own2 ∧ ChU P r F n all prot Q ds s ((d, v) :: env) own2 an) : ChU P r F n all prot Q ds (.h false m :: s) env own an :=
  chu_h hi hd hg (hop_T ho hc hx hvs hall hp fun e own' hR => by obtain ⟨v, _, h1, _⟩ := h e own' hR; exact ⟨v, h1⟩)
    (fun _ v own' hR => by obtain ⟨N, rfl⟩ := hgr _ _ hR; exact ⟨N, List.Perm.refl _⟩) (fun h => by cases h) fun v own' hR => by
    obtain ⟨v', own2, h1, h2, h3⟩ := h _ own' hR
    cases h1; exact ⟨own2, h2, h3⟩
theorem chu_store {m : Nat} {t T : TypeId} {x y : Operand} {b off : Nat} {v : Value} {cs vs cs' : List Value} {d : TypeDesc} {z : Value} {ti : TypeInfo} [ty : Ty P t d z ti]
    (hi : all[m]? = some o) (hd : o.dst = none) (hg : wantedE all env o = some true) (ho : o.op = .store t x y) (hx : ev env x = some (.pointer (some ⟨b, off, none⟩))) (hy : ev env y = some v)
    (hv : cellsO v = some vs) (hsz : vs.length = ti.size) (h1 : vs.all (·.oneCell') = true) [at_ : At own b (.cells ⟨cs⟩ T (0, 0))] (hc : spliceO cs off vs = some cs') [tk : TakeL own [blk b (.cells ⟨cs⟩ T (0, 0))] rest] {rest2 : List Heap} [tp : TakeL rest prot rest2]
    (h : ChU P r F n all prot Q ds s env (blk b (.cells ⟨cs'⟩ T (0, 0)) :: rest) an) : ChU P r F n all prot Q ds (.h true m :: s) env own an :=
  chu_h0 hi hd hg (hop_store ho hx hy hv hsz h1 hc) grow_c (fun _ => ⟨rest2, tp.perm⟩) fun v' own' hR => by
    subst hR; exact ⟨_, rfl, h⟩
class SlAt (own : List Heap) (base : Option Addr) (h : outParam Heap) (cs : outParam (List Value)) : Prop where
  sl : Sl h base cs
instance SlAt.head {h : Heap} {r : List Heap} {base : Option Addr} {cs : List Value} [t : Sl h base cs] : SlAt (h :: r) base h cs := ⟨t⟩
instance (priority := low) SlAt.tail {k h : Heap} {r : List Heap} {base : Option Addr} {cs : List Value} [t : SlAt r base h cs] : SlAt (k :: r) base h cs := ⟨t.sl⟩
theorem chu_append {m : Nat} {t e : TypeId} {sz bytes : Nat} {cl : Call} {x y : Operand} {hh hn : Heap} {base : Option Addr} {len cap mm mc d : Nat} {cs news : List Value} {a : Addr} [g : TyG P t e sz bytes]
    (hi : all[m]? = some o) (hd : o.dst = some d) (hg : wantedE all env o = some true)
    (ho : o.op = .call cl) (hc : cl.callee = .builtin .append) (hax : cl.args = #[x, y]) (hat : cl.argTypes = #[t, t])
    (hx : ev env x = some (.slice base len cap)) (hy : ev env y = some (.slice (some a) mm mc)) [sa : SlAt own (some a) hn news] (os : OS hh base len cap e sz cs) [tk : TakeL own [hh, hn] rest] {rest2 : List Heap} [tp : TakeL rest prot rest2]
    (hm : 0 < mm) (hnl : news.length = mm * sz) (hpos : 0 < sz) (h1 : news.all (·.oneCell') = true) (hroom : (len + mm) * bytes ≤ 70368744177664) (hlen : len + mm ≤ 70368744177664)
    (h : ∀ h' base' cap', OS h' base' (len + mm) cap' e sz (cs ++ news) → ChU P r F n all prot Q ds s ((d, .slice base' (len + mm) cap') :: env) (h' :: hn :: rest) an) : ChU P r F n all prot Q ds (.h true m :: s) env own an :=
  chu_h hi hd hg (hop_append ho hc hax hat hx hy sa.sl os hm hnl hpos h1 hroom hlen) grow_c (fun _ => ⟨rest2, tp.perm⟩) fun v own' hR => by
    obtain ⟨h', b', c', rfl, rfl, os'⟩ := hR; exact ⟨_, rfl, h h' b' c' os'⟩
end
section
variable {P : Program} {own : List Heap} {n : Nat} {env : Env} {o : Oper}
/-- A slice's array. -/
theorem opv_arrayAt {t e : TypeId} {k sz : Nat} {x : Operand} {base : Option Addr} {len cap : Nat} {cs : List Value} [h1 : TyR P t k e sz] (ho : o.op = .sliceToArrayPointer t x) (hx : ev env x = some (.slice base len cap)) [m : SlIn own base cs]
    (hpos : Nat.blt 0 cs.length = true) (hk : Nat.ble k len = true) : OpV P own n o env (ept base 0) :=
  ⟨by rw [ho]; rfl, fun a w X hA s => ⟨w, s, .inl (by
    have hpos := Nat.le_of_ble_eq_true hpos
    have hk := Nat.le_of_ble_eq_true hk
    obtain ⟨ad, hb, hsp, -⟩ := m.cell s (k := 0) (v := cs[0]) (by simp)
    subst hb
    obtain ⟨bb, off, spot⟩ := ad
    simp only at hsp
    subst hsp
    have hnl : ¬ len < k := by omega
    simp [execOp, ho, hA.eval hx, Instr.arrayAt, run_und h1.u, hnl, ept])⟩⟩
end
end Go.SL
