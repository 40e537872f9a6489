/- The walk of a region that draws its order, in which entries are put into a new map in whatever order (made by mkS2.py out of S, X1, X2, X15). -/
import Derived.Test.YtnfepffmlhmmhaaSlG8
import Derived.Test.YtnfepffmlhmmhaaSlG4
section
set_option linter.unusedVariables false
namespace Go.SL.DM
open Go.SL
inductive Sg
  | q (l : List Nat)
  | f (l : List Nat)
  | r (l : List Nat)
  | an (i : Nat)
  | rv (i : Nat)
  | h (c : Bool) (m : Nat)
  | fi (i j : Nat)
def Sg.its : Sg → List It
  | .q l => l.map It.q
  | .f l => l.map It.f
  | .r l => l.map It.r
  | .an i => [.an i]
  | .rv i => [.rv i]
  | .h c m => [.h c m]
  | .fi i j => [.fi i j]
def allIts : List Sg → List It
  | [] => []
  | s :: r => s.its ++ allIts r
/-- Entries that are put: by which operation, into which map, under which number, what. -/
abbrev ML := List (Nat × Nat × Int × Value)
def enOf : ML → En
  | [] => fun _ => none
  | (i, j, z, v) :: r => putE (enOf r) i (j, .int .i64, .int .i64 z, v)
def ChU (P : Program) (r : Option Nat) (F : Heap) (n : Nat) (all : Array Oper) (prot : List Heap) (Q : SPost) (ds : List Deferred) : List Sg → Env → List Heap → An → ML → Prop
  | [], env, own, _, _ => Q .normal env own ds
  | .q l :: s, env, own, an, ml => QOps P F n all own (fun env' => ChU P r F n all prot Q ds s env' own an ml) l env
  | .f l :: s, env, own, an, ml => QOps P emp n all [] (fun env' => ChU P r F n all prot Q ds s env' own an ml) l env
  | .r l :: s, env, own, an, ml => QOps P F n all prot (fun env' => ChU P r F n all prot Q ds s env' own an ml) l env
  | .an i :: s, env, own, an, ml => ∃ o vf ob, all[i]? = some o ∧ wantedE all env o = some true ∧ NewOp P n o env vf ob ∧ ChU P r F n all prot Q ds s env own (putA an i (vf, ob)) ml
  | .rv i :: s, env, own, an, ml => ∃ vf ob, an i = some (vf, ob) ∧ ∀ b ob', FinO (entsOf (enOf ml) (fun _ => true) all.size i) ob ob' → ChU P r F n all prot Q ds s (extE all i (vf b) env) (blk b ob' :: own) an ml
  | .fi i j :: s, env, own, an, ml => ∃ z v, InsAt P all env an (enOf ml) i j (.int .i64) (.int .i64 z) v ∧ ChU P r F n all prot Q ds s env own an ((i, j, z, v) :: ml)
  | .h c m :: s, env, own, an, ml => ∃ o ownM ownC R, all[m]? = some o ∧ own.Perm (ownM ++ ownC) ∧ ((wantedE all env o = some true ∧ HOp P ownM n o env R) ∨ (wantedE all env o = some false ∧ plainOp o.op = true ∧ R undef ownM)) ∧
      (c = false → ∀ v own', R v own' → ∃ N, own'.Perm (ownM ++ N)) ∧ (c = true → ∃ Y, ownC.Perm (prot ++ Y)) ∧ ∀ v own', R v own' → ChU P r F n all prot Q ds s (extE all m v env) (own' ++ ownC) an ml
section
variable {P : Program} {r : Option Nat} {F : Heap} {n : Nat} {prot : List Heap} {Q : SPost} {env : Env} {own rest hs ownM ownC : List Heap} {ds : List Deferred} {all : Array Oper} {s : List Sg} {o : Oper} {id : Nat} {an : An} {ml : ML}
theorem new_of {vf : Nat → Value} {ob : Obj} (h : SL.NewOp P n o env vf ob) : NewOp P n o env vf ob := h
theorem new_makeMap {t : TypeId} (ho : o.op = .makeMap t none) : NewOp P n o env (fun b => .map (some b)) (.map #[] 0) :=
  ⟨by rw [ho]; rfl, fun _ => rfl, fun a w _ => by simp [execOp, ho, Instr.makeMap]⟩
theorem chain_q {K : Env → List Heap → Prop} {F1 : Heap} {own1 : List Heap} {it : Nat → It} {own : List Heap} {an : An} {en : En} (hit : ∀ i rr env o v, all[i]? = some o → condAt P F1 n all own1 env o v → Chain P F n all prot K rr (extE all i v env) own an en → Chain P F n all prot K (it i :: rr) env own an en)
    {rr : List It} : ∀ {l : List Nat} {env : Env}, QOps P F1 n all own1 (fun env' => Chain P F n all prot K rr env' own an en) l env → Chain P F n all prot K (l.map it ++ rr) env own an en := by
  intro l
  induction l with
  | nil => intro env h; exact h
  | cons i l ih =>
    intro env h
    simp only [QOps] at h
    obtain ⟨o, v, h1, h2, h3, h4⟩ := h
    refine hit i _ env o v h1 ⟨h2, h3⟩ (ih ?_)
    have : extE all i v env = (match o.dst with | some d => (d, v) :: env | none => env) := by simp only [extE, h1, Option.bind_some] <;> cases o.dst <;> rfl
    rw [this]; exact h4
theorem chain_of : ∀ {s : List Sg} {env : Env} {own : List Heap} {an : An} {ml : ML}, ChU P r F n all prot Q ds s env own an ml → Chain P F n all prot (fun env own => Q .normal env own ds) (allIts s) env own an (enOf ml) := by
  intro s
  induction s with
  | nil => intro env own an ml h; exact h
  | cons x s ih =>
    intro env own an ml h
    cases x with
    | q l => exact chain_q (it := It.q) (own1 := own) (F1 := F) (fun i rr env o v h1 h2 h3 => ⟨o, v, h1, h2, h3⟩) (qops_mono (fun env h => ih h) h)
    | f l => exact chain_q (it := It.f) (fun i rr env o v h1 h2 h3 => ⟨o, v, h1, h2, h3⟩) (qops_mono (fun env h => ih h) h)
    | r l => exact chain_q (it := It.r) (fun i rr env o v h1 h2 h3 => ⟨o, v, h1, h2, h3⟩) (qops_mono (fun env h => ih h) h)
    | an i =>
      obtain ⟨o, vf, ob, h1, h2, h3, h4⟩ := h
      exact ⟨o, vf, ob, h1, h2, h3, ih h4⟩
    | rv i =>
      obtain ⟨vf, ob, h1, h2⟩ := h
      exact ⟨vf, ob, h1, fun b ob' hf => ih (h2 b ob' hf)⟩
    | fi i j =>
      obtain ⟨z, v, h1, h2⟩ := h
      exact ⟨_, _, _, h1, ih h2⟩
    | h c m =>
      obtain ⟨o, ownM, ownC, R, h1, h2, h3, h5, h7, h6⟩ := h
      exact ⟨o, ownM, ownC, R, h1, h2, h3, h5, h7, fun v own' hR => ih (h6 v own' hR)⟩
theorem sl_drawM (s : List Sg) (prot : List Heap) [tp : TakeL own prot rest] {ops : Array Oper} (hok : dok ops = true) (hac : P.follows .mixedOrders = true) (hits : itsOk ops (allIts s) = true) (hdst : dstB ops n = true)
    (h : ChU P r F n ops prot Q ds s env own (fun _ => none) []) : SWP P r F n (.region id ops true) Q env own ds :=
  swp_drawM prot ⟨rest, tp.perm⟩ hok hac hits (dstB_spec hdst) (chain_of h)
theorem chu_nil (h : Q .normal env own ds) : ChU P r F n all prot Q ds [] env own an ml := h
theorem chu_q {l : List Nat} {A : List Oper} (hA : pickO all l = some A) (h : SOL true P r F n all A (Thn (fun env1 _ _ => ChU P r F n all prot Q ds s env1 own an ml) (fun _ _ _ _ => False)) env own ds) : ChU P r F n all prot Q ds (.q l :: s) env own an ml :=
  h l (pickO_eq hA)
theorem chu_f {l : List Nat} {A : List Oper} (hA : pickO all l = some A) (h : SOL true P r emp n all A (Thn (fun env1 _ _ => ChU P r F n all prot Q ds s env1 own an ml) (fun _ _ _ _ => False)) env [] ds) : ChU P r F n all prot Q ds (.f l :: s) env own an ml :=
  h l (pickO_eq hA)
theorem chu_r {l : List Nat} {A : List Oper} (hA : pickO all l = some A) (h : SOL true P r F n all A (Thn (fun env1 _ _ => ChU P r F n all prot Q ds s env1 own an ml) (fun _ _ _ _ => False)) env prot ds) : ChU P r F n all prot Q ds (.r l :: s) env own an ml :=
  h l (pickO_eq hA)
theorem chu_new {i : Nat} {vf : Nat → Value} {ob : Obj} (hi : all[i]? = some o) (hg : wantedE all env o = some true) (hn : NewOp P n o env vf ob) (h : ChU P r F n all prot Q ds s env own (putA an i (vf, ob)) ml) : ChU P r F n all prot Q ds (.an i :: s) env own an ml :=
  ⟨o, vf, ob, hi, hg, hn, h⟩
theorem chu_h {c : Bool} {m d : Nat} {R : Value → List Heap → Prop} (hi : all[m]? = some o) (hd : o.dst = some d) (hg : wantedE all env o = some true) [t : TakeL own hs rest] (hop : HOp P hs n o env R)
    (hgr : c = false → ∀ v own', R v own' → ∃ N, own'.Perm (hs ++ N)) (hpc : c = true → ∃ Y, rest.Perm (prot ++ Y)) (h : ∀ v own', R v own' → ∃ own2, appH own' rest = some own2 ∧ ChU P r F n all prot Q ds s ((d, v) :: env) own2 an ml) : ChU P r F n all prot Q ds (.h c m :: s) env own an ml := by
  refine ⟨o, hs, rest, R, hi, t.perm, .inl ⟨hg, hop⟩, hgr, hpc, fun v own' hR => ?_⟩
  obtain ⟨own2, e2, h2⟩ := h v own' hR
  have : extE all m v env = (d, v) :: env := by simp only [extE, hi, Option.bind_some, hd]
  rw [this, ← appH_eq e2]; exact h2
theorem chu_h0 {c : Bool} {m : Nat} {R : Value → List Heap → Prop} (hi : all[m]? = some o) (hd : o.dst = none) (hg : wantedE all env o = some true) [t : TakeL own hs rest] (hop : HOp P hs n o env R)
    (hgr : c = false → ∀ v own', R v own' → ∃ N, own'.Perm (hs ++ N)) (hpc : c = true → ∃ Y, rest.Perm (prot ++ Y)) (h : ∀ v own', R v own' → ∃ own2, appH own' rest = some own2 ∧ ChU P r F n all prot Q ds s env own2 an ml) : ChU P r F n all prot Q ds (.h c m :: s) env own an ml := by
  refine ⟨o, hs, rest, R, hi, t.perm, .inl ⟨hg, hop⟩, hgr, hpc, fun v own' hR => ?_⟩
  obtain ⟨own2, e2, h2⟩ := h v own' hR
  have : extE all m v env = env := by simp only [extE, hi, Option.bind_some, hd]
  rw [this, ← appH_eq e2]; exact h2
/-- A guarded operation that is not carried out, where a heavy one was looked for. -/
theorem chu_pass {c : Bool} {m d : Nat} [tp : TakeL own prot rest] (hi : all[m]? = some o) (hd : o.dst = some d) (hg : wantedE all env o = some false) (hp : plainOp o.op = true) (h : ChU P r F n all prot Q ds s ((d, undef) :: env) own an ml) : ChU P r F n all prot Q ds (.h c m :: s) env own an ml := by
  refine ⟨o, [], own, fun v own' => v = undef ∧ own' = [], hi, List.Perm.refl _, .inr ⟨hg, hp, rfl, rfl⟩, ?_, fun _ => ⟨rest, tp.perm⟩, ?_⟩
  · rintro - v own' ⟨rfl, rfl⟩; exact ⟨[], List.Perm.refl _⟩
  · rintro v own' ⟨rfl, rfl⟩
    have : extE all m undef env = (d, undef) :: env := by simp only [extE, hi, Option.bind_some, hd]
    rw [this]; exact h
theorem chu_P {m d : Nat} {cl : Call} {x : Operand} {f : FuncId} {first captured : Array Value} {vs vall : List Value} {v : Value} [Enters P f]
    (hi : all[m]? = some o) (hd : o.dst = some d) (hg : wantedE all env o = some true) [t : TakeL own hs rest]
    (ho : o.op = .call cl) (hc : cl.callee = .value x) (hx : ev env x = some (.func (.func f) first captured)) (hvs : evs env cl.args.toList = some vs)
    (hall : appO first.toList vs captured.toList = some vall) (hp : PFn P f vall hs v) {own2 : List Heap} (h2 : appH hs rest = some own2) (h : ChU P r F n all prot Q ds s ((d, v) :: env) own2 an ml) : ChU P r F n all prot Q ds (.h false m :: s) env own an ml :=
  chu_h hi hd hg (hop_P ho hc hx hvs hall hp) (fun _ v own' hR => ⟨[], by rw [hR.2]; simp⟩) (fun h => by cases h) fun v' own' hR => by
    obtain ⟨rfl, rfl⟩ := hR; exact ⟨own2, h2, h⟩
theorem chu_Pif {m d : Nat} {cl : Call} {x : Operand} {f : FuncId} {first captured : Array Value} {vs vall : List Value} {p : Prop} [Decidable p] [Enters P f]
    (hi : all[m]? = some o) (hd : o.dst = some d) (hg : wantedE all env o = some true) [t : TakeL own hs rest]
    (ho : o.op = .call cl) (hc : cl.callee = .value x) (hx : ev env x = some (.func (.func f) first captured)) (hvs : evs env cl.args.toList = some vs)
    (hall : appO first.toList vs captured.toList = some vall) (hp : PFn P f vall hs (.bool (decide p))) {own2 : List Heap} (h2 : appH hs rest = some own2)
    (h : p → ChU P r F n all prot Q ds s ((d, .bool true) :: env) own2 an ml) (h' : ¬ p → ChU P r F n all prot Q ds s ((d, .bool false) :: env) own2 an ml) : ChU P r F n all prot Q ds (.h false m :: s) env own an ml := by
  by_cases hpp : p
  · exact chu_P hi hd hg ho hc hx hvs hall hp h2 (by rw [decide_eq_true hpp]; exact h hpp)
  · exact chu_P hi hd hg ho hc hx hvs hall hp h2 (by rw [decide_eq_false hpp]; exact h' hpp)
theorem chu_Py {m d : Nat} {cl : Call} {x : Operand} {f : FuncId} {first captured : Array Value} {vs vall : List Value} {p : Prop} [Decidable p] [Enters P f]
    (hi : all[m]? = some o) (hd : o.dst = some d) (hg : wantedE all env o = some true) [t : TakeL own hs rest]
    (ho : o.op = .call cl) (hc : cl.callee = .value x) (hx : ev env x = some (.func (.func f) first captured)) (hvs : evs env cl.args.toList = some vs)
    (hall : appO first.toList vs captured.toList = some vall) (hp : PFn P f vall hs (.bool (decide p))) {own2 : List Heap} (h2 : appH hs rest = some own2) (hpp : p)
    (h : ChU P r F n all prot Q ds s ((d, .bool true) :: env) own2 an ml) : ChU P r F n all prot Q ds (.h false m :: s) env own an ml :=
  chu_P hi hd hg ho hc hx hvs hall hp h2 (by rw [decide_eq_true hpp]; exact h)
theorem chu_Pn {m d : Nat} {cl : Call} {x : Operand} {f : FuncId} {first captured : Array Value} {vs vall : List Value} {p : Prop} [Decidable p] [Enters P f]
    (hi : all[m]? = some o) (hd : o.dst = some d) (hg : wantedE all env o = some true) [t : TakeL own hs rest]
    (ho : o.op = .call cl) (hc : cl.callee = .value x) (hx : ev env x = some (.func (.func f) first captured)) (hvs : evs env cl.args.toList = some vs)
    (hall : appO first.toList vs captured.toList = some vall) (hp : PFn P f vall hs (.bool (decide p))) {own2 : List Heap} (h2 : appH hs rest = some own2) (hpp : ¬ p)
    (h : ChU P r F n all prot Q ds s ((d, .bool false) :: env) own2 an ml) : ChU P r F n all prot Q ds (.h false m :: s) env own an ml :=
  chu_P hi hd hg ho hc hx hvs hall hp h2 (by rw [decide_eq_false hpp]; exact h)
theorem chu_T {m d : Nat} {cl : Call} {x : Operand} {f : FuncId} {first captured : Array Value} {vs vall : List Value} {R : Ending → List Heap → Prop} [Enters P f]
    (hi : all[m]? = some o) (hd : o.dst = some d) (hg : wantedE all env o = some true) [t : TakeL own hs rest]
    (ho : o.op = .call cl) (hc : cl.callee = .value x) (hx : ev env x = some (.func (.func f) first captured)) (hvs : evs env cl.args.toList = some vs)
    (hall : appO first.toList vs captured.toList = some vall) (hp : T P f vall hs R) (hgr : ∀ (e : Ending) (own' : List Heap), R e own' → ∃ N, own' = hs ++ N)
    (h : ∀ (e : Ending) (own' : List Heap), R e own' → ∃ v own2, e = .returned v ∧ appH own' rest = some own2 ∧ ChU P r F n all prot Q ds s ((d, v) :: env) own2 an ml) : ChU P r F n all prot Q ds (.h false m :: s) env own an ml :=
  chu_h hi hd hg (hop_T ho hc hx hvs hall hp fun e own' hR => by obtain ⟨v, _, h1, _⟩ := h e own' hR; exact ⟨v, h1⟩)
    (fun _ v own' hR => by obtain ⟨N, rfl⟩ := hgr _ _ hR; exact ⟨N, List.Perm.refl _⟩) (fun h => by cases h) fun v own' hR => by
    obtain ⟨v', own2, h1, h2, h3⟩ := h _ own' hR
    cases h1; exact ⟨own2, h2, h3⟩
theorem chu_store {m : Nat} {t T : TypeId} {x y : Operand} {b off : Nat} {v : Value} {cs vs cs' : List Value} {d : TypeDesc} {z : Value} {ti : TypeInfo} [ty : Ty P t d z ti]
    (hi : all[m]? = some o) (hd : o.dst = none) (hg : wantedE all env o = some true) (ho : o.op = .store t x y) (hx : ev env x = some (.pointer (some ⟨b, off, none⟩))) (hy : ev env y = some v)
    (hv : cellsO v = some vs) (hsz : vs.length = ti.size) (h1 : vs.all (·.oneCell') = true) [at_ : At own b (.cells ⟨cs⟩ T (0, 0))] (hc : spliceO cs off vs = some cs') [tk : TakeL own [blk b (.cells ⟨cs⟩ T (0, 0))] rest] {rest2 : List Heap} [tp : TakeL rest prot rest2]
    (h : ChU P r F n all prot Q ds s env (blk b (.cells ⟨cs'⟩ T (0, 0)) :: rest) an ml) : ChU P r F n all prot Q ds (.h true m :: s) env own an ml :=
  chu_h0 hi hd hg (hop_store ho hx hy hv hsz h1 hc) grow_c (fun _ => ⟨rest2, tp.perm⟩) fun v' own' hR => by
    subst hR; exact ⟨_, rfl, h⟩
theorem chu_append {m : Nat} {t e : TypeId} {sz bytes : Nat} {cl : Call} {x y : Operand} {hh hn : Heap} {base : Option Addr} {len cap mm mc d : Nat} {cs news : List Value} {a : Addr} [g : TyG P t e sz bytes]
    (hi : all[m]? = some o) (hd : o.dst = some d) (hg : wantedE all env o = some true)
    (ho : o.op = .call cl) (hc : cl.callee = .builtin .append) (hax : cl.args = #[x, y]) (hat : cl.argTypes = #[t, t])
    (hx : ev env x = some (.slice base len cap)) (hy : ev env y = some (.slice (some a) mm mc)) [sa : SlAt own (some a) hn news] (os : OS hh base len cap e sz cs) [tk : TakeL own [hh, hn] rest] {rest2 : List Heap} [tp : TakeL rest prot rest2]
    (hm : 0 < mm) (hnl : news.length = mm * sz) (hpos : 0 < sz) (h1 : news.all (·.oneCell') = true) (hroom : (len + mm) * bytes ≤ 70368744177664) (hlen : len + mm ≤ 70368744177664)
    (h : ∀ h' base' cap', OS h' base' (len + mm) cap' e sz (cs ++ news) → ChU P r F n all prot Q ds s ((d, .slice base' (len + mm) cap') :: env) (h' :: hn :: rest) an ml) : ChU P r F n all prot Q ds (.h true m :: s) env own an ml :=
  chu_h hi hd hg (hop_append ho hc hax hat hx hy sa.sl os hm hnl hpos h1 hroom hlen) grow_c (fun _ => ⟨rest2, tp.perm⟩) fun v own' hR => by
    obtain ⟨h', b', c', rfl, rfl, os'⟩ := hR; exact ⟨_, rfl, h h' b' c' os'⟩
theorem chu_callW {m d : Nat} {cl : Call} {x : Operand} {f : FuncId} {first captured : Array Value} {vs vall : List Value} {R : Ending → List Heap → Prop} [Enters P f]
    (hi : all[m]? = some o) (hd : o.dst = some d) (hg : wantedE all env o = some true)
    (ho : o.op = .call cl) (hc : cl.callee = .value x) (hx : ev env x = some (.func (.func f) first captured)) (hvs : evs env cl.args.toList = some vs)
    (hall : appO first.toList vs captured.toList = some vall) (hp : T P f vall own fun e o => ∃ N, o = own ++ N ∧ R e N)
    (h : ∀ (e : Ending) (N : List Heap), R e N → ∃ v own2, e = .returned v ∧ appH own N = some own2 ∧ ChU P r F n all prot Q ds s ((d, v) :: env) own2 an ml) : ChU P r F n all prot Q ds (.h false m :: s) env own an ml := by
  haveI : TakeL own own [] := ⟨by simp⟩
  refine chu_T hi hd hg ho hc hx hvs hall hp (fun e o ⟨N, h1, _⟩ => ⟨N, h1⟩) fun e o hR => ?_
  obtain ⟨N, rfl, hR⟩ := hR
  obtain ⟨v, own2, h1, h2, h3⟩ := h e N hR
  exact ⟨v, own2, h1, by rw [appH_nil, appH_eq h2], h3⟩
theorem chu_storeE {m : Nat} {t T : TypeId} {x y : Operand} {base : Option Addr} {k len cap sz : Nat} {h : Heap} {v : Value} {cs vs cs' : List Value} {d : TypeDesc} {z : Value} {ti : TypeInfo} [ty : Ty P t d z ti]
    (hi : all[m]? = some o) (hd : o.dst = none) (hg : wantedE all env o = some true) (ho : o.op = .store t x y) (hx : ev env x = some (ept base k)) (hy : ev env y = some v) (os : OS h base len cap T sz cs) [tk : TakeL own [h] rest] {rest2 : List Heap} [tp : TakeL rest prot rest2]
    (hv : cellsO v = some vs) (hsz : vs.length = ti.size) (h1 : vs.all (·.oneCell') = true) (hpos : 0 < vs.length) (hk : k + vs.length ≤ cs.length) (hc : cs.take k ++ vs ++ cs.drop (k + vs.length) = cs')
    (next : ∀ h', OS h' base len cap T sz cs' → ChU P r F n all prot Q ds s env (h' :: rest) an ml) : ChU P r F n all prot Q ds (.h true m :: s) env own an ml :=
  chu_h0 hi hd hg (hop_storeE os ho hx hy hv hsz h1 hpos hk hc.symm) grow_c (fun _ => ⟨rest2, tp.perm⟩) fun v' own' hR => by
    obtain ⟨h', rfl, os'⟩ := hR; exact ⟨_, rfl, next h' os'⟩
theorem chu_PW {m d : Nat} {cl : Call} {x : Operand} {f : FuncId} {first captured : Array Value} {vs vall : List Value} {v : Value} [Enters P f]
    (hi : all[m]? = some o) (hd : o.dst = some d) (hg : wantedE all env o = some true)
    (ho : o.op = .call cl) (hc : cl.callee = .value x) (hx : ev env x = some (.func (.func f) first captured)) (hvs : evs env cl.args.toList = some vs)
    (hall : appO first.toList vs captured.toList = some vall) (hp : PFn P f vall own v) (h : ChU P r F n all prot Q ds s ((d, v) :: env) own an ml) : ChU P r F n all prot Q ds (.h false m :: s) env own an ml := by
  haveI : TakeL own own [] := ⟨by simp⟩
  exact chu_P hi hd hg ho hc hx hvs hall hp appH_nil h
theorem chu_appendK {cb : Bool} {m : Nat} {t e : TypeId} {sz bytes : Nat} {cl : Call} {x y : Operand} {K : Heap} {base yb : Option Addr} {len mm mc d : Nat} {cs news : List Value} [g : TyG P t e sz bytes]
    (hi : all[m]? = some o) (hd : o.dst = some d) (hg : wantedE all env o = some true)
    (ho : o.op = .call cl) (hc : cl.callee = .builtin .append) (hax : cl.args = #[x, y]) (hat : cl.argTypes = #[t, t])
    (hx : ev env x = some (.slice base len len)) (hy : ev env y = some (.slice yb mm mc)) (sb : Sl K base cs) (sa : Sl K yb news) [tk : TakeL own [K] rest] {rest2 : List Heap} [tp : TakeL rest prot rest2]
    (hcl : cs.length = len * sz) (hnl : news.length = mm * sz) (hpos : 0 < sz) (hroom : (len + mm) * bytes ≤ 35184372088832) (hlen : len + mm ≤ 35184372088832)
    (h : ∀ h' base' cap', SlIn [h', K] base' (cs ++ news) → ChU P r F n all prot Q ds s ((d, .slice base' (len + mm) cap') :: env) (h' :: K :: rest) an ml) : ChU P r F n all prot Q ds (.h cb m :: s) env own an ml :=
  chu_h hi hd hg (hop_appendK ho hc hax hat hx hy sb sa hcl hnl hpos hroom hlen) (fun _ v own' hR => by
    obtain ⟨h', b', c', rfl, rfl, os'⟩ := hR
    exact ⟨[h'], List.Perm.swap _ _ _⟩) (fun _ => ⟨rest2, tp.perm⟩) fun v own' hR => by
    obtain ⟨h', b', c', rfl, rfl, os'⟩ := hR; exact ⟨_, rfl, h h' b' c' os'⟩
theorem chu_rv {i d : Nat} {vf : Nat → Value} {ob : Obj} (hi : all[i]? = some o) (hd : o.dst = some d) (ha : an i = some (vf, ob)) (hm : ∀ ents o', FinO ents ob o' → o' = ob) (h : ∀ b, ChU P r F n all prot Q ds s ((d, vf b) :: env) (blk b ob :: own) an ml) : ChU P r F n all prot Q ds (.rv i :: s) env own an ml := by
  refine ⟨vf, ob, ha, fun b ob' hf => ?_⟩
  have : extE all i (vf b) env = (d, vf b) :: env := by simp only [extE, hi, Option.bind_some, hd]
  rw [this, hm _ _ hf]; exact h b
theorem chu_fi {i j d : Nat} {t kt et : TypeId} {k x : Operand} {z : Int} {v zm zk : Value} {im ik : TypeInfo} {vf : Nat → Value} [h1 : Ty P t (.map kt et) zm im] [h2 : Ty P kt (.int .i64) zk ik]
    (hi : all[i]? = some o) (ho : o.op = .insert t (.tmp d) k x) (hd : o.dst = none) (hg : o.guard = none) (hj : (all[j]?).bind (·.dst) = some d) (hone : (all.toList.zipIdx.all fun p => !(p.1.dst == some d) || Nat.beq p.2 j) = true)
    (hk : k ≠ .tmp d) (hx : x ≠ .tmp d) (ek : ev env k = some (.int .i64 z)) (ex : ev env x = some v) (ha : an j = some (vf, .map #[] 0)) (hvf : ∀ b, vf b = .map (some b)) (hnew : (ml.all fun p => !(p.2.2.1 == z)) = true)
    (h : ChU P r F n all prot Q ds s env own an ((i, j, z, v) :: ml)) : ChU P r F n all prot Q ds (.fi i j :: s) env own an ml := by
  refine ⟨z, v, ⟨o, t, d, k, x, kt, et, vf, hi, ho, hd, hg, hj, ?_, hk, hx, ek, ex, h1.u, h2.u, fun w => run_checkInt h2.u false w, ha, hvf, ?_⟩, h⟩
  · intro l hl
    cases hl' : all[l]? with
    | none => rw [hl'] at hl; cases hl
    | some o' =>
      rw [hl'] at hl
      simp only [Option.bind_some] at hl
      have hm : (o', l) ∈ all.toList.zipIdx := by
        rw [List.mem_zipIdx_iff_getElem?]
        simpa using hl'
      have := List.all_eq_true.1 hone _ hm
      simp only [hl, beq_self_eq_true, Bool.not_true, Bool.false_or] at this
      exact Nat.eq_of_beq_eq_true this
  · intro l dd' kv' xv' hl
    have aux : ∀ (ml : ML), (ml.all fun p => !(p.2.2.1 == z)) = true → enOf ml l = some (j, dd', kv', xv') → ∃ z', z' ≠ z ∧ dd' = .int .i64 ∧ kv' = .int .i64 z' := by
      intro ml
      induction ml with
      | nil => intro _ h; cases h
      | cons p ml ih =>
        obtain ⟨i', j', z', v'⟩ := p
        intro hall h
        simp only [List.all_cons, Bool.and_eq_true, Bool.not_eq_true', beq_eq_false_iff_ne] at hall
        simp only [enOf, putE] at h
        split at h
        · simp only [Option.some.injEq, Prod.mk.injEq] at h
          obtain ⟨-, rfl, rfl, rfl⟩ := h
          exact ⟨z', hall.1, rfl, rfl⟩
        · exact ih hall.2 h
    obtain ⟨z', hz, rfl, rfl⟩ := aux ml hnew hl
    constructor <;> simp [Instr.sameNow, hz, Ne.symm hz]
/-- What has been put, number by number. -/
def fOf : ML → Nat → Int → Option Value
  | [], _, _ => none
  | (_, j, z, v) :: r, m, y => if j = m then (if y = z then some v else fOf r m y) else fOf r m y
def mlOk (N : Nat) : ML → Bool
  | [] => true
  | (i, j, z, _) :: r => Nat.blt i N && (r.all fun p => !Nat.beq p.1 i) && (r.all fun p => !Nat.beq p.2.1 j || !(p.2.2.1 == z)) && mlOk N r
theorem enOf_mem {N : Nat} : ∀ {ml : ML}, mlOk N ml = true → ∀ k j dd kv v, enOf ml k = some (j, dd, kv, v) ↔ ∃ z, (k, j, z, v) ∈ ml ∧ dd = .int .i64 ∧ kv = .int .i64 z
  | [], _, k, j, dd, kv, v => by simp [enOf]
  | (i, j', z', v') :: r, h, k, j, dd, kv, v => by
    simp only [mlOk, Bool.and_eq_true] at h
    obtain ⟨⟨⟨-, h2⟩, -⟩, h4⟩ := h
    have ih := enOf_mem h4 k j dd kv v
    simp only [enOf, putE]
    by_cases e : k = i
    · subst e
      rw [if_pos rfl]
      constructor
      · intro h
        simp only [Option.some.injEq, Prod.mk.injEq] at h
        obtain ⟨rfl, rfl, rfl, rfl⟩ := h
        exact ⟨z', List.mem_cons_self .., rfl, rfl⟩
      · rintro ⟨z, hm, rfl, rfl⟩
        rcases List.mem_cons.1 hm with hm | hm
        · simp only [Prod.mk.injEq, true_and] at hm
          obtain ⟨rfl, rfl, rfl⟩ := hm; rfl
        · have := List.all_eq_true.1 h2 _ hm
          simp at this
    · rw [if_neg e, ih]
      constructor
      · rintro ⟨z, hm, h1⟩; exact ⟨z, List.mem_cons_of_mem _ hm, h1⟩
      · rintro ⟨z, hm, h1⟩
        rcases List.mem_cons.1 hm with hm | hm
        · simp only [Prod.mk.injEq] at hm; exact absurd hm.1 e
        · exact ⟨z, hm, h1⟩
theorem mlOk_lt {N : Nat} : ∀ {ml : ML}, mlOk N ml = true → ∀ p ∈ ml, p.1 < N
  | [], _, p, hp => by cases hp
  | (i, j', z', v') :: r, h, p, hp => by
    simp only [mlOk, Bool.and_eq_true] at h
    rcases List.mem_cons.1 hp with rfl | hp
    · exact Nat.le_of_ble_eq_true h.1.1.1
    · exact mlOk_lt h.2 p hp
theorem fOf_mem {N : Nat} : ∀ {ml : ML}, mlOk N ml = true → ∀ j z v, fOf ml j z = some v ↔ ∃ k, (k, j, z, v) ∈ ml
  | [], _, j, z, v => by simp [fOf]
  | (i, j', z', v') :: r, h, j, z, v => by
    simp only [mlOk, Bool.and_eq_true] at h
    obtain ⟨⟨-, h3⟩, h4⟩ := h
    have ih := fOf_mem h4 j z v
    have hno : ∀ k u, (k, j', z', u) ∈ r → False := fun k u hm => by
      have := List.all_eq_true.1 h3 _ hm
      simp at this
    simp only [fOf]
    by_cases e : j' = j
    · subst e
      rw [if_pos rfl]
      by_cases e2 : z = z'
      · subst e2
        rw [if_pos rfl]
        constructor
        · intro h; cases h; exact ⟨i, List.mem_cons_self ..⟩
        · rintro ⟨k, hm⟩
          rcases List.mem_cons.1 hm with hm | hm
          · simp only [Prod.mk.injEq, true_and] at hm; rw [hm.2]
          · exact (hno k v hm).elim
      · rw [if_neg e2, ih]
        constructor
        · rintro ⟨k, hm⟩; exact ⟨k, List.mem_cons_of_mem _ hm⟩
        · rintro ⟨k, hm⟩
          rcases List.mem_cons.1 hm with hm | hm
          · simp only [Prod.mk.injEq, true_and] at hm; exact absurd hm.2.1 e2
          · exact ⟨k, hm⟩
    · rw [if_neg e, ih]
      constructor
      · rintro ⟨k, hm⟩; exact ⟨k, List.mem_cons_of_mem _ hm⟩
      · rintro ⟨k, hm⟩
        rcases List.mem_cons.1 hm with hm | hm
        · simp only [Prod.mk.injEq] at hm; exact absurd hm.2.1.symm e
        · exact ⟨k, hm⟩
theorem ents_mem {en : En} {N j : Nat} {kv xv : Value} : (kv, xv) ∈ entsOf en (fun _ => true) N j ↔ ∃ k, k < N ∧ ∃ dd, en k = some (j, dd, kv, xv) := by
  unfold entsOf
  rw [List.mem_filterMap]
  constructor
  · rintro ⟨k, hk, h⟩
    refine ⟨k, List.mem_range.1 hk, ?_⟩
    cases e : en k with
    | none => rw [e] at h; cases h
    | some q =>
      obtain ⟨j', dd, kv', xv'⟩ := q
      rw [e] at h
      simp only at h
      split at h
      · rename_i hj; subst hj; cases h; exact ⟨dd, rfl⟩
      · cases h
  · rintro ⟨k, hk, dd, h⟩
    exact ⟨k, List.mem_range.2 hk, by rw [h]; simp⟩
theorem lookE_some {k : IntKind} {z : Int} {v : Value} : ∀ {es : List MapEntry}, intKeys k es → lookE es z = some v → ∃ e ∈ es, e.key = .int k z ∧ e.val = v
  | [], _, h => by cases h
  | e :: es, hk, h => by
    obtain ⟨a, ha⟩ := hk e (List.mem_cons_self ..)
    simp only [lookE, ha] at h
    split at h
    · rename_i hz; subst hz; cases h; exact ⟨e, List.mem_cons_self .., ha, rfl⟩
    · obtain ⟨e', h1, h2⟩ := lookE_some (fun x hx => hk x (List.mem_cons_of_mem _ hx)) h
      exact ⟨e', List.mem_cons_of_mem _ h1, h2⟩
theorem lookE_none {k : IntKind} {z : Int} : ∀ {es : List MapEntry}, intKeys k es → lookE es z = none → ∀ e ∈ es, e.key ≠ .int k z
  | [], _, _, e, he => by cases he
  | e :: es, hk, h, e', he => by
    obtain ⟨a, ha⟩ := hk e (List.mem_cons_self ..)
    simp only [lookE, ha] at h
    split at h
    · cases h
    · rename_i hz
      rcases List.mem_cons.1 he with rfl | he
      · rw [ha]; intro e; cases e; exact hz rfl
      · exact lookE_none (fun x hx => hk x (List.mem_cons_of_mem _ hx)) h e' he
theorem mp_fin {ml : ML} {N j b : Nat} {ob : Obj} (hok : mlOk N ml = true) (hf : FinO (entsOf (enOf ml) (fun _ => true) N j) (.map #[] 0) ob) : MP (blk b ob) b .i64 (fOf ml j) := by
  obtain ⟨es, clk, rfl, hp⟩ := hf
  simp only [List.map_nil, List.nil_append] at hp
  have hmem : ∀ kv v, (∃ e ∈ es.toList, e.key = kv ∧ e.val = v) ↔ ∃ z, kv = .int .i64 z ∧ fOf ml j z = some v := by
    intro kv v
    have h1 : (∃ e ∈ es.toList, e.key = kv ∧ e.val = v) ↔ (kv, v) ∈ es.toList.map fun e => (e.key, e.val) := by
      rw [List.mem_map]
      constructor
      · rintro ⟨e, he, rfl, rfl⟩; exact ⟨e, he, rfl⟩
      · rintro ⟨e, he, h⟩; cases h; exact ⟨e, he, rfl, rfl⟩
    rw [h1, hp.mem_iff, ents_mem]
    constructor
    · rintro ⟨k, hk, dd, h⟩
      obtain ⟨z, hm, rfl, rfl⟩ := (enOf_mem hok _ _ _ _ _).1 h
      exact ⟨z, rfl, (fOf_mem hok _ _ _).2 ⟨k, hm⟩⟩
    · rintro ⟨z, rfl, h⟩
      obtain ⟨k, hm⟩ := (fOf_mem hok _ _ _).1 h
      exact ⟨k, mlOk_lt hok _ hm, _, (enOf_mem hok _ _ _ _ _).2 ⟨z, hm, rfl, rfl⟩⟩
  have hik : intKeys .i64 es.toList := fun e he => by
    obtain ⟨z, h, -⟩ := (hmem e.key e.val).1 ⟨e, he, rfl, rfl⟩
    exact ⟨z, h⟩
  refine ⟨es, clk, rfl, hik, fun z => ?_⟩
  cases h : lookE es.toList z with
  | some v =>
    obtain ⟨e, he, h1, h2⟩ := lookE_some hik h
    obtain ⟨z', hz, hv⟩ := (hmem _ _).1 ⟨e, he, h1, h2⟩
    cases hz; exact hv.symm
  | none =>
    cases hv : fOf ml j z with
    | none => rfl
    | some v =>
      obtain ⟨e, he, h1, h2⟩ := (hmem _ _).2 ⟨z, rfl, hv⟩
      exact absurd h1 (lookE_none hik h e he)
theorem chu_rvm {i d : Nat} {vf : Nat → Value} (hi : all[i]? = some o) (hd : o.dst = some d) (ha : an i = some (vf, .map #[] 0)) (hvf : ∀ b, vf b = .map (some b)) (hok : mlOk all.size ml = true)
    (h : ∀ b hM, MP hM b .i64 (fOf ml i) → ChU P r F n all prot Q ds s ((d, .map (some b)) :: env) (hM :: own) an ml) : ChU P r F n all prot Q ds (.rv i :: s) env own an ml := by
  refine ⟨vf, _, ha, fun b ob' hf => ?_⟩
  have : extE all i (vf b) env = (d, .map (some b)) :: env := by simp only [extE, hi, Option.bind_some, hd, hvf]
  rw [this]; exact h b _ (mp_fin hok hf)
end
end Go.SL.DM
end
