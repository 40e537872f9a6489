/- The walk of a region that draws its order, in which entries are put into a new map in whatever order (made by mkS2.py out of S, X1, X2, X15). -/
import Derived.Test.YtimmclibnfdjhaaSlG8
import Derived.Test.YtimmclibnfdjhaaSlG4
section
set_option linter.unusedVariables false
namespace Go.SL.DM
open Go.SL
inductive Sg
  | q (l : List Nat)
  | f (l : List Nat)
  | r (l : List Nat)
  | an (i : Nat)
  | rv (i : Nat)
  | h (c : Bool) (m : Nat)
  | fi (i j : Nat)
def Sg.its : Sg → List It
  | .q l => l.map It.q
  | .f l => l.map It.f
  | .r l => l.map It.r
  | .an i => [.an i]
  | .rv i => [.rv i]
  | .h c m => [.h c m]
  | .fi i j => [.fi i j]
def allIts : List Sg → List It
  | [] => []
  | s :: r => s.its ++ allIts r
/-- Entries that are put: by which operation, into which map, under which number, what. -/
abbrev ML := List (Nat × Nat × Int × Value)
def enOf : ML → En
  | [] => fun _ => none
  | (i, j, z, v) :: r => putE (enOf r) i (j, .int .i64, .int .i64 z, v)
def ChU (P : Program) (r : Option Nat) (F : Heap) (n : Nat) (all : Array Oper) (prot : List Heap) (Q : SPost) (ds : List Deferred) : List Sg → Env → List Heap → An → ML → Prop
  | [], env, own, _, _ => Q .normal env own ds
  | .q l :: s, env, own, an, ml => QOps P F n all own (fun env' => ChU P r F n all prot Q ds s env' own an ml) l env
  | .f l :: s, env, own, an, ml => QOps P emp n all [] (fun env' => ChU P r F n all prot Q ds s env' own an ml) l env
  | .r l :: s, env, own, an, ml => QOps P F n all prot (fun env' => ChU P r F n all prot Q ds s env' own an ml) l env
  | .an i :: s, env, own, an, ml => ∃ o vf ob, all[i]? = some o ∧ wantedE all env o = some true ∧ NewOp P n o env vf ob ∧ ChU P r F n all prot Q ds s env own (putA an i (vf, ob)) ml
  | .rv i :: s, env, own, an, ml => ∃ vf ob, an i = some (vf, ob) ∧ ∀ b ob', FinO (entsOf (enOf ml) (fun _ => true) all.size i) ob ob' → ChU P r F n all prot Q ds s (extE all i (vf b) env) (blk b ob' :: own) an ml
  | .fi i j :: s, env, own, an, ml => ∃ z v, InsAt P all env an (enOf ml) i j (.int .i64) (.int .i64 z) v ∧ ChU P r F n all prot Q ds s env own an ((i, j, z, v) :: ml)
  | .h c m :: s, env, own, an, ml => ∃ o ownM ownC R, all[m]? = some o ∧ own.Perm (ownM ++ ownC) ∧ ((wantedE all env o = some true ∧ HOp P ownM n o env R) ∨ (wantedE all env o = some false ∧ plainOp o.op = true ∧ R undef ownM)) ∧
      (c = false → ∀ v own', R v own' → ∃ N, own'.Perm (ownM ++ N)) ∧ (c = true → ∃ Y, ownC.Perm (prot ++ Y)) ∧ ∀ v own', R v own' → ChU P r F n all prot Q ds s (extE all m v env) (own' ++ ownC) an ml
section
variable {P : Program} {r : Option Nat} {F : Heap} {n : Nat} {prot : List Heap} {Q : SPost} {env : Env} {own rest hs ownM ownC : List Heap} {ds : List Deferred} {all : Array Oper} {s : List Sg} {o : Oper} {id : Nat} {an : An} {ml : ML}
theorem new_of {vf : Nat → Value} {ob : Obj} (h : SL.NewOp P n o env vf ob) : NewOp P n o env vf ob := h
theorem new_makeMap {t : TypeId} (ho : o.op = .makeMap t none) : NewOp P n o env (fun b => .map (some b)) (.map #[] 0) :=
  ⟨by rw [ho]; rfl, fun _ => rfl, fun a w _ => by simp [execOp, ho, Instr.makeMap]⟩
theorem chain_q {K : Env → List Heap → Prop} {F1 : Heap} {own1 : List Heap} {it : Nat → It} {own : List Heap} {an : An} {en : En} (hit : ∀ i rr env o v, all[i]? = some o → condAt P F1 n all own1 env o v → Chain P F n all prot K rr (extE all i v env) own an en → Chain P F n all prot K (it i :: rr) env own an en)
    {rr : List It} : ∀ {l : List Nat} {env : Env}, QOps P F1 n all own1 (fun env' => Chain P F n all prot K rr env' own an en) l env → Chain P F n all prot K (l.map it ++ rr) env own an en := by
  intro l
  induction l with
  | nil => intro env h; exact h
  | cons i l ih =>
    intro env h
    simp only [QOps] at h
    obtain ⟨o, v, h1, h2, h3, h4⟩ := h
    refine hit i _ env o v h1 ⟨h2, h3⟩ (ih ?_)
    have : extE all i v env = (match o.dst with | some d => (d, v) :: env | none => env) := by simp only [extE, h1, Option.bind_some] <;> cases o.dst <;> rfl
    rw [this]; exact h4
theorem chain_of : ∀ {s : List Sg} {env : Env} {own : List Heap} {an : An} {ml : ML}, ChU P r F n all prot Q ds s env own an ml → Chain P F n all prot (fun env own => Q .normal env own ds) (allIts s) env own an (enOf ml) := by
  intro s
  induction s with
  | nil => intro env own an ml h; exact h
  | cons x s ih =>
    intro env own an ml h
    cases x with
    | q l => exact chain_q (it := It.q) (own1 := own) (F1 := F) (fun i rr env o v h1 h2 h3 => ⟨o, v, h1, h2, h3⟩) (qops_mono (fun env h => ih h) h)
    | f l => exact chain_q (it := It.f) (fun i rr env o v h1 h2 h3 => ⟨o, v, h1, h2, h3⟩) (qops_mono (fun env h => ih h) h)
    | r l => exact chain_q (it := It.r) (fun i rr env o v h1 h2 h3 => ⟨o, v, h1, h2, h3⟩) (qops_mono (fun env h => ih h) h)
    | an i =>
      obtain ⟨o, vf, ob, h1, h2, h3, h4⟩ := h
      exact ⟨o, vf, ob, h1, h2, h3, ih h4⟩
    | rv i =>
      obtain ⟨vf, ob, h1, h2⟩ := h
      exact ⟨vf, ob, h1, fun b ob' hf => ih (h2 b ob' hf)⟩
    | fi i j =>
      obtain ⟨z, v, h1, h2⟩ := h
      exact ⟨_, _, _, h1, ih h2⟩
    | h c m =>
      obtain ⟨o, ownM, ownC, R, h1, h2, h3, h5, h7, h6⟩ := h
      exact ⟨o, ownM, ownC, R, h1, h2, h3, h5, h7, fun v own' hR => ih (h6 v own' hR)⟩
theorem sl_drawM (s : List Sg) (prot : List Heap) [tp : TakeL own prot rest] {ops : Array Oper} (hok : dok ops = true) (hac : P.follows .mixedOrders = true) (hits : itsOk ops (allIts s) = true) (hdst : dstB ops n = true)
    (h : ChU P r F n ops prot Q ds s env own (fun _ => none) []) : SWP P r F n (.region id ops true) Q env own ds :=
  swp_drawM prot ⟨rest, tp.perm⟩ hok hac hits (dstB_spec hdst) (chain_of h)
theorem chu_nil (h : Q .normal env own ds) : ChU P r F n all prot Q ds [] env own an ml := h
theorem chu_q {l : List Nat} {A : List Oper} (hA : pickO all l = some A) (h : SOL true P r F n all A (Thn (fun env1 _ _ => ChU P r F n all prot Q ds s env1 own an ml) (fun _ _ _ _ => False)) env own ds) : ChU P r F n all prot Q ds (.q l :: s) env own an ml :=
  h l (pickO_eq hA)
theorem chu_f {l : List Nat} {A : List Oper} (hA : pickO all l = some A) (h : SOL true P r emp n all A (Thn (fun env1 _ _ => ChU P r F n all prot Q ds s env1 own an ml) (fun _ _ _ _ => False)) env [] ds) : ChU P r F n all prot Q ds (.f l :: s) env own an ml :=
  h l (pickO_eq hA)
theorem chu_r {l : List Nat} {A : List Oper} (hA : pickO all l = some A) (h : SOL true P r F n all A (Thn (fun env1 _ _ => ChU P r F n all prot Q ds s env1 own an ml) (fun _ _ _ _ => False)) env prot ds) : ChU P r F n all prot Q ds (.r l :: s) env own an ml :=
  h l (pickO_eq hA)
theorem chu_new {i : Nat} {vf : Nat → Value} {ob : Obj} (hi : all[i]? = some o) (hg : wantedE all env o = some true) (hn : NewOp P n o env vf ob) (h : ChU P r F n all prot Q ds s env own (putA an i (vf, ob)) ml) : ChU P r F n all prot Q ds (.an i :: s) env own an ml :=
  ⟨o, vf, ob, hi, hg, hn, h⟩
theorem chu_h {c : Bool} {m d : Nat} {R : Value → List Heap → Prop} (hi : all[m]? = some o) (hd : o.dst = some d) (hg : wantedE all env o = some true) [t : TakeL own hs rest] (hop : HOp P hs n o env R)
    (hgr : c = false → ∀ v own', R v own' → ∃ N, own'.Perm (hs ++ N)) (hpc : c = true → ∃ Y, rest.Perm (prot ++ Y)) (h : ∀ v own', R v own' → ∃ own2, appH own' rest = some own2 ∧ ChU P r F n all prot Q ds s ((d, v) :: env) own2 an ml) : ChU P r F n all prot Q ds (.h c m :: s) env own an ml := by
  refine ⟨o, hs, rest, R, hi, t.perm, .inl ⟨hg, hop⟩, hgr, hpc, fun v own' hR => ?_⟩
  obtain ⟨own2, e2, h2⟩ := h v own' hR
  have : extE all m v env = (d, v) :: env := by simp only [extE, hi, Option.bind_some, hd]
  rw [this, ← appH_eq e2]; exact h2
theorem chu_h0 {c : Bool} {m : Nat} {R : Value → List Heap → Prop} (hi : all[m]? = some o) (hd : o.dst = none) (hg : wantedE all env o = some true) [t : TakeL own hs rest] (hop : HOp P hs n o env R)
    (hgr : c = false → ∀ v own', R v own' → ∃ N, own'.Perm (hs ++ N)) (hpc : c = true → ∃ Y, rest.Perm (prot ++ Y)) (h : ∀ v own', R v own' → ∃ own2, appH own' rest = some own2 ∧ ChU P r F n all prot Q ds s env own2 an ml) : ChU P r F n all prot Q ds (.h c m :: s) env own an ml := by
  refine ⟨o, hs, rest, R, hi, t.perm, .inl ⟨hg, hop⟩, hgr, hpc, fun v own' hR => ?_⟩
  obtain ⟨own2, e2, h2⟩ := h v own' hR
  have : extE all m v env = env := by simp only [extE, hi, Option.bind_some, hd]
  rw [this, ← appH_eq e2]; exact h2
/-- A guarded operation that is not carried out, where a heavy one was looked for. -/
theorem chu_pass {c : Bool} {m d : Nat} [tp : TakeL own prot rest] (hi : all[m]? = some o) (hd : o.dst = some d) (hg : wantedE all env o = some false) (hp : plainOp o.op = true) (h : ChU P r F n all prot Q ds s ((d, undef) :: env) own an ml) : ChU P r F n all prot Q ds (.h c m :: s) env own an ml := by
  refine ⟨o, [], own, fun v own' => v = undef ∧ own' = [], hi, List.Perm.refl _, .inr ⟨hg, hp, rfl, rfl⟩, ?_, fun _ => ⟨rest, tp.perm⟩, ?_⟩
  · rintro - v own' ⟨rfl, rfl⟩; exact ⟨[], List.Perm.refl _⟩
  · rintro v own' ⟨rfl, rfl⟩
    have : extE all m undef env = (d, undef) :: env := by simp only [extE, hi, Option.bind_some, hd]
    rw [this]; exact h
theorem chu_P {m d : Nat} {cl : Call} {x : Operand} {f : FuncId} {first captured : Array Value} {vs vall : List Value} {v : Value} [Enters P f]
    (hi : all[m]? = some o) (hd : o.dst = some d) (hg : wantedE all env o = some true) [t : TakeL own hs rest]
    (ho : o.op = .call cl) (hc : cl.callee = .value x) (hx : ev env x = some (.func (.func f) first captured)) (hvs : evs env cl.args.toList = some vs)
    (hall : appO first.toList vs captured.toList = some vall) (hp : PFn P f vall hs v) {own2 : List Heap} (h2 : appH hs rest = some own2) (h : ChU P r F n all prot Q ds s ((d, v) :: env) own2 an ml) : ChU P r F n all prot Q ds (.h false m :: s) env own an ml :=
  chu_h hi hd hg (hop_P ho hc hx hvs hall hp) (fun _ v own' hR => ⟨[], by rw [hR.2]; simp⟩) (fun h => by cases h) fun v' own' hR => by
    obtain ⟨rfl, rfl⟩ := hR; exact ⟨own2, h2, h⟩
theorem chu_Pif {m d : Nat} {cl : Call} {x : Operand} {f : FuncId} {first captured : Array Value} {vs vall : List Value} {p : Prop} [Decidable p] [Enters P f]
    (hi : all[m]? = some o) (hd : o.dst = some d) (hg : wantedE all env o = some true) [t : TakeL own hs rest]
    (ho : o.op = .call cl) (hc : cl.callee = .value x) (hx : ev env x = some (.func (.func f) first captured)) (hvs : evs env cl.args.toList = some vs)
    (hall : appO first.toList vs captured.toList = some vall) (hp : PFn P f vall hs (.bool (decide p))) {own2 : List Heap} (h2 : appH hs rest = some own2)
    (h : p → ChU P r F n all prot Q ds s ((d, .bool true) :: env) own2 an ml) (h' : ¬ p → ChU P r F n all prot Q ds s ((d, .bool false) :: env) own2 an ml) : ChU P r F n all prot Q ds (.h false m :: s) env own an ml := by
  by_cases hpp : p
  · exact chu_P hi hd hg ho hc hx hvs hall hp h2 (by rw [decide_eq_true hpp]; exact h hpp)
  · exact chu_P hi hd hg ho hc hx hvs hall hp h2 (by rw [decide_eq_false hpp]; exact h' hpp)
theorem chu_Py {m d : Nat} {cl : Call} {x : Operand} {f : FuncId} {first captured : Array Value} {vs vall : List Value} {p : Prop} [Decidable p] [Enters P f]
    (hi : all[m]? = some o) (hd : o.dst = some d) (hg : wantedE all env o = some true) [t : TakeL own hs rest]
    (ho : o.op = .call cl) (hc : cl.callee = .value x) (hx : ev env x = some (.func (.func f) first captured)) (hvs : evs env cl.args.toList = some vs)
    (hall : appO first.toList vs captured.toList = some vall) (hp : PFn P f vall hs (.bool (decide p))) {own2 : List Heap} (h2 : appH hs rest = some own2) (hpp : p)
    (h : ChU P r F n all prot Q ds s ((d, .bool true) :: env) own2 an ml) : ChU P r F n all prot Q ds (.h false m :: s) env own an ml :=
  chu_P hi hd hg ho hc hx hvs hall hp h2 (by rw [decide_eq_true hpp]; exact h)
theorem chu_Pn {m d : Nat} {cl : Call} {x : Operand} {f : FuncId} {first captured : Array Value} {vs vall : List Value} {p : Prop} [Decidable p] [Enters P f]
    (hi : all[m]? = some o) (hd : o.dst = some d) (hg : wantedE all env o = some true) [t : TakeL own hs rest]
    (ho : o.op = .call cl) (hc : cl.callee = .value x) (hx : ev env x = some (.func (.func f) first captured)) (hvs : evs env cl.args.toList = some vs)
    (hall : appO first.toList vs captured.toList = some vall) (hp : PFn P f vall hs (.bool (decide p))) {own2 : List Heap} (h2 : appH hs rest = some own2) (hpp : ¬ p)
    (h : ChU P r F n all prot Q ds s ((d, .bool false) :: env) own2 an ml) : ChU P r F n all prot Q ds (.h false m :: s) env own an ml :=
  chu_P hi hd hg ho hc hx hvs hall hp h2 (by rw [decide_eq_false hpp]; exact h)
theorem chu_T {m d : Nat} {cl : Call} {x : Operand} {f : FuncId} {first captured : Array Value} {vs vall : List Value} {R : Ending → List Heap → Prop} [Enters P f]
    (hi : all[m]? = some o) (hd : o.dst = some d) (hg : wantedE all env o = some true) [t : TakeL own hs rest]
    (ho : o.op = .call cl) (hc : cl.callee = .value x) (hx : ev env x = some (.func (.func f) first captured)) (hvs : evs env cl.args.toList = some vs)
    (hall : appO first.toList vs captured.toList = some vall) (hp : T P f vall hs R) (hgr : ∀ (e : Ending) (own' : List Heap), R e own' → ∃ N, own' = hs ++ N)
    (h : ∀ (e : Ending) (own' : List Heap), R e own' → ∃ v own2, e = .returned v ∧ appH own' rest = some own2 ∧ ChU P r F n all prot Q ds s ((d, v) :: env) own2 an ml) : ChU P r F n all prot Q ds (.h false m :: s) env own an ml :=
  chu_h hi hd hg (hop_T ho hc hx hvs hall hp fun e own' hR => by obtain ⟨v, _, h1, _⟩ := h e own' hR; exact ⟨v, h1⟩)
    (fun _ v own' hR => by obtain ⟨N, rfl⟩ := hgr _ _ hR; exact ⟨N, List.Perm.refl _⟩) (fun h => by cases h) fun v own' hR => by
    obtain ⟨v', own2, h1, h2, h3⟩ := h _ own' hR
    cases h1; exact ⟨own2, h2, h3⟩
theorem chu_store {m : Nat} {t T : TypeId} {x y : Operand} {b off : Nat} {v : Value} {cs vs cs' : List Value} {d : TypeDesc} {z : Value} {ti : TypeInfo} [ty : Ty P t d z ti]
    (hi : all[m]? = some o) (hd : o.dst = none) (hg : wantedE all env o = some true) (ho : o.op = .store t x y) (hx : ev env x = some (.pointer (some ⟨b, off, none⟩))) (hy : ev env y = some v)
    (hv : cellsO v = some vs) (hsz : vs.length = ti.size) (h1 : vs.all (·.oneCell') = true) [at_ : At own b (.cells ⟨cs⟩ T (0, 0))] (hc : spliceO cs off vs = some cs') [tk : TakeL own [blk b (.cells ⟨cs⟩ T (0, 0))] rest] {rest2 : List Heap} [tp : TakeL rest prot rest2]
    (h : ChU P r F n all prot Q ds s env (blk b (.cells ⟨cs'⟩ T (0, 0)) :: rest) an ml) : ChU P r F n all prot Q ds (.h true m :: s) env own an ml :=
  chu_h0 hi hd hg (hop_store ho hx hy hv hsz h1 hc) grow_c (fun _ => ⟨rest2, tp.perm⟩) fun v' own' hR => by
    subst hR; exact ⟨_, rfl, h⟩
theorem chu_append {m : Nat} {t e : TypeId} {sz bytes : Nat} {cl : Call} {x y : Operand} {hh hn : Heap} {base : Option Addr} {len cap mm mc d : Nat} {cs news : List Value} {a : Addr} [g : TyG P t e sz bytes]
    (hi : all[m]? = some o) (hd : o.dst = some d) (hg : wantedE all env o = some true)
    (ho : o.op = .call cl) (hc : cl.callee = .builtin .append) (hax : cl.args = #[x, y]) (hat : cl.argTypes = #[t, t])
    (hx : ev env x = some (.slice base len cap)) (hy : ev env y = some (.slice (some a) mm mc)) [sa : SlAt own (some a) hn news] (os : OS hh base len cap e sz cs) [tk : TakeL own [hh, hn] rest] {rest2 : List Heap} [tp : TakeL rest prot rest2]
    (hm : 0 < mm) (hnl : news.length = mm * sz) (hpos : 0 < sz) (h1 : news.all (·.oneCell') = true) (hroom : (len + mm) * bytes ≤ 70368744177664) (hlen : len + mm ≤ 70368744177664)
    (h : ∀ h' base' cap', OS h' base' (len + mm) cap' e sz (cs ++ news) → ChU P r F n all prot Q ds s ((d, .slice base' (len + mm) cap') :: env) (h' :: hn :: rest) an ml) : ChU P r F n all prot Q ds (.h true m :: s) env own an ml :=
  chu_h hi hd hg (hop_append ho hc hax hat hx hy sa.sl os hm hnl hpos h1 hroom hlen) grow_c (fun _ => ⟨rest2, tp.perm⟩) fun v own' hR => by
    obtain ⟨h', b', c', rfl, rfl, os'⟩ := hR; exact ⟨_, rfl, h h' b' c' os'⟩
theorem chu_callW {m d : Nat} {cl : Call} {x : Operand} {f : FuncId} {first captured : Array Value} {vs vall : List Value} {R : Ending → List Heap → Prop} [Enters P f]
    (hi : all[m]? = some o) (hd : o.dst = some d) (hg : wantedE all env o = some true)
    (ho : o.op = .call cl) (hc : cl.callee = .value x) (hx : ev env x = some (.func (.func f) first captured)) (hvs : evs env cl.args.toList = some vs)
    (hall : appO first.toList vs captured.toList = some vall) (hp : T P f vall own fun e o => ∃ N, o = own ++ N ∧ R e N)
    (h : ∀ (e : Ending) (N : List Heap), R e N → ∃ v own2, e = .returned v ∧ appH own N = some own2 ∧ ChU P r F n all prot Q ds s ((d, v) :: env) own2 an ml) : ChU P r F n all prot Q ds (.h false m :: s) env own an ml := by
  haveI : TakeL own own [] := ⟨by simp⟩
  refine chu_T hi hd hg ho hc hx hvs hall hp (fun e o ⟨N, h1, _⟩ => ⟨N, h1⟩) fun e o hR => ?_
  obtain ⟨N, rfl, hR⟩ := hR
  obtain ⟨v, own2, h1, h2, h3⟩ := h e N hR
  exact ⟨v, own2, h1, by rw [appH_nil, appH_eq h2], h3⟩
theorem chu_storeE {m : Nat} {t T : TypeId} {x y : Operand} {base : Option Addr} {k len cap sz : Nat} {h : Heap} {v : Value} {cs vs cs' : List Value} {d : TypeDesc} {z : Value} {ti : TypeInfo} [ty : Ty P t d z ti]
    (hi : all[m]? = some o) (hd : o.dst = none) (hg : wantedE all env o = some true) (ho : o.op = .store t x y) (hx : ev env x = some (ept base k)) (hy : ev env y = some v) (os : OS h base len cap T sz cs) [tk : TakeL own [h] rest] {rest2 : List Heap} [tp : TakeL rest prot rest2]
    (hv : cellsO v = some vs) (hsz : vs.length = ti.size) (h1 : vs.all (·.oneCell') = true) (hpos : 0 < vs.length) (hk : k + vs.length ≤ cs.length) (hc : cs.take k ++ vs ++ cs.drop (k + vs.length) = cs')
    (next : ∀ h', OS h' base len cap T sz cs' → ChU P r F n all prot Q ds s env (h' :: rest) an ml) : ChU P r F n all prot Q ds (.h true m :: s) env own an ml :=
  chu_h0 hi hd hg (hop_storeE os ho hx hy hv hsz h1 hpos hk hc.symm) grow_c (fun _ => ⟨rest2, tp.perm⟩) fun v' own' hR => by
    obtain ⟨h', rfl, os'⟩ := hR; exact ⟨_, rfl, next h' os'⟩
theorem chu_PW {m d : Nat} {cl : Call} {x : Operand} {f : FuncId} {first captured : Array Value} {vs vall : List Value} {v : Value} [Enters P f]
    (hi : all[m]? = some o) (hd : o.dst = some d) (hg : wantedE all env o = some true)
    (ho : o.op = .call cl) (hc : cl.callee = .value x) (hx : ev env x = some (.func (.func f) first captured)) (hvs : evs env cl.args.toList = some vs)
    (hall : appO first.toList vs captured.toList = some vall) (hp : PFn P f vall own v) (h : ChU P r F n all prot Q ds s ((d, v) :: env) own an ml) : ChU P r F n all prot Q ds (.h false m :: s) env own an ml := by
  haveI : TakeL own own [] := ⟨by simp⟩
  exact chu_P hi hd hg ho hc hx hvs hall hp appH_nil h
theorem chu_appendK {cb : Bool} {m : Nat} {t e : TypeId} {sz bytes : Nat} {cl : Call} {x y : Operand} {K : Heap} {base yb : Option Addr} {len mm mc d : Nat} {cs news : List Value} [g : TyG P t e sz bytes]
    (hi : all[m]? = some o) (hd : o.dst = some d) (hg : wantedE all env o = some true)
    (ho : o.op = .call cl) (hc : cl.callee = .builtin .append) (hax : cl.args = #[x, y]) (hat : cl.argTypes = #[t, t])
    (hx : ev env x = some (.slice base len len)) (hy : ev env y = some (.slice yb mm mc)) (sb : Sl K base cs) (sa : Sl K yb news) [tk : TakeL own [K] rest] {rest2 : List Heap} [tp : TakeL rest prot rest2]
    (hcl : cs.length = len * sz) (hnl : news.length = mm * sz) (hpos : 0 < sz) (hroom : (len + mm) * bytes ≤ 35184372088832) (hlen : len + mm ≤ 35184372088832)
    (h : ∀ h' base' cap', SlIn [h', K] base' (cs ++ news) → ChU P r F n all prot Q ds s ((d, .slice base' (len + mm) cap') :: env) (h' :: K :: rest) an ml) : ChU P r F n all prot Q ds (.h cb m :: s) env own an ml :=
  chu_h hi hd hg (hop_appendK ho hc hax hat hx hy sb sa hcl hnl hpos hroom hlen) (fun _ v own' hR => by
    obtain ⟨h', b', c', rfl, rfl, os'⟩ := hR
    exact ⟨[h'], List.Perm.swap _ _ _⟩) (fun _ => ⟨rest2, tp.perm⟩) fun v own' hR => by
    obtain ⟨h', b', c', rfl, rfl, os'⟩ := hR; exact ⟨_, rfl, h h' b' c' os'⟩
theorem chu_rv {i d : Nat} {vf : Nat → Value} {ob : Obj} (hi : all[i]? = some o) (hd : o.dst = some d) (ha : an i = some (vf, ob)) (hm : ∀ ents o', FinO ents ob o' → o' = ob) (h : ∀ b, ChU P r F n all prot Q ds s ((d, vf b) :: env) (blk b ob :: own) an ml) : ChU P r F n all prot Q ds (.rv i :: s) env own an ml := by
  refine ⟨vf, ob, ha, fun b ob' hf => ?_⟩
  have : extE all i (vf b) env = (d, vf b) :: env := by simp only [extE, hi, Option.bind_some, hd]
  rw [this, hm _ _ hf]; exact h b
theorem chu_fi {i j d : Nat} {t kt et : TypeId} {k x : Operand} {z : Int} {v zm zk : Value} {im ik : TypeInfo} {vf : Nat → Value} [h1 : Ty P t (.map kt et) zm im] [h2 : Ty P kt (.int .i64) zk ik]
    (hi : all[i]? = some o) (ho : o.op = .insert t (.tmp d) k x) (hd : o.dst = none) (hg : o.guard = none) (hj : (all[j]?).bind (·.dst) = some d) (hone : (all.toList.zipIdx.all fun p => !(p.1.dst == some d) || Nat.beq p.2 j) = true)
    (hk : k ≠ .tmp d) (hx : x ≠ .tmp d) (ek : ev env k = some (.int .i64 z)) (ex : ev env x = some v) (ha : an j = some (vf, .map #[] 0)) (hvf : ∀ b, vf b = .map (some b)) (hnew : (ml.all fun p => !(p.2.2.1 == z)) = true)
    (h : ChU P r F n all prot Q ds s env own an ((i, j, z, v) :: ml)) : ChU P r F n all prot Q ds (.fi i j :: s) env own an ml := by
  refine ⟨z, v, ⟨o, t, d, k, x, kt, et, vf, hi, ho, hd, hg, hj, ?_, hk, hx, ek, ex, h1.u, h2.u, fun w => run_checkInt h2.u false w, ha, hvf, ?_⟩, h⟩
  · intro l hl
    cases hl' : all[l]? with
    | none => rw [hl'] at hl; cases hl
    | some o' =>
      rw [hl'] at hl
      simp only [Option.bind_some] at hl
      have hm : (o', l) ∈ all.toList.zipIdx := by
        rw [List.mem_zipIdx_iff_getElem?]
        simpa using hl'
      have := List.all_eq_true.1 hone _ hm
      simp only [hl, beq_self_eq_true, Bool.not_true, Bool.false_or] at this
      exact Nat.eq_of_beq_eq_true this
  · intro l dd' kv' xv' hl
    have aux : ∀ (ml : ML), (ml.all fun p => !(p.2.2.1 == z)) = true → enOf ml l = some (j, dd', kv', xv') → ∃ z', z' ≠ z ∧ dd' = .int .i64 ∧ kv' = .int .i64 z' := by
      intro ml
      induction ml with
      | nil => intro _ h; cases h
      | cons p ml ih =>
        obtain ⟨i', j', z', v'⟩ := p
        intro hall h
        simp only [List.all_cons, Bool.and_eq_true, Bool.not_eq_true', beq_eq_false_iff_ne] at hall
        simp only [enOf, putE] at h
        split at h
        · simp only [Option.some.injEq, Prod.mk.injEq] at h
          obtain ⟨-, rfl, rfl, rfl⟩ := h
          exact ⟨z', hall.1, rfl, rfl⟩
        · exact ih hall.2 h
    obtain ⟨z', hz, rfl, rfl⟩ := aux ml hnew hl
    constructor <;> simp [Instr.sameNow, hz, Ne.symm hz]
/-- What has been put, number by number. -/
def fOf : ML → Nat → Int → Option Value
  | [], _, _ => none
  | (_, j, z, v) :: r, m, y => if j = m then (if y = z then some v else fOf r m y) else fOf r m y
def mlOk (N : Nat) : ML → Bool
  | [] => true
  | (i, j, z, _) :: r => Nat.blt i N && (r.all fun p => !Nat.beq p.1 i) && (r.all fun p => !Nat.beq p.2.1 j || !(p.2.2.1 == z)) && mlOk N r
theorem enOf_mem {N : Nat} : ∀ {ml : ML}, mlOk N ml = true → ∀ k j dd kv v, enOf ml k = some (j, dd, kv, v) ↔ ∃ z, (k, j, z, v) ∈ ml ∧ dd = .int .i64 ∧ kv = .int .i64 z
  | [], _, k, j, dd, kv, v => by simp [enOf]
  | (i, j', z', v') :: r, h, k, j, dd, kv, v => by
    simp only [mlOk, Bool.and_eq_true] at h
    obtain ⟨⟨⟨-, h2⟩, -⟩, h4⟩ := h
    have ih := enOf_mem h4 k j dd kv v
    simp only [enOf, putE]
    by_cases e : k = i
    · subst e
      rw [if_pos rfl]
      constructor
      · intro h
        simp only [Option.some.injEq, Prod.mk.injEq] at h
        obtain ⟨rfl, rfl, rfl, rfl⟩ := h
        exact ⟨z', List.mem_cons_self .., rfl, rfl⟩
      · rintro ⟨z, hm, rfl, rfl⟩
        rcases List.mem_cons.1 hm with hm | hm
        · simp only [Prod.mk.injEq, true_and] at hm
          obtain ⟨rfl, rfl, rfl⟩ := hm; rfl
        · have := List.all_eq_true.1 h2 _ hm
          simp at this
    · rw [if_neg e, ih]
      constructor
      · rintro ⟨z, hm, h1⟩; exact ⟨z, List.mem_cons_of_mem _ hm, h1⟩
      · rintro ⟨z, hm, h1⟩
        rcases List.mem_cons.1 hm with hm | hm
        · simp only [Prod.mk.injEq] at hm; exact absurd hm.1 e
        · exact ⟨z, hm, h1⟩
theorem mlOk_lt {N : Nat} : ∀ {ml : ML}, mlOk N ml = true → ∀ p ∈ ml, p.1 < N
  | [], _, p, hp => by cases hp
  | (i, j', z', v') :: r, h, p, hp => by
    simp only [mlOk, Bool.and_eq_true] at h
    rcases List.mem_cons.1 hp with rfl | hp
    · exact Nat.le_of_ble_eq_true h.1.1.1
    · exact mlOk_lt h.2 p hp
theorem fOf_mem {N : Nat} : ∀ {ml : ML}, mlOk N ml = true → ∀ j z v, fOf ml j z = some v ↔ ∃ k, (k, j, z, v) ∈ ml
  | [], _, j, z, v => by simp [fOf]
  | (i, j', z', v') :: r, h, j, z, v => by
    simp only [mlOk, Bool.and_eq_true] at h
    obtain ⟨⟨-, h3⟩, h4⟩ := h
    have ih := fOf_mem h4 j z v
    have hno : ∀ k u, (k, j', z', u) ∈ r → False := fun k u hm => by
      have := List.all_eq_true.1 h3 _ hm
      simp at this
    simp only [fOf]
    by_cases e : j' = j
    · subst e
      rw [if_pos rfl]
      by_cases e2 : z = z'
      · subst e2
        rw [if_pos rfl]
        constructor
        · intro h; cases h; exact ⟨i, List.mem_cons_self ..⟩
        · rintro ⟨k, hm⟩
          rcases List.mem_cons.1 hm with hm | hm
          · simp only [Prod.mk.injEq, true_and] at hm; rw [hm.2]
          · exact (hno k v hm).elim
      · rw [if_neg e2, ih]
        constructor
        · rintro ⟨k, hm⟩; exact ⟨k, List.mem_cons_of_mem _ hm⟩
        · rintro ⟨k, hm⟩
          rcases List.mem_cons.1 hm with hm | hm
          · simp only [Prod.mk.injEq, true_and] at hm; exact absurd hm.2.1 e2
          · exact ⟨k, hm⟩
    · rw [if_neg e, ih]
      constructor
      · rintro ⟨k, hm⟩; exact ⟨k, List.mem_cons_of_mem _ hm⟩
      · rintro ⟨k, hm⟩
        rcases List.mem_cons.1 hm with hm | hm
        · simp only [Prod.mk.injEq] at hm; exact absurd hm.2.1.symm e
        · exact ⟨k, hm⟩
theorem ents_mem {en : En} {N j : Nat} {kv xv : Value} : (kv, xv) ∈ entsOf en (fun _ => true) N j ↔ ∃ k, k < N ∧ ∃ dd, en k = some (j, dd, kv, xv) := by
  unfold entsOf
  rw [List.mem_filterMap]
  constructor
  · rintro ⟨k, hk, h⟩
    refine ⟨k, List.mem_range.1 hk, ?_⟩
    cases e : en k with
    | none => rw [e] at h; cases h
    | some q =>
      obtain ⟨j', dd, kv', xv'⟩ := q
      rw [e] at h
      simp only at h
      split at h
      · rename_i hj; subst hj; cases h; exact ⟨dd, rfl⟩
      · cases h
  · rintro ⟨k, hk, dd, h⟩
    exact ⟨k, List.mem_range.2 hk, by rw [h]; simp⟩
theorem lookE_some {k : IntKind} {z : Int} {v : Value} : ∀ {es : List MapEntry}, intKeys k es → lookE es z = some v → ∃ e ∈ es, e.key = .int k z ∧ e.val = v
  | [], _, h => by cases h
  | e :: es, hk, h => by
    obtain ⟨a, ha⟩ := hk e (List.mem_cons_self ..)
    simp only [lookE, ha] at h
    split at h
    · rename_i hz; subst hz; cases h; exact ⟨e, List.mem_cons_self .., ha, rfl⟩
    · obtain ⟨e', h1, h2⟩ := lookE_some (fun x hx => hk x (List.mem_cons_of_mem _ hx)) h
      exact ⟨e', List.mem_cons_of_mem _ h1, h2⟩
theorem lookE_none {k : IntKind} {z : Int} : ∀ {es : List MapEntry}, intKeys k es → lookE es z = none → ∀ e ∈ es, e.key ≠ .int k z
  | [], _, _, e, he => by cases he
  | e :: es, hk, h, e', he => by
    obtain ⟨a, ha⟩ := hk e (List.mem_cons_self ..)
    simp only [lookE, ha] at h
    split at h
    · cases h
    · rename_i hz
      rcases List.mem_cons.1 he with rfl | he
      · rw [ha]; intro e; cases e; exact hz rfl
      · exact lookE_none (fun x hx => hk x (List.mem_cons_of_mem _ hx)) h e' he
theorem mp_fin {ml : ML} {N j b : Nat} {ob : Obj} (hok : mlOk N ml = true) (hf : FinO (entsOf (enOf ml) (fun _ => true) N j) (.map #[] 0) ob) : MP (blk b ob) b .i64 (fOf ml j) := by
  obtain ⟨es, clk, rfl, hp⟩ := hf
  simp only [List.map_nil, List.nil_append] at hp
  have hmem : ∀ kv v, (∃ e ∈ es.toList, e.key = kv ∧ e.val = v) ↔ ∃ z, kv = .int .i64 z ∧ fOf ml j z = some v := by
    intro kv v
    have h1 : (∃ e ∈ es.toList, e.key = kv ∧ e.val = v) ↔ (kv, v) ∈ es.toList.map fun e => (e.key, e.val) := by
      rw [List.mem_map]
      constructor
      · rintro ⟨e, he, rfl, rfl⟩; exact ⟨e, he, rfl⟩
      · rintro ⟨e, he, h⟩; cases h; exact ⟨e, he, rfl, rfl⟩
    rw [h1, hp.mem_iff, ents_mem]
    constructor
    · rintro ⟨k, hk, dd, h⟩
      obtain ⟨z, hm, rfl, rfl⟩ := (enOf_mem hok _ _ _ _ _).1 h
      exact ⟨z, rfl, (fOf_mem hok _ _ _).2 ⟨k, hm⟩⟩
    · rintro ⟨z, rfl, h⟩
      obtain ⟨k, hm⟩ := (fOf_mem hok _ _ _).1 h
      exact ⟨k, mlOk_lt hok _ hm, _, (enOf_mem hok _ _ _ _ _).2 ⟨z, hm, rfl, rfl⟩⟩
  have hik : intKeys .i64 es.toList := fun e he => by
    obtain ⟨z, h, -⟩ := (hmem e.key e.val).1 ⟨e, he, rfl, rfl⟩
    exact ⟨z, h⟩
  refine ⟨es, clk, rfl, hik, fun z => ?_⟩
  cases h : lookE es.toList z with
  | some v =>
    obtain ⟨e, he, h1, h2⟩ := lookE_some hik h
    obtain ⟨z', hz, hv⟩ := (hmem _ _).1 ⟨e, he, h1, h2⟩
    cases hz; exact hv.symm
  | none =>
    cases hv : fOf ml j z with
    | none => rfl
    | some v =>
      obtain ⟨e, he, h1, h2⟩ := (hmem _ _).2 ⟨z, rfl, hv⟩
      exact absurd h1 (lookE_none hik h e he)
theorem chu_rvm {i d : Nat} {vf : Nat → Value} (hi : all[i]? = some o) (hd : o.dst = some d) (ha : an i = some (vf, .map #[] 0)) (hvf : ∀ b, vf b = .map (some b)) (hok : mlOk all.size ml = true)
    (h : ∀ b hM, MP hM b .i64 (fOf ml i) → ChU P r F n all prot Q ds s ((d, .map (some b)) :: env) (hM :: own) an ml) : ChU P r F n all prot Q ds (.rv i :: s) env own an ml := by
  refine ⟨vf, _, ha, fun b ob' hf => ?_⟩
  have : extE all i (vf b) env = (d, .map (some b)) :: env := by simp only [extE, hi, Option.bind_some, hd, hvf]
  rw [this]; exact h b _ (mp_fin hok hf)
end
end Go.SL.DM
end
section
/- Blocks within a heap that turn; pointers that are nil, and such that are not. -/
namespace Go.SL
/-- A heap in which one block turned. -/
def updB (h : Heap) (b : Nat) (o : Obj) : Heap := fun k => match k with
  | .b n => if n = b then some (.o o) else h (.b n)
  | k => h k
theorem updB_self (h : Heap) (b : Nat) (o : Obj) : updB h b o (.b b) = some (.o o) := by simp [updB]
theorem updB_ne {h : Heap} {b c : Nat} {o : Obj} (e : c ≠ b) : updB h b o (.b c) = h (.b c) := by simp [updB, e]
instance InH.upd {h : Heap} {b : Nat} {o : Obj} : InH (updB h b o) b o := ⟨updB_self h b o⟩
theorem InH.upd_ne {h : Heap} {b c : Nat} {o o' : Obj} (i : InH h c o') (e : c ≠ b) : InH (updB h b o) c o' := ⟨by rw [updB_ne e]; exact i.eq⟩
theorem Sat.setU {h : Heap} {hs : List Heap} {w w' : World} {b : Nat} {o o' : Obj} (s : Sat (h :: hs) w) (hin : h (.b b) = some (.o o)) (hb' : w'.heap[b]? = some o') (h1 : w'.os = w.os) (h2 : w'.output = w.output) (h3 : ∀ k, k ≠ b → w'.heap[k]? = w.heap[k]?)
    (h4 : ∀ off, fzo o' off = fzo o off) : Sat (updB h b o' :: hs) w' := by
  have hb : w.heap[b]? = some o := wh_b.1 (s.le _ (List.mem_cons_self ..) _ _ hin)
  have h4' : ∀ off, w'.frozen? ⟨b, off, none⟩ = w.frozen? ⟨b, off, none⟩ := fun off => by rw [frozen_at hb', frozen_at hb, h4]
  have kb := wh_but (size_same fun k => by
    by_cases e : k = b
    · rw [e, hb', hb]; rfl
    · rw [h3 k e]) h1 h2 h3 h4'
  refine s.upd (fun k u hk => ?_) (fun k u hk hu => ?_) (fun k u hk => ?_)
  · by_cases e : k = .b b
    · subst e
      rw [updB_self] at hk; cases hk
      exact wh_b.2 hb'
    · rw [kb k e]
      refine s.le _ (List.mem_cons_self ..) _ _ ?_
      cases k with
      | b n => rwa [updB_ne (fun e' => e (by rw [e']))] at hk
      | os => exact hk
      | fz n => exact hk
  · rw [kb k (fun e => by subst e; rw [hin] at hk; cases hk)]; exact hu
  · cases k with
    | b n =>
      by_cases e : n = b
      · subst e; exact .inr ⟨_, hin⟩
      · rw [updB_ne e] at hk; exact .inr ⟨_, hk⟩
    | os => exact .inr ⟨_, hk⟩
    | fz n => exact .inr ⟨_, hk⟩
theorem hop_storeU {P : Program} {n : Nat} {o : Oper} {env : Env} {t T : TypeId} {x y : Operand} {b off : Nat} {h : Heap} {v : Value} {cs vs cs' : List Value} {d : TypeDesc} {z : Value} {ti : TypeInfo} [ty : Ty P t d z ti]
    (hin : InH h b (.cells ⟨cs⟩ T (0, 0))) (ho : o.op = .store t x y) (hx : ev env x = some (.pointer (some ⟨b, off, none⟩))) (hy : ev env y = some v)
    (hv : cellsO v = some vs) (hsz : vs.length = ti.size) (h1 : vs.all (·.oneCell') = true) (hc : spliceO cs off vs = some cs') :
    HOp P [h] n o env fun _ own' => own' = [updB h b (.cells ⟨cs'⟩ T (0, 0))] := by
  refine ⟨by rw [ho]; rfl, fun a w X ha hs => ?_⟩
  obtain ⟨g1, g2⟩ := spliceO_eq hc
  have s1 : Sat (h :: X) w := by simpa using hs
  have hb : w.heap[b]? = some (.cells ⟨cs⟩ T (0, 0)) := s1.at (List.mem_cons_self ..) hin.eq
  have hst := run_storeCells_at P b off T vs 0 ⟨cs⟩ w hb (by simpa using g2) (by simpa using h1)
  have hrow : ((⟨cs⟩ : Array Value).toList.take (off + 0) ++ vs ++ (⟨cs⟩ : Array Value).toList.drop (off + 0 + vs.length)).toArray = ⟨cs'⟩ := by rw [g1]; rfl
  rw [hrow] at hst
  have hc' := cellsO_eq hv
  have hrun : (execOp a.eval o).run P w = .ok .skip (w.setRow b ⟨cs'⟩) := by
    simp [execOp, ho, Instr.storeAt, ha.eval hx, ha.eval hy, Instr.sureAddr, storeVar, run_size ty.i, hc', hsz, hst]
  refine ⟨w.setRow b ⟨cs'⟩, .inr (.inl ⟨_, hrun, ?_, rfl⟩)⟩
  have s2 := s1.setU hin.eq (setRow_heap w b _ ⟨cs'⟩ T (0, 0) hb) (by rfl) (by rfl) (fun k hk => setRow_other w b k _ hk) (fun _ => rfl)
  simpa using s2
section
variable {P : Program} {r : Option Nat} {F : Heap} {n : Nat} {Q : SPost} {env : Env} {own rest hs prot : List Heap} {ds : List Deferred} {all : Array Oper} {l : List Oper} {o : Oper} {s : List Sg} {an : An}
theorem sl_storeU {t T : TypeId} {x y : Operand} {b off : Nat} {h : Heap} {v : Value} {cs vs cs' : List Value} {d : TypeDesc} {z : Value} {ti : TypeInfo} [ty : Ty P t d z ti]
    (hd : o.dst = none) (hg : wantedE all env o = some true) (ho : o.op = .store t x y) (hx : ev env x = some (.pointer (some ⟨b, off, none⟩))) (hy : ev env y = some v) (hin : InH h b (.cells ⟨cs⟩ T (0, 0))) [tk : TakeL own [h] rest]
    (hv : cellsO v = some vs) (hsz : vs.length = ti.size) (h1 : vs.all (·.oneCell') = true) (hc : spliceO cs off vs = some cs')
    (next : SOL false P r F n all l Q env (updB h b (.cells ⟨cs'⟩ T (0, 0)) :: rest) ds) : SOL false P r F n all (o :: l) Q env own ds :=
  sl_hop0 hd hg (hop_storeU hin ho hx hy hv hsz h1 hc) fun v' own' hR => by
    subst hR; exact ⟨_, rfl, next⟩
theorem chu_storeU {m : Nat} {t T : TypeId} {x y : Operand} {b off : Nat} {h : Heap} {v : Value} {cs vs cs' : List Value} {d : TypeDesc} {z : Value} {ti : TypeInfo} [ty : Ty P t d z ti]
    (hi : all[m]? = some o) (hd : o.dst = none) (hg : wantedE all env o = some true) (ho : o.op = .store t x y) (hx : ev env x = some (.pointer (some ⟨b, off, none⟩))) (hy : ev env y = some v) (hin : InH h b (.cells ⟨cs⟩ T (0, 0))) [tk : TakeL own [h] rest] {rest2 : List Heap} [tp : TakeL rest prot rest2]
    (hv : cellsO v = some vs) (hsz : vs.length = ti.size) (h1 : vs.all (·.oneCell') = true) (hc : spliceO cs off vs = some cs')
    (next : ChU P r F n all prot Q ds s env (updB h b (.cells ⟨cs'⟩ T (0, 0)) :: rest) an) : ChU P r F n all prot Q ds (.h true m :: s) env own an :=
  chu_h0 hi hd hg (hop_storeU hin ho hx hy hv hsz h1 hc) grow_c (fun _ => ⟨rest2, tp.perm⟩) fun v' own' hR => by
    subst hR; exact ⟨_, rfl, next⟩
end
/-- A base that is there. -/
class NN (base : Option Addr) : Prop where
  ex : ∃ a, base = some a
section
variable {P : Program} {own : List Heap} {n : Nat} {env : Env} {o : Oper}
theorem opv_nilCheckE {x : Operand} {base : Option Addr} {k : Nat} [nn : NN base] (ho : o.op = .nilCheck x) (hx : ev env x = some (ept base k)) : OpV P own n o env (ept base k) := by
  obtain ⟨a, rfl⟩ := nn.ex
  exact opv_nilCheck ho hx
theorem run_eq_ptr {t e : TypeId} {p : Option Addr} (hu : P.underlying t = some (.pointer e)) (w : World) : (Op.equal t (.pointer p) (.pointer none)).run P w = .ok p.isNone w := by
  have h : (Op.equalIn 10000 t (.pointer p) (.pointer none)).run P w = .ok p.isNone w := by
    rw [show (10000 : Nat) = 9999 + 1 from rfl, Op.equalIn]
    cases p <;> simp [run_und hu]
  exact h
theorem opv_ptrEql {t e u : TypeId} {x : Operand} {z : Value} {i : TypeInfo} {p : Option Addr} [h1 : Ty P t (.pointer e) z i] (ho : o.op = .binOp .eql t x (.const (.pointer none)) u) (hx : ev env x = some (.pointer p)) : OpV P own n o env (.bool p.isNone) :=
  opv_run (by rw [ho]; rfl) fun c w ha => by
    have hy : c.eval (.const (.pointer none)) = .pointer none := rfl
    have hg : ∀ w, (eqGuard .eql t x (.const (.pointer none)) (.pointer p) (.pointer none)).run P w = .ok () w := fun w => by simp [eqGuard]
    simp only [execOp, ho, ha.eval hx, hy]
    simp [hg, binOp, run_eq_ptr h1.u]
theorem opv_ptrNeq {t e u : TypeId} {x : Operand} {z : Value} {i : TypeInfo} {p : Option Addr} [h1 : Ty P t (.pointer e) z i] (ho : o.op = .binOp .neq t x (.const (.pointer none)) u) (hx : ev env x = some (.pointer p)) : OpV P own n o env (.bool (!p.isNone)) :=
  opv_run (by rw [ho]; rfl) fun c w ha => by
    have hy : c.eval (.const (.pointer none)) = .pointer none := rfl
    have hg : ∀ w, (eqGuard .neq t x (.const (.pointer none)) (.pointer p) (.pointer none)).run P w = .ok () w := fun w => by simp [eqGuard]
    simp only [execOp, ho, ha.eval hx, hy]
    simp [hg, binOp, run_eq_ptr h1.u]
end
end Go.SL
end
section
/- Where the walk stops: ahead of a region, and what looks at its answer. -/
namespace Go.SL
theorem stop_at2 {P : Program} {r : Option Nat} {F : Heap} {n : Nat} {Q : SPost} {env : Env} {own : List Heap} {ds : List Deferred} (k : Nat) {l : Array Oper} {d : Bool} {c1 : Code} (h : SWP P r F n ((Code.region k l d).seq c1) Q env own ds) : SWP P r F n ((Code.region k l d).seq c1) Q env own ds := h
end Go.SL
end
section
/- Two heaps that a contract hands back become one. -/
namespace Go.SL
theorem T_join2 {P : Program} {f : FuncId} {args : List Value} {own : List Heap} {R : Ending → Heap → Heap → List Heap → Prop}
    (h : T P f args own fun e o => ∃ a b rest, o = a :: b :: rest ∧ R e a b rest) : T P f args own fun e o => ∃ a b rest, o = join a b :: rest ∧ Disj a b ∧ R e a b rest := by
  intro w X s
  refine (h w X s).mono ?_
  rintro e w' ⟨o, s2, a, b, rest, rfl, hR⟩
  have s3 : Sat ([a, b] ++ (rest ++ X)) w' := by simpa using s2
  have d : Disj a b := (List.pairwise_cons.1 s3.dj).1 b (by simp)
  have e : joins [a, b] = join a b := by
    funext x
    simp only [joins, join, emp]
    split <;> rename_i q
    · rfl
    · cases b x <;> rfl
  have s4 := s3.joins
  rw [e] at s4
  exact ⟨join a b :: rest, by simpa using s4, a, b, rest, rfl, d, hR⟩
end Go.SL
end
section
/- copy of elements of some cells, into a block of one's own: from elsewhere, or from the block itself. -/
namespace Go.SL
theorem hop_copyB {P : Program} {n : Nat} {o : Oper} {env : Env} {t t2 e : TypeId} {c : Call} {x y : Operand} {b off : Nat} {b2 : Addr} {len cap n2 c2 sz m : Nat} {own : List Heap} {cs src : List Value} {T : TypeId} [g : TyE P t e sz]
    (hsrc : ∀ (w : World) (X : List Heap), Sat (blk b (.cells ⟨cs⟩ T (0, 0)) :: (own ++ X)) w → ∀ j v, src[j]? = some v → w.cell? (b2.add j) = some v)
    (hm : Nat.min n2 len = m) (hsl : src.length = m * sz) (hin : off + m * sz ≤ cs.length) (h1 : src.all (·.oneCell') = true)
    (ho : o.op = .call c) (hc : c.callee = .builtin .copy) (hax : c.args = #[x, y]) (hat : c.argTypes = #[t, t2]) (hx : ev env x = some (.slice (some ⟨b, off, none⟩) len cap)) (hy : ev env y = some (.slice (some b2) n2 c2)) :
    HOp P (blk b (.cells ⟨cs⟩ T (0, 0)) :: own) n o env fun v own' => v = .int .i64 (m : Int) ∧ own' = blk b (.cells ⟨cs.take off ++ src ++ cs.drop (off + m * sz)⟩ T (0, 0)) :: own := by
  refine ⟨by rw [ho]; rfl, fun a w X ha hs => ?_⟩
  have s1 : Sat (blk b (.cells ⟨cs⟩ T (0, 0)) :: (own ++ X)) w := by simpa using hs
  have hb : w.heap[b]? = some (.cells ⟨cs⟩ T (0, 0)) := s1.at (List.mem_cons_self ..) (blk_self _ _)
  have hst := run_storeCells_at P b off T src 0 ⟨cs⟩ w hb (by simp; omega) (by simpa using h1)
  let arr' : Array Value := ((⟨cs⟩ : Array Value).toList.take (off + 0) ++ src ++ (⟨cs⟩ : Array Value).toList.drop (off + 0 + src.length)).toArray
  have hfc : (Builtin.firstCells sz m (.slice (some b2) n2 c2)).run P w = .ok src.toArray w :=
    run_firstCells_some (P := P) w sz m b2 n2 c2 src (hsl) fun j v hj => hsrc w X s1 j v hj
  have hrun : (execOp a.eval o).run P w = .ok (.value (.int .i64 (m : Int))) (w.setRow b arr') := by
    simp only [execOp, ho]
    simp [resolve, hc, hax, hat, invoke, builtin, Builtin.copy_, ha.eval hx, ha.eval hy, run_und g.u, Builtin.lenOf, goInt, g.s]
    rw [hm, hfc]
    simp only [Result.andThen]
    rw [hst]
  have e1 : arr' = ⟨cs.take off ++ src ++ cs.drop (off + m * sz)⟩ := by simp [arr', hsl]
  refine ⟨w.setRow b arr', .inl ⟨_, blk b (.cells arr' T (0, 0)) :: own, hrun, ?_, rfl, by rw [e1]⟩⟩
  have s2 := s1.put (setRow_heap w b _ arr' T (0, 0) hb) (by rfl) (by rfl) (fun k hk => setRow_other w b k _ hk) (fun _ => rfl)
  simpa using s2
theorem src_other {b : Nat} {b2 : Addr} {cs src : List Value} {T : TypeId} {k : Heap} {own : List Heap} (sl : Sl k (some b2) src) (hk : k ∈ own) (w : World) (X : List Heap) (s : Sat (blk b (.cells ⟨cs⟩ T (0, 0)) :: (own ++ X)) w) (j : Nat) (v : Value) (hj : src[j]? = some v) : w.cell? (b2.add j) = some v := by
  obtain ⟨a', arr3, T3, fz3, p1, p2, p3, p4⟩ := sl.cell j v hj
  cases p1
  obtain ⟨bb, o2, sp⟩ := b2
  obtain rfl : sp = none := p2
  have := s.at (List.mem_cons_of_mem _ (List.mem_append_left X hk)) p3
  have e : Addr.add ⟨bb, o2, none⟩ j = ⟨bb, o2 + j, none⟩ := by simp [Addr.add]
  rw [e, cell_at this]
  exact p4
theorem src_same {b o2 : Nat} {cs src : List Value} {T : TypeId} {own : List Heap} (hs : ∀ j v, src[j]? = some v → cs[o2 + j]? = some v) (w : World) (X : List Heap) (s : Sat (blk b (.cells ⟨cs⟩ T (0, 0)) :: (own ++ X)) w) (j : Nat) (v : Value) (hj : src[j]? = some v) : w.cell? ((⟨b, o2, none⟩ : Addr).add j) = some v := by
  have := s.at (List.mem_cons_self ..) (blk_self b (.cells ⟨cs⟩ T (0, 0)))
  have e : Addr.add ⟨b, o2, none⟩ j = ⟨b, o2 + j, none⟩ := by simp [Addr.add]
  rw [e, cell_at this]
  simpa using hs j v hj
section
variable {P : Program} {r : Option Nat} {F : Heap} {n : Nat} {Q : SPost} {env : Env} {own rest hs prot : List Heap} {ds : List Deferred} {all : Array Oper} {l : List Oper} {o : Oper} {s : List Sg} {an : An}
theorem sl_copyK {d : Nat} {t t2 e : TypeId} {c : Call} {x y : Operand} {b off : Nat} {b2 : Addr} {len cap n2 c2 sz m : Nat} {k : Heap} {cs src cs' : List Value} {T : TypeId} [g : TyE P t e sz]
    (hd : o.dst = some d) (hnt : Nat.blt d n = true) (hg : wantedE all env o = some true) (ho : o.op = .call c) (hc : c.callee = .builtin .copy) (hax : c.args = #[x, y]) (hat : c.argTypes = #[t, t2]) (hx : ev env x = some (.slice (some ⟨b, off, none⟩) len cap)) (hy : ev env y = some (.slice (some b2) n2 c2))
    [tk : TakeL own [blk b (.cells ⟨cs⟩ T (0, 0)), k] rest] (sl : Sl k (some b2) src) (hm : Nat.min n2 len = m) (hsl : src.length = m * sz) (hin : off + m * sz ≤ cs.length) (h1 : src.all (·.oneCell') = true) (hcs : cs.take off ++ src ++ cs.drop (off + m * sz) = cs')
    (next : SOL false P r F n all l Q ((d, .int .i64 (m : Int)) :: env) (blk b (.cells ⟨cs'⟩ T (0, 0)) :: k :: rest) ds) : SOL false P r F n all (o :: l) Q env own ds :=
  sl_hop hd hnt hg (hop_copyB (own := [k]) (src_other sl (List.mem_cons_self ..)) hm hsl hin h1 ho hc hax hat hx hy) fun v' own' hR => by
    obtain ⟨rfl, rfl⟩ := hR; rw [hcs]; exact ⟨_, rfl, next⟩
theorem chu_copyS {m0 d : Nat} {t t2 e : TypeId} {c : Call} {x y : Operand} {b off o2 : Nat} {len cap n2 c2 sz m : Nat} {cs src cs' : List Value} {T : TypeId} [g : TyE P t e sz]
    (hi : all[m0]? = some o) (hd : o.dst = some d) (hg : wantedE all env o = some true) (ho : o.op = .call c) (hc : c.callee = .builtin .copy) (hax : c.args = #[x, y]) (hat : c.argTypes = #[t, t2]) (hx : ev env x = some (.slice (some ⟨b, off, none⟩) len cap)) (hy : ev env y = some (.slice (some ⟨b, o2, none⟩) n2 c2))
    [tk : TakeL own [blk b (.cells ⟨cs⟩ T (0, 0))] rest] {rest2 : List Heap} [tp : TakeL rest prot rest2] (hs : ∀ j v, src[j]? = some v → cs[o2 + j]? = some v) (hm : Nat.min n2 len = m) (hsl : src.length = m * sz) (hin : off + m * sz ≤ cs.length) (h1 : src.all (·.oneCell') = true) (hcs : cs.take off ++ src ++ cs.drop (off + m * sz) = cs')
    (next : ChU P r F n all prot Q ds s ((d, .int .i64 (m : Int)) :: env) (blk b (.cells ⟨cs'⟩ T (0, 0)) :: rest) an) : ChU P r F n all prot Q ds (.h true m0 :: s) env own an :=
  chu_h hi hd hg (hop_copyB (own := []) (src_same hs) hm hsl hin h1 ho hc hax hat hx hy) grow_c (fun _ => ⟨rest2, tp.perm⟩) fun v' own' hR => by
    obtain ⟨rfl, rfl⟩ := hR; rw [hcs]; exact ⟨_, rfl, next⟩
end
end Go.SL
end
section
/- Slices of wide elements that are made. -/
namespace Go.SL
theorem flat_at (zs : List Value) (hp : 0 < zs.length) : ∀ (m j : Nat), ((List.replicate m zs).flatten)[j]? = if j < m * zs.length then zs[j % zs.length]? else none
  | 0, j => by simp
  | m + 1, j => by
    rw [List.replicate_succ, List.flatten_cons]
    by_cases h : j < zs.length
    · rw [List.getElem?_append_left h, if_pos (by rw [Nat.succ_mul]; omega), Nat.mod_eq_of_lt h]
    · rw [List.getElem?_append_right (by omega), flat_at zs hp m, ← Nat.mod_eq_sub_mod (by omega)]
      by_cases h2 : j < (m + 1) * zs.length
      · rw [if_pos h2, if_pos (by rw [Nat.succ_mul] at h2; omega)]
      · rw [if_neg h2, if_neg (by rw [Nat.succ_mul] at h2; omega)]
theorem new_makeSliceW {P : Program} {n : Nat} {env : Env} {o : Oper} {t e : TypeId} {sz bytes m : Nat} {x y : Operand} {zv : Value} {zs : List Value} {de : TypeDesc} {ti : TypeInfo} [g : TyG P t e sz bytes] [z : Ty P e de zv ti]
    (ho : o.op = .makeSlice t x y) (hx : ev env x = some (.int .i64 (m : Int))) (hy : ev env y = some (.int .i64 (m : Int)))
    (hz : cellsO zv = some zs) (hs : zs.length = sz) (hp : 0 < sz) (hroom : m * bytes ≤ 70368744177664) (hm : m ≤ 70368744177664) :
    NewOp P n o env (fun b => .slice (some ⟨b, 0, none⟩) m m) (.cells ⟨(List.replicate m zs).flatten⟩ e (0, 0)) := by
  refine ⟨by rw [ho]; rfl, fun _ => by simp [fzo], fun A w hA => ?_⟩
  obtain ⟨i, z', g1, g2, g3, g4, g5, g6⟩ := g.all
  subst g6
  have wl : IntKind.i64.wrap (m : Int) = m := wrap64_id (by omega) (by omega)
  have hb : ¬ (281474976710656 < (i.bytes : Int) * m) := by
    have : (i.bytes : Int) * m = ((m * i.bytes : Nat) : Int) := by rw [Int.natCast_mul, Int.mul_comm]
    omega
  have hn' : ¬ ((m : Int) < 0) := by omega
  have hroom' : ∀ w : World, (askRoom (m * i.bytes)).run P w = .ok () w := fun w => by unfold askRoom; split <;> simp
  have hzc : zv.cells = ⟨zs⟩ := cellsO_eq hz
  have hzz : ((Array.range (m * sz)).map fun x => zv.cells[x % zv.cells.size]!) = ⟨(List.replicate m zs).flatten⟩ := by
    rw [hzc]
    apply Array.ext'
    apply List.ext_getElem?
    intro j
    show _ = ((List.replicate m zs).flatten)[j]?
    rw [flat_at zs (by omega), hs]
    by_cases hj : j < m * sz
    · rw [if_pos hj]
      have h2 : j % sz < zs.length := by rw [hs]; exact Nat.mod_lt _ hp
      have e3 : zs[j % sz]? = some zs[j % sz] := List.getElem?_eq_getElem h2
      simp [hj, hs, e3]
    · rw [if_neg hj]
      simp [hj]
  have hzn : ∀ w, (zeroValue e).run P w = .ok zv w := fun w => z.z w
  by_cases h0 : m = 0
  · subst h0
    simp [execOp, ho, hA.eval hx, hA.eval hy, Instr.makeSlice, run_und g1, asInt, asIntOf, run_info g2, run_size g2, g5, newRow, askRoom, IntKind.wrap, IntKind.bits, IntKind.signed, show (Array.range 0).map (fun (_ : Nat) => (default : Value)) = ⟨[]⟩ by simp]
  · have h0' : ¬ (m * sz = 0) := fun h => by
      rcases Nat.mul_eq_zero.1 h with h | h <;> omega
    simp [execOp, ho, hA.eval hx, hA.eval hy, Instr.makeSlice, run_und g1, asInt, asIntOf, run_info g2, wl, hb, hn', hroom', run_size g2, g5, h0', newRow, hzn, hzz]
section
variable {P : Program} {r : Option Nat} {F : Heap} {n : Nat} {Q : SPost} {env : Env} {own rest hs prot : List Heap} {ds : List Deferred} {all : Array Oper} {l : List Oper} {o : Oper}
theorem sl_new {d : Nat} {vf : Nat → Value} {ob : Obj} (hd : o.dst = some d) (hnt : Nat.blt d n = true) (hg : wantedE all env o = some true) (hn : NewOp P n o env vf ob)
    (next : ∀ b, SOL false P r F n all l Q ((d, vf b) :: env) (blk b ob :: own) ds) : SOL false P r F n all (o :: l) Q env own ds := by
  obtain ⟨h1, h2, h3⟩ := hn
  refine sl_turn hd hnt hg h1 fun A w hA hs => ?_
  exact ⟨vf w.heap.size, { w with heap := w.heap.push ob }, blk w.heap.size ob :: own, h3 A w hA, (sat_alloc hs _ h2).swap, next _⟩
end
end Go.SL
end
section
/- Calls that turn memory, in a region that draws its order. -/
namespace Go.SL
section
variable {P : Program} {r : Option Nat} {F : Heap} {n : Nat} {prot : List Heap} {Q : SPost} {env : Env} {own rest hs : List Heap} {ds : List Deferred} {all : Array Oper} {s : List Sg} {o : Oper} {an : An}
theorem chu_Tc {m d : Nat} {cl : Call} {x : Operand} {f : FuncId} {first captured : Array Value} {vs vall : List Value} {R : Ending → List Heap → Prop} [Enters P f]
    (hi : all[m]? = some o) (hd : o.dst = some d) (hg : wantedE all env o = some true) [t : TakeL own hs rest]
    (ho : o.op = .call cl) (hc : cl.callee = .value x) (hx : ev env x = some (.func (.func f) first captured)) (hvs : evs env cl.args.toList = some vs)
    (hall : appO first.toList vs captured.toList = some vall) (hp : T P f vall hs R) {rest2 : List Heap} [tp : TakeL rest prot rest2]
    (h : ∀ (e : Ending) (own' : List Heap), R e own' → ∃ v own2, e = .returned v ∧ appH own' rest = some own2 ∧ ChU P r F n all prot Q ds s ((d, v) :: env) own2 an) : ChU P r F n all prot Q ds (.h true m :: s) env own an :=
  chu_h hi hd hg (hop_T ho hc hx hvs hall hp fun e own' hR => by obtain ⟨v, _, h1, _⟩ := h e own' hR; exact ⟨v, h1⟩)
    (fun h => by cases h) (fun _ => ⟨rest2, tp.perm⟩) fun v own' hR => by
    obtain ⟨v', own2, h1, h2, h3⟩ := h _ _ hR
    cases h1
    exact ⟨own2, h2, h3⟩
end
end Go.SL
end
