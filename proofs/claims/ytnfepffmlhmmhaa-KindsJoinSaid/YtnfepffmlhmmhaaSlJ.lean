/- A range over a function: what an iterator is to do, and the statement that ranges. -/
import Derived.Test.YtnfepffmlhmmhaaSlI
import Derived.RangeFuncRecord
namespace Go.SL

/-- What a call of yield comes to. -/
def YT (P : Program) (L : Nat) (args : List Value) (H : Heap) (R : Value → Heap → Prop) : Prop :=
  ∀ w X, Sat (H :: X) w → ∃ f tmps assign body, (Instr.yield L args.toArray).run P w = .ok (.round L f tmps assign body) w ∧
    ∀ r, RoundIn (fen r) 0 P L f tmps assign body w fun e w'' => ∃ v H', e = .returned v ∧ Sat (H' :: X) w'' ∧ R v H'

/-- A function that hands 'xs' to its yield, one after the other, until yield says no. -/
def Iter (P : Program) (f : FuncId) (first captured : List Value) (hs : List Heap) (xs : List (List Value)) : Prop :=
  ∀ (L : Nat) (J : Nat → Heap → Prop) (Jx : Heap → Prop),
    (∀ k x H, xs[k]? = some x → J k H → YT P L x H fun v H' => (v = .bool true ∧ J (k + 1) H') ∨ (v = .bool false ∧ Jx H')) →
    ∀ H, J 0 H → T P f (first ++ [.func (.yield L) #[] #[]] ++ captured) (H :: hs) fun e own' => e = .returned (.tuple #[]) ∧ ∃ H', own' = H' :: hs ∧ (J xs.length H' ∨ Jx H')

theorem run_callYield {P : Program} {n : Nat} {env : Env} {a : Act} {o : Oper} {c : Call} {x : Operand} {L : Nat} {vs : List Value} (ha : Has n env a)
    (ho : o.op = .call c) (hc : c.callee = .value x) (hx : ev env x = some (.func (.yield L) #[] #[])) (hvs : evs env c.args.toList = some vs) (w : World) :
    (execOp a.eval o).run P w = (Instr.yield L vs.toArray).run P w := by
  have h1 : c.args.map a.eval = vs.toArray := Array.ext' (by simpa using evs_eval ha hvs)
  simp only [execOp, ho, resolve, hc, ha.eval hx, h1, Deferred.ofValue]
  simp [invoke]

theorem hop_yield {P : Program} {n : Nat} {env : Env} {o : Oper} {c : Call} {x : Operand} {L : Nat} {vs : List Value} {H : Heap} {R : Value → Heap → Prop}
    (ho : o.op = .call c) (hc : c.callee = .value x) (hx : ev env x = some (.func (.yield L) #[] #[])) (hvs : evs env c.args.toList = some vs) (h : YT P L vs H R) :
    HOp P [H] n o env fun v own' => ∃ H', own' = [H'] ∧ R v H' := by
  refine ⟨by rw [ho]; rfl, fun a w X ha hs => ?_⟩
  obtain ⟨f, tmps, assign, body, h1, h2⟩ := h w X hs
  refine ⟨w, .inr (.inr (.inr ⟨L, f, tmps, assign, body, (run_callYield ha ho hc hx hvs w).trans h1, fun r => (h2 r).mono ?_⟩))⟩
  rintro e w'' ⟨v, H', he, s, hR⟩
  exact ⟨v, [H'], he, s, H', rfl, hR⟩

theorem hop_call {P : Program} {n : Nat} {env : Env} {o : Oper} {c : Call} {x : Operand} {f : FuncId} {first captured : Array Value} {vs vall : List Value} {hs : List Heap} {R : Value → List Heap → Prop} [Enters P f]
    (ho : o.op = .call c) (hc : c.callee = .value x) (hx : ev env x = some (.func (.func f) first captured)) (hvs : evs env c.args.toList = some vs)
    (hall : appO first.toList vs captured.toList = some vall) (h : T P f vall hs fun e own' => ∃ v, e = .returned v ∧ R v own') :
    HOp P hs n o env R := by
  refine ⟨by rw [ho]; rfl, fun a w X ha hs => ?_⟩
  refine ⟨w, .inr (.inr (.inl ⟨f, _, run_call ha ho hc hx hvs w, ?_⟩))⟩
  have e : first ++ vs.toArray ++ captured = vall.toArray := by rw [← appO_eq hall]; simp
  rw [e]
  refine (h w X hs).mono ?_
  rintro e w'' ⟨own', s, v, he, hR⟩
  exact ⟨v, own', he, s, hR⟩

/-- Two lists of heaps, spelled out. -/
def appH : List Heap → List Heap → Option (List Heap)
  | [], b => some b
  | v :: r, b => match appH r b with | some l => some (v :: l) | none => none
theorem appH_eq : ∀ {a b l : List Heap}, appH a b = some l → l = a ++ b := by
  intro a
  induction a with
  | nil => intro b l h; cases h; rfl
  | cons v r ih =>
    intro b l h
    simp only [appH] at h
    cases e : appH r b with
    | none => rw [e] at h; cases h
    | some l' => rw [e] at h; cases h; rw [ih e]; rfl
section
variable {P : Program} {r : Option Nat} {F : Heap} {n : Nat} {Q : SPost} {env : Env} {own rest hs ownM ownC : List Heap} {ds : List Deferred} {all : Array Oper} {l : List Oper} {o : Oper} {id : Nat}

/-- A step of a heavy operation, in a region in its own order. -/
theorem sl_hop {d : Nat} {R : Value → List Heap → Prop} (hd : o.dst = some d) (hn : Nat.blt d n = true) (hg : wantedE all env o = some true) [t : TakeL own hs rest] (h : HOp P hs n o env R)
    (hr : ∀ v own', R v own' → ∃ own2, appH own' rest = some own2 ∧ SOL false P r F n all l Q ((d, v) :: env) own2 ds) : SOL false P r F n all (o :: l) Q env own ds := fun k hk => by
  obtain ⟨i, k', rfl, hi, hk'⟩ := unl hk
  intro a w ha hds hs'
  rw [wpOpsIn_cons]
  have pp : (F :: own).Perm (hs ++ (rest ++ [F])) := (List.perm_append_comm (l₁ := [F]) (l₂ := own)).trans (by rw [← List.append_assoc]; exact t.perm.append_right [F])
  refine hop_wp h hi (wanted_of ha hg) ha rfl (hs'.perm pp) fun v own' w' hR s => ?_
  rw [hd]
  obtain ⟨own2, e2, h2⟩ := hr v own' hR
  rw [appH_eq e2] at h2
  exact h2 k' hk' _ w' (ha.put v (Nat.le_of_ble_eq_true hn)) hds (s.perm (by rw [← List.append_assoc]; exact List.perm_append_comm (l₁ := own' ++ rest) (l₂ := [F])))

/-! A region that draws its order, with one heavy operation. -/
def pickO (all : Array Oper) : List Nat → Option (List Oper)
  | [] => some []
  | i :: l => match all[i]? with
    | some o => match pickO all l with
      | some r => some (o :: r)
      | none => none
    | none => none
theorem pickO_eq {all : Array Oper} : ∀ {l : List Nat} {r : List Oper}, pickO all l = some r → l.map (fun i => all[i]?) = r.map some := by
  intro l
  induction l with
  | nil => intro r h; cases h; rfl
  | cons i l ih =>
    intro r h
    simp only [pickO] at h
    cases h1 : all[i]? with
    | none => rw [h1] at h; cases h
    | some o =>
      rw [h1] at h
      cases h2 : pickO all l with
      | none => rw [h2] at h; cases h
      | some r' => rw [h2] at h; cases h; simp [h1, ih h2]
def dstB (all : Array Oper) (n : Nat) : Bool := all.toList.all fun o => match o.dst with | some d => Nat.blt d n | none => true
theorem dstB_spec {all : Array Oper} {n : Nat} (h : dstB all n = true) : ∀ (i d : Nat), (all[i]?).bind (·.dst) = some d → d < n := by
  intro i d hd
  cases hi : all[i]? with
  | none => rw [hi] at hd; cases hd
  | some o =>
    rw [hi] at hd
    have hm : o ∈ all := by rw [Array.mem_iff_getElem?]; exact ⟨i, hi⟩
    have := List.all_eq_true.1 h o (by simpa using hm)
    simp only [Option.bind_some] at hd
    rw [hd] at this
    exact Nat.le_of_ble_eq_true this

theorem qops_mono {K K' : Env → Prop} (hk : ∀ env, K env → K' env) : ∀ {l : List Nat} {env : Env}, QOps P F n all own K l env → QOps P F n all own K' l env := by
  intro l
  induction l with
  | nil => intro env h; exact hk _ h
  | cons i l ih =>
    intro env h
    simp only [QOps] at h ⊢
    obtain ⟨o, v, h1, h2, h3, h4⟩ := h
    exact ⟨o, v, h1, h2, h3, ih h4⟩

theorem sl_draw1 {ops : Array Oper} (la lb : List Nat) (m : Nat) (l3 : List Nat) {A B C : List Oper} {om : Oper} {d : Nat} {R : Value → List Heap → Prop} [t : TakeL own ownM ownC]
    (hok : dok ops = true) (hac : acyOk ops = true) (hv : heavyOk ops la lb m l3 = true) (hdst : dstB ops n = true)
    (hA : pickO ops la = some A) (hB : pickO ops lb = some B) (hm : ops[m]? = some om) (hd : om.dst = some d) (hC : pickO ops l3 = some C)
    (h : SOL true P r F n ops A (Thn (fun env1 _ _ => SOL true P r F n ops B (Thn (fun env2 _ _ => wantedE ops env2 om = some true ∧ HOp P ownM n om env2 R ∧
      ∀ v own', R v own' → ∃ own2, appH own' ownC = some own2 ∧ SOL true P r F n ops C Q ((d, v) :: env2) own2 ds) (fun _ _ _ _ => False)) env1 ownC ds) (fun _ _ _ _ => False)) env own ds) :
    SWP P r F n (.region id ops true) Q env own ds := by
  refine swp_draw1 (R := R) hok hac (heavy_of hv) (dstB_spec hdst) t.perm hm ?_
  refine qops_mono (fun env1 h1 => ?_) (h la (pickO_eq hA))
  refine qops_mono (fun env2 h2 => ?_) (h1 lb (pickO_eq hB))
  obtain ⟨g1, g2, g3⟩ := h2
  refine ⟨g1, g2, fun v own' hR => ?_⟩
  obtain ⟨own2, e2, h2⟩ := g3 v own' hR
  have h3 := h2 l3 (pickO_eq hC)
  rw [appH_eq e2] at h3
  rw [hm]
  simp only [Option.bind_some, hd]
  exact h3
end

/-! ### The statement that ranges -/
def bindP : List Nat → List Value → Env → Env
  | t :: ts, v :: vs, env => bindP ts vs ((t, v) :: env)
  | _, _, env => env
def bindO : List Nat → List Value → Env → Option Env
  | t :: ts, v :: vs, env => bindO ts vs ((t, v) :: env)
  | _, _, env => some env
theorem bindO_eq : ∀ {ts : List Nat} {vs : List Value} {env env' : Env}, bindO ts vs env = some env' → env' = bindP ts vs env := by
  intro ts
  induction ts with
  | nil => intro vs env env' h; cases h; rfl
  | cons t ts ih => intro vs env env' h; cases vs with
    | nil => cases h; rfl
    | cons v vs => exact ih h
theorem has_tmps {n : Nat} {env : Env} {a : Act} (h : Has n env a) {ds : List Deferred} : Has n env { tmps := a.tmps, defers := ds } := ⟨h.size, h.get⟩
theorem has_bind {n : Nat} : ∀ {ps : List Nat} {vs : List Value} {env : Env} {tmps : Array Value}, (∀ p ∈ ps, p < n) → Has n env { tmps := tmps, defers := [] } →
    Has n (bindP ps vs env) { tmps := (ps.zip vs).foldl (fun tmps (t, a) => tmps.setIfInBounds t a) tmps, defers := [] } := by
  intro ps
  induction ps with
  | nil => intro vs env tmps _ h; simpa [bindP] using h
  | cons p ps ih =>
    intro vs env tmps hp h
    cases vs with
    | nil => simpa [bindP] using h
    | cons v vs =>
      simp only [bindP, List.zip_cons_cons, List.foldl_cons]
      refine ih (fun q hq => hp q (List.mem_cons_of_mem _ hq)) ?_
      have := h.put (d := p) v (hp p (List.mem_cons_self ..))
      exact this

/-- What a round is to come to. -/
def RoundQ (J : List Heap → Prop) (Jx : Code → List Heap → Prop) : SPost
  | .normal, _, own, _ => ∃ own', (∀ F w, Sat (F :: own) w → Sat (F :: own') w) ∧ J own'
  | .ret, _, own, _ => ∃ own', (∀ F w, Sat (F :: own) w → Sat (F :: own') w) ∧ Jx .ret own'
  | .exit id, _, own, _ => ∃ own', (∀ F w, Sat (F :: own) w → Sat (F :: own') w) ∧ Jx (.exit id) own'
  | _, _, _, _ => False
theorem take_sat {own hs rest : List Heap} [t : TakeL own hs rest] (F : Heap) (w : World) (s : Sat (F :: own) w) : Sat (F :: hs) w := (s.perm (t.perm.cons F)).sub (List.Sublist.cons_cons F (List.sublist_append_left _ _))
theorem round_end {J : List Heap → Prop} {Jx : Code → List Heap → Prop} {env : Env} {own rest : List Heap} {ds : List Deferred} (hs : List Heap) [t : TakeL own hs rest] (h : J hs) : RoundQ J Jx .normal env own ds := ⟨hs, take_sat, h⟩
theorem round_ret {J : List Heap → Prop} {Jx : Code → List Heap → Prop} {env : Env} {own rest : List Heap} {ds : List Deferred} (hs : List Heap) [t : TakeL own hs rest] (h : Jx .ret hs) : RoundQ J Jx .ret env own ds := ⟨hs, take_sat, h⟩
theorem round_exit {J : List Heap → Prop} {Jx : Code → List Heap → Prop} {id : Nat} {env : Env} {own rest : List Heap} {ds : List Deferred} (hs : List Heap) [t : TakeL own hs rest] (h : Jx (.exit id) hs) : RoundQ J Jx (.exit id) env own ds := ⟨hs, take_sat, h⟩

theorem sat_put {b : Nat} {o o' : Obj} {hs : List Heap} {w : World} (s : Sat (blk b o :: hs) w) (hz : ∀ off, fzo o' off = fzo o off) : Sat (blk b o' :: hs) (w.putObj b o') := by
  have hb : w.heap[b]? = some o := s.at (List.mem_cons_self ..) (blk_self _ _)
  exact s.put (World.putObj_heap_same (Array.getElem?_eq_some_iff.1 hb).1) rfl rfl (fun k hk => World.putObj_heap_other hk) hz
theorem inRound_fen (r : Option Nat) (L : Nat) : (fen r).inRound L = fen (some L) := by cases r <;> rfl

section
variable {P : Program} {F : Heap} {n : Nat} {Q : SPost} {env : Env} {own rest hsI : List Heap} {ds : List Deferred} {assign body : Code}

/-- One round. -/
theorem yt_round {L : Nat} {rc : Loop} {x : List Value} {own1 : List Heap} {K : List Heap → Prop} {Kx : Code → List Heap → Prop}
    (hh : Has n env { tmps := rc.tmps, defers := [] }) (hp : ∀ p ∈ rc.params.toList, p < n) (hl : x.length = rc.params.size) (hst : rc.state = .ready)
    (hd : (blk L (.loop rc) :: own1).Pairwise Disj)
    (hr : ∀ F, SWP P (some L) F n rc.assign (Thn (fun env2 own2 ds2 => ∀ F2, SWP P (some L) F2 n rc.body (RoundQ K Kx) env2 own2 ds2) fun _ _ _ _ => False) (bindP rc.params.toList x env) own1 []) :
    YT P L x (joins (blk L (.loop rc) :: own1)) fun v H' =>
      (v = .bool true ∧ ∃ own2, (blk L (.loop { rc with state := .ready, pending := none }) :: own2).Pairwise Disj ∧ H' = joins (blk L (.loop { rc with state := .ready, pending := none }) :: own2) ∧ K own2) ∨
      (v = .bool false ∧ ∃ c own2, (blk L (.loop { rc with state := .done, pending := some c }) :: own2).Pairwise Disj ∧ H' = joins (blk L (.loop { rc with state := .done, pending := some c }) :: own2) ∧ Kx c own2) := by
  intro w X s
  have s1 : Sat ((blk L (.loop rc) :: own1) ++ X) w := s.unjoins hd
  have hL : w.heap[L]? = some (.loop rc) := s1.at (List.mem_cons_self ..) (blk_self _ _)
  refine ⟨rc.fn, _, rc.assign, rc.body, run_yield hL (by simpa using hl), fun r => roundIn_of_wpIn (by simp) ?_⟩
  rw [inRound_fen]
  have s2 : Sat (joins (blk L (.loop rc) :: X) :: own1) w := by
    refine Sat.joins (hs := blk L (.loop rc) :: X) (s1.perm ?_)
    exact (List.perm_append_comm (l₁ := own1) (l₂ := X)).cons _
  have hpX : (blk L (.loop rc) :: X).Pairwise Disj := (s1.sub (List.Sublist.cons_cons _ (List.sublist_append_right _ _))).dj
  have ha : Has n (bindP rc.params.toList x env) { tmps := (rc.params.zip x.toArray).foldl (fun tmps (t, a) => tmps.setIfInBounds t a) rc.tmps, defers := [] } := by
    have := has_bind (vs := x) hp hh
    rw [← Array.foldl_toList, Array.toList_zip]
    exact this
  refine wpIn_mono (hr _ _ w ha rfl s2) fun e a₁ w₁ ⟨he, env2, own2, h1, h2, h3⟩ => ?_
  cases e with
  | normal =>
    have s3 : Sat (blk L (.loop rc) :: (X ++ own2)) w₁ := h2.unjoins hpX
    have hL1 : w₁.heap[L]? = some (.loop rc) := s3.at (List.mem_cons_self ..) (blk_self _ _)
    refine ⟨_, run_beginRound hL1 hst, ?_⟩
    have s4 : Sat (blk L (.loop { rc with state := .busy }) :: (X ++ own2)) (w₁.putObj L (.loop { rc with state := .busy })) := sat_put s3 (fun _ => rfl)
    have hpX' : (blk L (.loop { rc with state := .busy }) :: X).Pairwise Disj := (s4.sub (List.Sublist.cons_cons _ (List.sublist_append_left _ _))).dj
    have s5 : Sat (joins (blk L (.loop { rc with state := .busy }) :: X) :: own2) (w₁.putObj L (.loop { rc with state := .busy })) := Sat.joins (hs := blk L _ :: X) s4
    refine wpIn_mono (h3 _ a₁ _ h1 rfl s5) fun e a₂ w₂ ⟨he, env3, own3, g1, g2, g3⟩ => ?_
    have key : ∀ own3, Sat (joins (blk L (.loop { rc with state := .busy }) :: X) :: own3) w₂ → ∀ o', (∀ off, fzo o' off = false) → w₂.heap[L]? = some (.loop { rc with state := .busy }) ∧ Sat ((blk L o' :: own3) ++ X) (w₂.putObj L o') := fun own3 g2 o' hz => by
      have s6 : Sat (blk L (.loop { rc with state := .busy }) :: (X ++ own3)) w₂ := g2.unjoins hpX'
      exact ⟨s6.at (List.mem_cons_self ..) (blk_self _ _), (sat_put s6 hz).perm ((List.perm_append_comm (l₁ := X) (l₂ := own3)).cons _)⟩
    have stop : ∀ c, (∃ own', (∀ F w, Sat (F :: own3) w → Sat (F :: own') w) ∧ Kx c own') → ∃ v w', (Instr.endRound L (some c)).run P w₂ = .ok v w' ∧ ∃ v', ∃ H', Ending.returned v = .returned v' ∧ Sat (H' :: X) w' ∧
        ((v' = .bool true ∧ ∃ own2, (blk L (.loop { rc with state := .ready, pending := none }) :: own2).Pairwise Disj ∧ H' = joins (blk L (.loop { rc with state := .ready, pending := none }) :: own2) ∧ K own2) ∨
        (v' = .bool false ∧ ∃ c own2, (blk L (.loop { rc with state := .done, pending := some c }) :: own2).Pairwise Disj ∧ H' = joins (blk L (.loop { rc with state := .done, pending := some c }) :: own2) ∧ Kx c own2)) := fun c ⟨own4, hw, hc⟩ => by
      have fin := (key own4 (hw _ _ g2) (.loop { rc with state := .done, pending := some c }) (fun _ => rfl)).2
      exact ⟨_, _, run_endRound (some c) (key own4 (hw _ _ g2) (.loop rc) (fun _ => rfl)).1, _, _, rfl, Sat.joins (ks := X) fin, .inr ⟨rfl, c, own4, (fin.sub (List.sublist_append_left _ _)).dj, rfl, hc⟩⟩
    cases e with
    | normal =>
      obtain ⟨own4, hw, hc⟩ := g3
      have fin := (key own4 (hw _ _ g2) (.loop { rc with state := .ready, pending := none }) (fun _ => rfl)).2
      exact ⟨_, _, run_endRound none (key own4 (hw _ _ g2) (.loop rc) (fun _ => rfl)).1, _, _, rfl, Sat.joins (ks := X) fin, .inl ⟨rfl, own4, (fin.sub (List.sublist_append_left _ _)).dj, rfl, hc⟩⟩
    | ret => exact stop _ g3
    | exit id => exact stop _ g3
    | goto _ => exact g3.elim
    | panic _ => exact g3.elim
    | outgrown => exact g3.elim
  | outgrown => exact absurd rfl he
  | ret => exact h3.elim
  | exit _ => exact h3.elim
  | goto _ => exact h3.elim
  | panic _ => exact h3.elim

theorem swp_range {g : Operand} {ps : Array Tmp} {f : FuncId} {first captured : Array Value} {xs : List (List Value)} [he : Enters P f] [t : TakeL own hsI rest]
    (J : Nat → List Heap → Prop) (Jx : Code → List Heap → Prop)
    (hg : ev env g = some (.func (.func f) first captured)) (hI : Iter P f first.toList captured.toList hsI xs)
    (hps : ps.toList.all (fun p => Nat.blt p n) = true) (hxs : ∀ x ∈ xs, x.length = ps.size) (h0 : J 0 rest)
    (hround : ∀ L k x own1, xs[k]? = some x → J k own1 → ∀ F, ∃ env1, bindO ps.toList x env = some env1 ∧ SWP P (some L) F n assign (Thn (fun env2 own2 ds2 => ∀ F2, SWP P (some L) F2 n body (RoundQ (J (k + 1)) Jx) env2 own2 ds2) fun _ _ _ _ => False) env1 own1 [])
    (hdone : ∀ D own1, J xs.length own1 → ∃ own2, appH own1 hsI = some own2 ∧ Q .normal env (blk D (.deferred (some [])) :: own2) (mark D :: ds))
    (hstop : ∀ D c own1, Jx c own1 → ∃ own2, appH own1 hsI = some own2 ∧ SWP P none F n c Q env (blk D (.deferred (some [])) :: own2) (mark D :: ds)) :
    SWP P none F n (.rangeFunc g ps assign body) Q env own ds := by
  have hround : ∀ L k x own1, xs[k]? = some x → J k own1 → ∀ F, SWP P (some L) F n assign (Thn (fun env2 own2 ds2 => ∀ F2, SWP P (some L) F2 n body (RoundQ (J (k + 1)) Jx) env2 own2 ds2) fun _ _ _ _ => False) (bindP ps.toList x env) own1 [] := fun L k x own1 hx hJ F => by
    obtain ⟨env1, e, h⟩ := hround L k x own1 hx hJ F
    rw [bindO_eq e] at h; exact h
  have hdone : ∀ D own1, J xs.length own1 → Q .normal env (blk D (.deferred (some [])) :: (own1 ++ hsI)) (mark D :: ds) := fun D own1 hJ => by
    obtain ⟨own2, e, h⟩ := hdone D own1 hJ
    rw [appH_eq e] at h; exact h
  have hstop : ∀ D c own1, Jx c own1 → SWP P none F n c Q env (blk D (.deferred (some [])) :: (own1 ++ hsI)) (mark D :: ds) := fun D c own1 hJ => by
    obtain ⟨own2, e, h⟩ := hstop D c own1 hJ
    rw [appH_eq e] at h; exact h
  intro a w ha hd hs
  refine wpIn_rangeFunc fun fn _ => ?_
  let L := w.heap.size + 1
  let rc : Loop := { state := .ready, pending := none, fn, tmps := a.tmps, params := ps, assign, body, defers := w.heap.size }
  let xv : Value := .func (.yield L) #[] #[]
  let w1 := (w.alloc (.deferred (some []))).alloc (.loop rc)
  have hres : (resolve a.eval (rangeCall g L) 0).run P w1 = .ok { target := .fn (.func f) captured, args := first ++ #[xv] } w1 := by
    simp only [resolve, ha.eval hg, Deferred.ofValue, Sem.run_pure]
    simp [Act.eval, xv]
  have hinv : (invoke (.fn (.func f) captured) (first ++ #[xv])).run P w1 = .ok (.enter f (first ++ #[xv] ++ captured)) w1 := he.run _ _
  refine ⟨L, [SL.mark w.heap.size], w1, { target := .fn (.func f) captured, args := first ++ #[xv] }, w1, f, first ++ #[xv] ++ captured, w1, run_enterLoop_outer fn a.tmps ps assign body, hres, fun _ _ => by simp, hinv, fun hx => by simp at hx, callsIn_fen _ ?_⟩
  have e : first ++ #[xv] ++ captured = (first.toList ++ [xv] ++ captured.toList).toArray := by apply Array.ext'; simp
  rw [e]
  have sD : Sat (blk w.heap.size (.deferred (some [])) :: F :: own) (w.alloc (.deferred (some []))) := sat_alloc hs _ (fun _ => rfl)
  have sL : Sat (blk L (.loop rc) :: blk w.heap.size (.deferred (some [])) :: F :: own) w1 := by
    have := sat_alloc sD (.loop rc) (fun _ => rfl)
    rw [World.size_alloc] at this; exact this
  have sA : Sat ((blk L (.loop rc) :: rest) ++ (hsI ++ [blk w.heap.size (.deferred (some [])), F])) w1 := by
    refine sL.perm ((?_ : List.Perm _ _).cons _)
    refine ((t.perm.cons F).cons _).trans ?_
    have p1 : (blk w.heap.size (.deferred (some [])) :: F :: (hsI ++ rest)).Perm ((hsI ++ rest) ++ [blk w.heap.size (.deferred (some [])), F]) := List.perm_append_comm (l₁ := [blk w.heap.size (.deferred (some [])), F]) (l₂ := hsI ++ rest)
    refine p1.trans ?_
    have p2 : (hsI ++ rest).Perm (rest ++ hsI) := List.perm_append_comm
    simpa [List.append_assoc] using p2.append_right [blk w.heap.size (.deferred (some [])), F]
  let lr : Loop → Heap := fun r => blk L (.loop r)
  let JJ : Nat → Heap → Prop := fun k H => ∃ own1, (lr rc :: own1).Pairwise Disj ∧ H = joins (lr rc :: own1) ∧ J k own1
  let JX : Heap → Prop := fun H => ∃ c own1, (lr { rc with state := .done, pending := some c } :: own1).Pairwise Disj ∧ H = joins (lr { rc with state := .done, pending := some c } :: own1) ∧ Jx c own1
  have hpn : ∀ p ∈ ps.toList, p < n := fun p hp => Nat.le_of_ble_eq_true (List.all_eq_true.1 hps p hp)
  have hT := hI L JJ JX (fun k x H hx hJ => by
    obtain ⟨own1, hdj, rfl, hJ⟩ := hJ
    exact yt_round (rc := rc) (has_tmps ha) hpn (hxs x (List.mem_of_getElem? hx)) rfl hdj (hround L k x own1 hx hJ)) _ ⟨rest, (sA.sub (List.sublist_append_left _ _)).dj, rfl, h0⟩
  refine (hT w1 [blk w.heap.size (.deferred (some [])), F] (by simpa using sA.joins)).mono ?_
  rintro e w3 ⟨own', s3, rfl, H', rfl, hJ⟩
  have done : ∀ (r3 : Loop) own1, (lr r3 :: own1).Pairwise Disj → H' = joins (lr r3 :: own1) → r3.state ≠ .busy →
      ∃ w4, (Instr.endLoop L).run P w3 = .ok r3.pending w4 ∧ Sat (F :: (blk w.heap.size (.deferred (some [])) :: (own1 ++ hsI))) w4 := by
    rintro r3 own1 hdj rfl hst
    have s4 : Sat (lr r3 :: (own1 ++ (hsI ++ [blk w.heap.size (.deferred (some [])), F]))) w3 := by
      have : Sat (joins (lr r3 :: own1) :: (hsI ++ [blk w.heap.size (.deferred (some [])), F])) w3 := by simpa using s3
      simpa using this.unjoins hdj
    have hL3 : w3.heap[L]? = some (.loop r3) := s4.at (List.mem_cons_self ..) (blk_self _ _)
    refine ⟨_, run_endLoop hL3 hst, ?_⟩
    have s5 := (sat_put (o' := .loop { r3 with state := .exhausted }) s4 (fun _ => rfl)).tail
    refine s5.perm ?_
    have p1 : ((own1 ++ hsI) ++ [blk w.heap.size (.deferred (some [])), F]).Perm ([F, blk w.heap.size (.deferred (some []))] ++ (own1 ++ hsI)) :=
      List.perm_append_comm.trans ((List.Perm.swap F _ []).append_right _)
    simpa [List.append_assoc] using p1
  rcases hJ with ⟨own1, hdj, hH, hJ⟩ | ⟨c, own1, hdj, hH, hJ⟩
  · obtain ⟨w4, h1, h2⟩ := done rc own1 hdj hH (by simp [rc])
    refine ⟨none, w4, h1, ?_⟩
    exact Lift.mk (ds := SL.mark w.heap.size :: ds) (by simp) (has_tmps ha) (by simp [hd]) h2 (hdone _ _ hJ)
  · obtain ⟨w4, h1, h2⟩ := done _ own1 hdj hH (by simp)
    refine ⟨some c, w4, h1, ?_⟩
    exact hstop _ _ _ hJ _ w4 (has_tmps ha) (by simp [hd]) h2
end
end Go.SL
