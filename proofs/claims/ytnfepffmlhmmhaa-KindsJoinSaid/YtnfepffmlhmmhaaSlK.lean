/- Small helps for walks: loops over a state, ends of rounds. -/
import Derived.Test.YtnfepffmlhmmhaaSlJ
namespace Go.SL
section
variable {P : Program} {r : Option Nat} {F : Heap} {n : Nat} {Q : SPost} {env : Env} {own rest hs own' : List Heap} {ds : List Deferred}

/-- A loop over a state. -/
theorem swp_loopS {S : Type} (E : S → Env) (O : S → List Heap) (I : S → Prop) (μ : S → Nat) {c : Code} (s0 : S) [t : TakeL own (O s0) rest]
    (he : Sub (E s0) env) (hI : I s0)
    (round : ∀ s, I s → SWP P r F n c (Thn (fun env' own' ds' => ds' = ds ∧ ∃ s', (Sub (E s') env' ∧ ∀ w, Sat (F :: own') w → Sat (F :: O s') w) ∧ I s' ∧ μ s' < μ s) Q) (E s) (O s) ds) :
    SWP P r F n (.loop c) Q env own ds := by
  refine SWP.weaken (env' := E s0) (own' := O s0) he (fun w s => (s.perm (t.perm.cons F)).sub (List.Sublist.cons_cons F (List.sublist_append_left _ _))) ?_
  refine swp_loop (fun env own m => ∃ s, env = E s ∧ own = O s ∧ m = μ s ∧ I s) (μ s0) ?_ ⟨s0, rfl, rfl, rfl, hI⟩
  rintro env own m ⟨s, rfl, rfl, rfl, hs⟩
  refine (round s hs).mono fun e env own ds h => ?_
  cases e with
  | normal =>
    obtain ⟨h1, s', ⟨h2, h3⟩, h4, h5⟩ := h
    exact ⟨h1, E s', O s', μ s', h5, h2, h3, s', rfl, rfl, rfl, h4⟩
  | _ => exact h
theorem next_ok {E : Env} {O : List Heap} [t : TakeL own O rest] (h : Sub E env) : Sub E env ∧ ∀ w, Sat (F :: own) w → Sat (F :: O) w :=
  ⟨h, fun _ s => (s.perm (t.perm.cons F)).sub (List.Sublist.cons_cons F (List.sublist_append_left _ _))⟩
theorem swp_emp {c : Code} (h : SWP P r F n c Q env (emp :: own) ds) : SWP P r F n c Q env own ds := fun a w ha hd s => by
  have : Sat (emp :: F :: own) w := ⟨fun h hh => by
    rcases List.mem_cons.1 hh with rfl | hh
    · intro b o e; cases e
    · exact s.le h hh, List.pairwise_cons.2 ⟨fun _ _ _ _ _ e _ => (by cases e), s.dj⟩⟩
  exact h a w ha hd this.swap
/-- A call that returns. -/
theorem sl_callT {all : Array Oper} {l : List Oper} {o : Oper} {c : Call} {x : Operand} {f : FuncId} {first captured : Array Value} {vs vall : List Value} {R : Ending → List Heap → Prop} [Enters P f] [t : TakeL own hs rest] {d : Nat}
    (hd : o.dst = some d) (hn : Nat.blt d n = true) (hg : wantedE all env o = some true)
    (ho : o.op = .call c) (hc : c.callee = .value x) (hx : ev env x = some (.func (.func f) first captured)) (hvs : evs env c.args.toList = some vs)
    (hall : appO first.toList vs captured.toList = some vall) (h : T P f vall hs R)
    (hr : ∀ e own', R e own' → ∃ v own2, e = .returned v ∧ appH own' rest = some own2 ∧ SOL false P r F n all l Q ((d, v) :: env) own2 ds) :
    SOL false P r F n all (o :: l) Q env own ds :=
  sl_call hd hn hg ho hc hx hvs hall h fun e own' hR => by
    obtain ⟨v, own2, h1, h2, h3⟩ := hr e own' hR
    exact .inl ⟨v, h1, by rw [← appH_eq h2]; exact h3⟩
instance Sl.none {h : Heap} : Sl h none [] := ⟨fun k v hk => by cases hk⟩
/-- The end of a body: what is left behind is said in full. -/
theorem end_retW {fn : Func} {own1 : List Heap} (hs : List Heap) {v : Value} {Q : Ending → List Heap → Prop} [m : Marks ds own own1] (hr : ResOk P fn.results.toList own1 env n v)
    (hw : ∀ F w, Sat (F :: own1) w → Sat (F :: hs) w) (hq : Q (.returned v) hs) : bodyQ P fn n Q .ret env own ds := ⟨v, own1, hs, m, hr, hw, hq⟩
end
end Go.SL
