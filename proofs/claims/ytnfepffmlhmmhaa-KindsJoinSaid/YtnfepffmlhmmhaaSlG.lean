/- The steps of the walk, over the operations that are left; small steps for the walk's driver. -/
import Derived.Test.YtnfepffmlhmmhaaSlE
namespace Go.SL

/-- The operations that are left. -/
def SOL (q : Bool) (P : Program) (r : Option Nat) (F : Heap) (n : Nat) (all : Array Oper) (rest : List Oper) (Q : SPost) (env : Env) (own : List Heap) (ds : List Deferred) : Prop :=
  ∀ l : List Nat, l.map (fun i => all[i]?) = rest.map some → SO q P r F n all l Q env own ds

theorem unl {all : Array Oper} {o : Oper} {rest : List Oper} {l : List Nat} (h : l.map (fun i => all[i]?) = (o :: rest).map some) :
    ∃ i l', l = i :: l' ∧ all[i]? = some o ∧ l'.map (fun i => all[i]?) = rest.map some := by
  cases l with
  | nil => cases h
  | cons i l' => simp only [List.map_cons, List.cons.injEq] at h; exact ⟨i, l', rfl, h.1, h.2⟩
theorem range_all (all : Array Oper) : (List.range all.size).map (fun i => all[i]?) = all.toList.map some := by
  apply List.ext_getElem?
  intro i
  simp only [List.getElem?_map]
  by_cases h : i < all.size
  · simp [h]
  · simp [h]

section
variable {P : Program} {r : Option Nat} {F : Heap} {n : Nat} {Q : SPost} {env : Env} {own rest hs own' : List Heap} {ds : List Deferred} {q : Bool} {all : Array Oper} {l : List Oper} {o : Oper} {K : Env → List Heap → List Deferred → Prop} {id : Nat}

theorem sl_region {ops : Array Oper} (hl : ops.toList = l) (h : SOL false P r F n ops l Q env own ds) : SWP P r F n (.region id ops false) Q env own ds :=
  swp_region rfl (h _ (hl ▸ range_all ops))
theorem sl_draw {ops : Array Oper} (hok : dok ops = true) (hac : acyOk ops = true) (hl : ops.toList = l) (h : SOL true P r F n ops l Q env own ds) : SWP P r F n (.region id ops true) Q env own ds :=
  swp_draw hok hac rfl (h _ (hl ▸ range_all ops))

theorem sl_nil (h : Q .normal env own ds) : SOL q P r F n all [] Q env own ds := fun l hl => by
  cases l with
  | nil => exact so_nil h
  | cons i l => cases hl
theorem sl_op {v : Value} {d : Nat} (hd : o.dst = some d) (hn : Nat.blt d n = true) (hg : wantedE all env o = some true) (hv : OpV P (F :: own) n o env v)
    (h : SOL q P r F n all l Q ((d, v) :: env) own ds) : SOL q P r F n all (o :: l) Q env own ds := fun k hk => by
  obtain ⟨i, k', rfl, hi, hk'⟩ := unl hk
  exact so_op hi hd (Nat.le_of_ble_eq_true hn) hg hv (h k' hk')
theorem sl_op0 {v : Value} (hd : o.dst = none) (hg : wantedE all env o = some true) (hv : OpV P (F :: own) n o env v)
    (h : SOL q P r F n all l Q env own ds) : SOL q P r F n all (o :: l) Q env own ds := fun k hk => by
  obtain ⟨i, k', rfl, hi, hk'⟩ := unl hk
  exact so_op0 hi hd hg hv (h k' hk')
theorem sl_pass {d : Nat} (hd : o.dst = some d) (hn : Nat.blt d n = true) (hg : wantedE all env o = some false) (hp : plainOp o.op = true)
    (h : SOL q P r F n all l Q ((d, undef) :: env) own ds) : SOL q P r F n all (o :: l) Q env own ds := fun k hk => by
  obtain ⟨i, k', rfl, hi, hk'⟩ := unl hk
  exact so_pass hi hd (Nat.le_of_ble_eq_true hn) hg hp (h k' hk')
theorem sl_pass0 (hd : o.dst = none) (hg : wantedE all env o = some false) (hp : plainOp o.op = true)
    (h : SOL q P r F n all l Q env own ds) : SOL q P r F n all (o :: l) Q env own ds := fun k hk => by
  obtain ⟨i, k', rfl, hi, hk'⟩ := unl hk
  exact so_pass0 hi hd hg hp (h k' hk')
theorem sl_bool {b : Bool} {d : Nat} (hd : o.dst = some d) (hn : Nat.blt d n = true) (hg : wantedE all env o = some true) (hv : OpV P (F :: own) n o env (.bool b))
    (h1 : b = true → SOL q P r F n all l Q ((d, .bool true) :: env) own ds) (h2 : b = false → SOL q P r F n all l Q ((d, .bool false) :: env) own ds) : SOL q P r F n all (o :: l) Q env own ds := by
  cases b
  · exact sl_op hd hn hg hv (h2 rfl)
  · exact sl_op hd hn hg hv (h1 rfl)
theorem sl_yes {p : Prop} [Decidable p] {d : Nat} (hd : o.dst = some d) (hn : Nat.blt d n = true) (hg : wantedE all env o = some true) (hv : OpV P (F :: own) n o env (.bool (decide p)))
    (hp : p) (h : SOL q P r F n all l Q ((d, .bool true) :: env) own ds) : SOL q P r F n all (o :: l) Q env own ds :=
  sl_op hd hn hg hv (by rw [decide_eq_true hp]; exact h)
theorem sl_no {p : Prop} [Decidable p] {d : Nat} (hd : o.dst = some d) (hn : Nat.blt d n = true) (hg : wantedE all env o = some true) (hv : OpV P (F :: own) n o env (.bool (decide p)))
    (hp : ¬ p) (h : SOL q P r F n all l Q ((d, .bool false) :: env) own ds) : SOL q P r F n all (o :: l) Q env own ds :=
  sl_op hd hn hg hv (by rw [decide_eq_false hp]; exact h)
theorem sl_if {p : Prop} [Decidable p] {d : Nat} (hd : o.dst = some d) (hn : Nat.blt d n = true) (hg : wantedE all env o = some true) (hv : OpV P (F :: own) n o env (.bool (decide p)))
    (h1 : p → SOL q P r F n all l Q ((d, .bool true) :: env) own ds) (h2 : ¬ p → SOL q P r F n all l Q ((d, .bool false) :: env) own ds) : SOL q P r F n all (o :: l) Q env own ds := by
  by_cases hp : p
  · exact sl_yes hd hn hg hv hp (h1 hp)
  · exact sl_no hd hn hg hv hp (h2 hp)
theorem sl_alloc {d : Nat} {t : TypeId} {de : TypeDesc} {z : Value} {ti : TypeInfo} {cs : List Value} [ty : Ty P t de z ti] (hd : o.dst = some d) (hn : Nat.blt d n = true) (hg : wantedE all env o = some true) (ho : o.op = .alloc t) (hz : cellsO z = some cs)
    (h : ∀ b, SOL false P r F n all l Q ((d, .pointer (some ⟨b, 0, none⟩)) :: env) (blk b (.cells ⟨cs⟩ t (0, 0)) :: own) ds) : SOL false P r F n all (o :: l) Q env own ds := fun k hk => by
  obtain ⟨i, k', rfl, hi, hk'⟩ := unl hk
  exact so_alloc hi hd (Nat.le_of_ble_eq_true hn) hg ho hz (fun b => h b k' hk')
theorem sl_box {d : Nat} {t : TypeId} {x : Operand} {v : Value} {cs : List Value} (hd : o.dst = some d) (hn : Nat.blt d n = true) (hg : wantedE all env o = some true) (ho : o.op = .box t x) (hx : ev env x = some v) (hz : cellsO v = some cs)
    (h : ∀ b, SOL false P r F n all l Q ((d, .pointer (some ⟨b, 0, none⟩)) :: env) (blk b (.cells ⟨cs⟩ t (0, 0)) :: own) ds) : SOL false P r F n all (o :: l) Q env own ds := fun k hk => by
  obtain ⟨i, k', rfl, hi, hk'⟩ := unl hk
  exact so_box hi hd (Nat.le_of_ble_eq_true hn) hg ho hx hz (fun b => h b k' hk')
theorem sl_store {t T : TypeId} {x y : Operand} {b off : Nat} {v : Value} {cs vs cs' : List Value} {d : TypeDesc} {z : Value} {ti : TypeInfo} [ty : Ty P t d z ti]
    (hd : o.dst = none) (hg : wantedE all env o = some true) (ho : o.op = .store t x y) (hx : ev env x = some (.pointer (some ⟨b, off, none⟩))) (hy : ev env y = some v)
    (hv : cellsO v = some vs) (hsz : vs.length = ti.size) (h1 : vs.all (·.oneCell') = true) [m : At own b (.cells ⟨cs⟩ T (0, 0))] (hc : spliceO cs off vs = some cs') [pb : PutB own b (.cells ⟨cs⟩ T (0, 0)) (.cells ⟨cs'⟩ T (0, 0)) own']
    (h : SOL false P r F n all l Q env own' ds) : SOL false P r F n all (o :: l) Q env own ds := fun k hk => by
  obtain ⟨i, k', rfl, hi, hk'⟩ := unl hk
  exact so_store hi hd hg ho hx hy hv hsz h1 hc (h k' hk')
theorem sl_call {c : Call} {x : Operand} {f : FuncId} {first captured : Array Value} {vs vall : List Value} {R : Ending → List Heap → Prop} [Enters P f] [t : TakeL own hs rest] {d : Nat}
    (hd : o.dst = some d) (hn : Nat.blt d n = true) (hg : wantedE all env o = some true)
    (ho : o.op = .call c) (hc : c.callee = .value x) (hx : ev env x = some (.func (.func f) first captured)) (hvs : evs env c.args.toList = some vs)
    (hall : appO first.toList vs captured.toList = some vall) (h : T P f vall hs R)
    (hr : ∀ e own', R e own' → (∃ v, e = .returned v ∧ SOL false P r F n all l Q ((d, v) :: env) (own' ++ rest) ds) ∨ (∃ ch, e = .panicked ch ∧ Q (.panic ch) env (own' ++ rest) ds)) :
    SOL false P r F n all (o :: l) Q env own ds := fun k hk => by
  obtain ⟨i, k', rfl, hi, hk'⟩ := unl hk
  exact so_call hi hd (Nat.le_of_ble_eq_true hn) hg ho hc hx hvs (appO_eq hall) h fun e own' hR => (hr e own' hR).imp (fun ⟨v, h1, h2⟩ => ⟨v, h1, h2 k' hk'⟩) _root_.id

theorem thn_k (h : K env own ds) : Thn K Q .normal env own ds := h
theorem thn_ret (h : Q .ret env own ds) : Thn K Q .ret env own ds := h
theorem thn_exit {id : Nat} (h : Q (.exit id) env own ds) : Thn K Q (.exit id) env own ds := h
theorem thn_panic {ch : List PanicEntry} (h : Q (.panic ch) env own ds) : Thn K Q (.panic ch) env own ds := h
theorem inb_k {id : Nat} (h : Q .normal env own ds) : InB id Q .normal env own ds := h
theorem inb_ret {id : Nat} (h : Q .ret env own ds) : InB id Q .ret env own ds := h
theorem inb_panic {id : Nat} {ch : List PanicEntry} (h : Q (.panic ch) env own ds) : InB id Q (.panic ch) env own ds := h
theorem inb_exit {id : Nat} (h : Q .normal env own ds) : InB id Q (.exit id) env own ds := by simp only [InB, if_true]; exact h
theorem inb_out {id id' : Nat} (hne : Nat.beq id' id = false) (h : Q (.exit id') env own ds) : InB id Q (.exit id') env own ds := by
  have : id' ≠ id := fun e => by subst e; simp at hne
  simp only [InB, if_neg this]; exact h
end

theorem end_pure {P : Program} {fn : Func} {n : Nat} {own own1 hs rest : List Heap} {ds : List Deferred} {env : Env} {v v' : Value} [m : Marks ds own own1] [t : TakeL own1 hs rest] (hr : ResOk P fn.results.toList own1 env n v') (hv : v' = v) :
    bodyQ P fn n (fun e own' => e = .returned v ∧ own' = hs) .ret env own ds :=
  ⟨v', own1, hs, m, hr, fun F _ s => (s.perm (t.perm.cons F)).sub (List.Sublist.cons_cons F (List.sublist_append_left _ _)), by rw [hv], rfl⟩
theorem end_pure' {P : Program} {fn : Func} {n : Nat} {own own1 hs rest : List Heap} {ds : List Deferred} {env : Env} {v v' : Value} [m : Marks ds own own1] [t : TakeL own1 hs rest] (hr : ResOk P fn.results.toList own1 env n v') (hv : v' = v) :
    bodyQ P fn n (fun e own' => e = .returned v ∧ own' = hs) .normal env own ds :=
  ⟨v', own1, hs, m, hr, fun F _ s => (s.perm (t.perm.cons F)).sub (List.Sublist.cons_cons F (List.sublist_append_left _ _)), by rw [hv], rfl⟩
/-- The end of a body, whatever is to be said of it; what is left behind is picked out. -/
theorem end_ret {P : Program} {fn : Func} {n : Nat} {own own1 rest : List Heap} (hs : List Heap) {ds : List Deferred} {env : Env} {v : Value} {Q : Ending → List Heap → Prop} [m : Marks ds own own1] [t : TakeL own1 hs rest] (hr : ResOk P fn.results.toList own1 env n v) (hq : Q (.returned v) hs) :
    bodyQ P fn n Q .ret env own ds :=
  ⟨v, own1, hs, m, hr, fun F _ s => (s.perm (t.perm.cons F)).sub (List.Sublist.cons_cons F (List.sublist_append_left _ _)), hq⟩
theorem end_ret' {P : Program} {fn : Func} {n : Nat} {own own1 rest : List Heap} (hs : List Heap) {ds : List Deferred} {env : Env} {v : Value} {Q : Ending → List Heap → Prop} [m : Marks ds own own1] [t : TakeL own1 hs rest] (hr : ResOk P fn.results.toList own1 env n v) (hq : Q (.returned v) hs) :
    bodyQ P fn n Q .normal env own ds :=
  ⟨v, own1, hs, m, hr, fun F _ s => (s.perm (t.perm.cons F)).sub (List.Sublist.cons_cons F (List.sublist_append_left _ _)), hq⟩
theorem pure_of_body {P : Program} {f : FuncId} {fn : Func} {c : Code} {args : List Value} {hs : List Heap} {v : Value} (hf : P.funcs[f]? = some fn) (hb : fn.body = some c)
    (hn : args.length ≤ fn.ntmps) (h : ∀ F, SWP P none F fn.ntmps c (bodyQ P fn fn.ntmps fun e own => e = .returned v ∧ own = hs) (params args 0) hs []) : PFn P f args hs v := t_of_body hf hb hn h
theorem PFn.to {P : Program} {f : FuncId} {args : List Value} {hs : List Heap} {v v' : Value} (h : PFn P f args hs v) (e : v = v') : PFn P f args hs v' := e ▸ h
theorem PFn.T {P : Program} {f : FuncId} {args : List Value} {hs : List Heap} {v : Value} (h : PFn P f args hs v) : SL.T P f args hs fun e own => e = .returned v ∧ own = hs := h
end Go.SL
