/- Arrays: their elements, as values and as places; bools compared; slices of slices. -/
import Derived.Test.YtnfepffmlhmmhaaSlN
namespace Go.SL

/-- An array type: how many, of what, in how many cells. -/
class TyR (P : Program) (t : TypeId) (n : outParam Nat) (e : outParam TypeId) (sz : outParam Nat) : Prop where
  u : P.underlying t = some (.array n e)
  s : ∀ w, (sizeOf e).run P w = .ok sz w
theorem tyR_mk {P : Program} {t e : TypeId} {n sz : Nat} {i : TypeInfo} (h1 : P.underlying t = some (.array n e)) (h2 : P.info? e = some i) (h3 : i.size = sz) : TyR P t n e sz :=
  ⟨h1, fun w => by rw [run_size h2, h3]⟩

section
variable {P : Program} {own : List Heap} {n : Nat} {env : Env} {o : Oper}
theorem opv_index {t e : TypeId} {len sz : Nat} {x ix : Operand} {k : IntKind} {j : Int} {cs : List Value} {v : Value} [h1 : TyR P t len e sz] [h2 : TyS P e] (ho : o.op = .index t x ix) (hx : ev env x = some (.agg ⟨cs⟩)) (hi : ev env ix = some (.int k j))
    (h0 : 0 ≤ j) (hlt : j < len) (hv : cs[j.toNat * sz]? = some v) : OpV P own n o env v :=
  opv_run (by rw [ho]; rfl) fun a w ha => by
    simp [execOp, ho, ha.eval hx, ha.eval hi, Instr.index, asIntOf, run_und h1.u, h0, hlt, h1.s, part, h2.run, hv]
theorem opv_indexA {t e : TypeId} {len sz : Nat} {x ix : Operand} {k : IntKind} {j : Int} {cs vs : List Value} [h1 : TyR P t len e sz] [h2 : TyA P e sz] (ho : o.op = .index t x ix) (hx : ev env x = some (.agg ⟨cs⟩)) (hi : ev env ix = some (.int k j))
    (h0 : 0 ≤ j) (hlt : j < len) (hv : (cs.drop (j.toNat * sz)).take sz = vs) : OpV P own n o env (.agg ⟨vs⟩) :=
  opv_run (by rw [ho]; rfl) fun a w ha => by
    simp [execOp, ho, ha.eval hx, ha.eval hi, Instr.index, asIntOf, run_und h1.u, h0, hlt, h1.s, part, h2.run, hv]
/-- An element's place, in an array that lies in a variable. -/
theorem opv_indexAddrR {t e : TypeId} {len sz : Nat} {x ix : Operand} {k : IntKind} {j : Int} {b off : Nat} [h1 : TyR P t len e sz] (ho : o.op = .indexAddr t x ix) (hx : ev env x = some (.pointer (some ⟨b, off, none⟩))) (hi : ev env ix = some (.int k j))
    (h0 : 0 ≤ j) (hlt : j < len) : OpV P own n o env (.pointer (some ⟨b, off + j.toNat * sz, none⟩)) :=
  opv_run (by rw [ho]; rfl) fun a w ha => by
    simp [execOp, ho, ha.eval hx, ha.eval hi, Instr.indexAt, asIntOf, run_und h1.u, h0, hlt, h1.s, Instr.sureAddr, addr_add]
theorem opv_eqlB {t u : TypeId} {x y : Operand} {a b : Bool} (hu : P.underlying t = some .bool) (ho : o.op = .binOp .eql t x y u) (hx : ev env x = some (.bool a)) (hy : ev env y = some (.bool b)) : OpV P own n o env (.bool (a == b)) :=
  opv_run (by rw [ho]; rfl) fun c w ha => by
    simp [execOp, ho, ha.eval hx, ha.eval hy, eqGuard, binOp, run_equal_bool w t a b hu]
theorem opv_neqB {t u : TypeId} {x y : Operand} {a b : Bool} (hu : P.underlying t = some .bool) (ho : o.op = .binOp .neq t x y u) (hx : ev env x = some (.bool a)) (hy : ev env y = some (.bool b)) : OpV P own n o env (.bool (!(a == b))) :=
  opv_run (by rw [ho]; rfl) fun c w ha => by
    simp [execOp, ho, ha.eval hx, ha.eval hy, eqGuard, binOp, run_equal_bool w t a b hu]
end
section
variable {P : Program} {r : Option Nat} {F : Heap} {n : Nat} {Q : SPost} {env : Env} {own : List Heap} {ds : List Deferred} {q : Bool} {all : Array Oper} {l : List Oper} {o : Oper}
theorem sl_tt {b : Bool} {d : Nat} (hd : o.dst = some d) (hn : Nat.blt d n = true) (hg : wantedE all env o = some true) (hv : OpV P (F :: own) n o env (.bool b)) (hb : b = true)
    (h : SOL q P r F n all l Q ((d, .bool true) :: env) own ds) : SOL q P r F n all (o :: l) Q env own ds := by
  subst hb; exact sl_op hd hn hg hv h
theorem sl_ff {b : Bool} {d : Nat} (hd : o.dst = some d) (hn : Nat.blt d n = true) (hg : wantedE all env o = some true) (hv : OpV P (F :: own) n o env (.bool b)) (hb : b = false)
    (h : SOL q P r F n all l Q ((d, .bool false) :: env) own ds) : SOL q P r F n all (o :: l) Q env own ds := by
  subst hb; exact sl_op hd hn hg hv h
end
end Go.SL
