/- Operations over environments and heaps. -/
import Derived.Test.YtnfepffmlhmmhaaSlD
namespace Go.SL

/-! ### Types' facts -/
class Ty (P : Program) (t : TypeId) (d : outParam TypeDesc) (z : outParam Value) (i : outParam TypeInfo) : Prop where
  u : P.underlying t = some d
  z : ∀ w, (zeroValue t).run P w = .ok z w
  i : P.info? t = some i

def aggD : TypeDesc → Bool
  | .struct _ | .array _ _ => true
  | _ => false

section
variable {P : Program}
theorem run_und {t : TypeId} {d : TypeDesc} (h : P.underlying t = some d) (w : World) : (underlying t).run P w = .ok d w := by simp [underlying, h]
theorem run_info {t : TypeId} {i : TypeInfo} (h : P.info? t = some i) (w : World) : (typeInfo t).run P w = .ok i w := by simp [typeInfo, h]
theorem run_size {t : TypeId} {i : TypeInfo} (h : P.info? t = some i) (w : World) : (sizeOf t).run P w = .ok i.size w := by simp [sizeOf, run_info h]
theorem run_agg {t : TypeId} {d : TypeDesc} (h : P.underlying t = some d) (w : World) : (isAgg t).run P w = .ok (aggD d) w := by
  simp only [isAgg, Sem.run_bind, run_und h, Result.andThen]
  cases d <;> rfl
end

theorem addr_add (b o k : Nat) : Addr.add ⟨b, o, none⟩ k = ⟨b, o + k, none⟩ := by
  unfold Addr.add; split
  · rename_i e; rw [e]; rfl
  · rfl
/-- A field's place. -/
class TyF (P : Program) (t : TypeId) (k : Nat) (off : outParam Nat) : Prop where
  run : ∀ a w, (Instr.fieldAt t (.pointer (some a)) k).run P w = .ok (.pointer (some (a.add off))) w
theorem tyF_mk {P : Program} {t : TypeId} {k off : Nat} {fs : Array Field} {f : Field} {i : TypeInfo} (h1 : P.underlying t = some (.struct fs)) (h2 : fs[k]? = some f) (h3 : P.info? f.type = some i) (h4 : Nat.blt 0 i.size = true) (h5 : f.offset = off) : TyF P t k off :=
  ⟨fun a w => by
    subst h5
    have hz : i.size ≠ 0 := by have := Nat.le_of_ble_eq_true h4; omega
    simp [Instr.fieldAt, run_und h1, h2, Instr.sureAddr, fieldPlace, run_size h3, hz]⟩

/-! ### Lists by Option: the whole list comes out when one asks -/
def nth {α : Type} : List α → Nat → Option α
  | [], _ => none
  | x :: _, 0 => some x
  | _ :: r, k + 1 => nth r k
theorem nth_eq {α : Type} : ∀ {l : List α} {k : Nat}, nth l k = l[k]? := by
  intro l
  induction l with
  | nil => intro k; rfl
  | cons x r ih => intro k; cases k with
    | zero => rfl
    | succ k => simp [nth, ih]
def setO {α : Type} : List α → Nat → α → Option (List α)
  | [], _, _ => none
  | _ :: r, 0, v => some (v :: r)
  | x :: r, k + 1, v => match setO r k v with
    | some r' => some (x :: r')
    | none => none
theorem setO_eq {α : Type} : ∀ {l l' : List α} {k : Nat} {v : α}, setO l k v = some l' → l' = l.set k v ∧ k < l.length := by
  intro l
  induction l with
  | nil => intro l' k v h; cases h
  | cons x r ih => intro l' k v h; cases k with
    | zero => cases h; simp
    | succ k =>
      simp only [setO] at h
      cases e : setO r k v with
      | none => rw [e] at h; cases h
      | some r' => rw [e] at h; cases h; obtain ⟨h1, h2⟩ := ih e; simp [h1, h2]
def takeO {α : Type} : List α → Nat → Option (List α)
  | _, 0 => some []
  | [], _ + 1 => none
  | x :: r, k + 1 => match takeO r k with
    | some r' => some (x :: r')
    | none => none
theorem takeO_eq {α : Type} : ∀ {l l' : List α} {k : Nat}, takeO l k = some l' → l' = l.take k ∧ k ≤ l.length := by
  intro l
  induction l with
  | nil => intro l' k h; cases k with
    | zero => cases h; simp
    | succ k => cases h
  | cons x r ih => intro l' k h; cases k with
    | zero => cases h; simp
    | succ k =>
      simp only [takeO] at h
      cases e : takeO r k with
      | none => rw [e] at h; cases h
      | some r' => rw [e] at h; cases h; obtain ⟨h1, h2⟩ := ih e; simp [h1, h2]
def dropO {α : Type} : List α → Nat → Option (List α)
  | l, 0 => some l
  | [], _ + 1 => none
  | _ :: r, k + 1 => dropO r k
theorem dropO_eq {α : Type} : ∀ {l l' : List α} {k : Nat}, dropO l k = some l' → l' = l.drop k ∧ k ≤ l.length := by
  intro l
  induction l with
  | nil => intro l' k h; cases k with
    | zero => cases h; simp
    | succ k => cases h
  | cons x r ih => intro l' k h; cases k with
    | zero => cases h; simp
    | succ k => obtain ⟨h1, h2⟩ := ih h; simp [h1, h2]
def cellsO : Value → Option (List Value)
  | .agg ⟨l⟩ => some l
  | v => some [v]
theorem cellsO_eq {v : Value} {l : List Value} (h : cellsO v = some l) : v.cells = l.toArray := by
  unfold cellsO at h
  split at h
  · cases h; rfl
  · cases h; rename_i hv; cases v <;> first | rfl | (exfalso; rename_i a; exact hv a.toList rfl)

/-! ### Operations that look at no memory -/
section
variable {P : Program} {own : List Heap} {n : Nat} {env : Env} {o : Oper}

theorem opv_run {v : Value} (hp : plainOp o.op = true) (h : ∀ a w, Has n env a → (execOp a.eval o).run P w = .ok (.value v) w) : OpV P own n o env v :=
  ⟨hp, fun a w _ ha s => ⟨w, s, .inl (h a w ha)⟩⟩

theorem opv_move {x : Operand} {v : Value} (ho : o.op = .move x) (h : ev env x = some v) : OpV P own n o env v :=
  opv_run (by rw [ho]; rfl) fun a w ha => by simp [execOp, ho, ha.eval h]
theorem opv_assign {x : Operand} {v : Value} (ho : o.op = .assign x) (h : ev env x = some v) : OpV P own n o env v :=
  opv_run (by rw [ho]; rfl) fun a w ha => by simp [execOp, ho, ha.eval h]
theorem opv_pick_t {c x y : Operand} {v : Value} (ho : o.op = .pick c x y) (hc : ev env c = some (.bool true)) (h : ev env x = some v) : OpV P own n o env v :=
  opv_run (by rw [ho]; rfl) fun a w ha => by simp [execOp, ho, ha.eval h, ha.eval hc, asBool]
theorem opv_pick_f {c x y : Operand} {v : Value} (ho : o.op = .pick c x y) (hc : ev env c = some (.bool false)) (h : ev env y = some v) : OpV P own n o env v :=
  opv_run (by rw [ho]; rfl) fun a w ha => by simp [execOp, ho, ha.eval h, ha.eval hc, asBool]
theorem opv_not_t {x : Operand} {t : TypeId} (ho : o.op = .unOp .not t x) (h : ev env x = some (.bool true)) : OpV P own n o env (.bool false) :=
  opv_run (by rw [ho]; rfl) fun a w ha => by simp [execOp, ho, ha.eval h, Op.unary]
theorem opv_not_f {x : Operand} {t : TypeId} (ho : o.op = .unOp .not t x) (h : ev env x = some (.bool false)) : OpV P own n o env (.bool true) :=
  opv_run (by rw [ho]; rfl) fun a w ha => by simp [execOp, ho, ha.eval h, Op.unary]
theorem opv_not {x : Operand} {b : Bool} {t : TypeId} (ho : o.op = .unOp .not t x) (h : ev env x = some (.bool b)) : OpV P own n o env (.bool (!b)) :=
  opv_run (by rw [ho]; rfl) fun a w ha => by simp [execOp, ho, ha.eval h, Op.unary]
theorem opv_extract {x : Operand} {l : List Value} {k : Nat} {v : Value} (ho : o.op = .extract x k) (h : ev env x = some (.tuple ⟨l⟩)) (hk : nth l k = some v) : OpV P own n o env v :=
  opv_run (by rw [ho]; rfl) fun a w ha => by
    rw [nth_eq] at hk
    have : (⟨l⟩ : Array Value)[k]? = some v := by simpa using hk
    simp [execOp, ho, ha.eval h, Instr.extract, this]
theorem opv_makeFunc {fn : Fn} {xs ys : Array Operand} {vs us : List Value} (ho : o.op = .makeFunc fn xs ys) (h1 : evs env xs.toList = some vs) (h2 : evs env ys.toList = some us) :
    OpV P own n o env (.func fn ⟨vs⟩ ⟨us⟩) :=
  opv_run (by rw [ho]; rfl) fun a w ha => by
    have e1 : xs.map a.eval = ⟨vs⟩ := Array.ext' (by simpa using evs_eval ha h1)
    have e2 : ys.map a.eval = ⟨us⟩ := Array.ext' (by simpa using evs_eval ha h2)
    simp [execOp, ho, Instr.makeFunc, e1, e2]

/-! integers -/
theorem run_bin {op : BinOp} {t u : TypeId} {x y : Operand} {k : IntKind} {a b : Int} {v : Value} (ho : o.op = .binOp op t x y u) (hx : ev env x = some (.int k a)) (hy : ev env y = some (.int k b))
    (h : ∀ w, (binOp op t (.int k a) (.int k b)).run P w = .ok v w) : OpV P own n o env v :=
  opv_run (by rw [ho]; rfl) fun c w ha => by
    have hg : ∀ w, (eqGuard op t x y (.int k a) (.int k b)).run P w = .ok () w := fun w => by
      unfold eqGuard; cases op <;> simp
    simp only [execOp, ho, ha.eval hx, ha.eval hy]
    simp [hg, h]
theorem opv_add {t u : TypeId} {x y : Operand} {k : IntKind} {a b : Int} (ho : o.op = .binOp .add t x y u) (hx : ev env x = some (.int k a)) (hy : ev env y = some (.int k b)) : OpV P own n o env (.int k (k.wrap (a + b))) :=
  run_bin ho hx hy fun w => by simp [binOp, Op.intArith]
theorem opv_sub {t u : TypeId} {x y : Operand} {k : IntKind} {a b : Int} (ho : o.op = .binOp .sub t x y u) (hx : ev env x = some (.int k a)) (hy : ev env y = some (.int k b)) : OpV P own n o env (.int k (k.wrap (a - b))) :=
  run_bin ho hx hy fun w => by simp [binOp, Op.intArith]
theorem wrap64_id {x : Int} (h1 : -9223372036854775808 ≤ x) (h2 : x ≤ 9223372036854775807) : IntKind.i64.wrap x = x := by
  simp only [IntKind.wrap, IntKind.bits, IntKind.signed, Bool.true_and]
  split
  · rename_i h; simp at h; omega
  · rename_i h; simp at h; omega
theorem opv_add64 {t u : TypeId} {x y : Operand} {a b : Int} (ho : o.op = .binOp .add t x y u) (hx : ev env x = some (.int .i64 a)) (hy : ev env y = some (.int .i64 b)) (h1 : -9223372036854775808 ≤ a + b) (h2 : a + b ≤ 9223372036854775807) : OpV P own n o env (.int .i64 (a + b)) :=
  run_bin ho hx hy fun w => by simp [binOp, Op.intArith, wrap64_id h1 h2]
theorem opv_sub64 {t u : TypeId} {x y : Operand} {a b : Int} (ho : o.op = .binOp .sub t x y u) (hx : ev env x = some (.int .i64 a)) (hy : ev env y = some (.int .i64 b)) (h1 : -9223372036854775808 ≤ a - b) (h2 : a - b ≤ 9223372036854775807) : OpV P own n o env (.int .i64 (a - b)) :=
  run_bin ho hx hy fun w => by simp [binOp, Op.intArith, wrap64_id h1 h2]
theorem opv_mul {t u : TypeId} {x y : Operand} {k : IntKind} {a b : Int} (ho : o.op = .binOp .mul t x y u) (hx : ev env x = some (.int k a)) (hy : ev env y = some (.int k b)) : OpV P own n o env (.int k (k.wrap (a * b))) :=
  run_bin ho hx hy fun w => by simp [binOp, Op.intArith]
theorem opv_quo {t u : TypeId} {x y : Operand} {k : IntKind} {a b : Int} (ho : o.op = .binOp .quo t x y u) (hx : ev env x = some (.int k a)) (hy : ev env y = some (.int k b)) (h0 : b ≠ 0) : OpV P own n o env (.int k (k.wrap (a.tdiv b))) :=
  run_bin ho hx hy fun w => by simp [binOp, Op.intDiv, h0]
theorem opv_rem {t u : TypeId} {x y : Operand} {k : IntKind} {a b : Int} (ho : o.op = .binOp .rem t x y u) (hx : ev env x = some (.int k a)) (hy : ev env y = some (.int k b)) (h0 : b ≠ 0) : OpV P own n o env (.int k (a.tmod b)) :=
  run_bin ho hx hy fun w => by simp [binOp, Op.intDiv, h0]
theorem opv_lss {t u : TypeId} {x y : Operand} {k : IntKind} {a b : Int} (ho : o.op = .binOp .lss t x y u) (hx : ev env x = some (.int k a)) (hy : ev env y = some (.int k b)) : OpV P own n o env (.bool (decide (a < b))) :=
  run_bin ho hx hy fun w => by simp [binOp, Op.intCmp]
theorem opv_leq {t u : TypeId} {x y : Operand} {k : IntKind} {a b : Int} (ho : o.op = .binOp .leq t x y u) (hx : ev env x = some (.int k a)) (hy : ev env y = some (.int k b)) : OpV P own n o env (.bool (decide (a ≤ b))) :=
  run_bin ho hx hy fun w => by simp [binOp, Op.intCmp]
theorem opv_gtr {t u : TypeId} {x y : Operand} {k : IntKind} {a b : Int} (ho : o.op = .binOp .gtr t x y u) (hx : ev env x = some (.int k a)) (hy : ev env y = some (.int k b)) : OpV P own n o env (.bool (decide (b < a))) :=
  run_bin ho hx hy fun w => by simp [binOp, Op.intCmp]
theorem opv_geq {t u : TypeId} {x y : Operand} {k : IntKind} {a b : Int} (ho : o.op = .binOp .geq t x y u) (hx : ev env x = some (.int k a)) (hy : ev env y = some (.int k b)) : OpV P own n o env (.bool (decide (b ≤ a))) :=
  run_bin ho hx hy fun w => by simp [binOp, Op.intCmp]
theorem opv_eql {t u : TypeId} {x y : Operand} {k : IntKind} {a b : Int} (ho : o.op = .binOp .eql t x y u) (hx : ev env x = some (.int k a)) (hy : ev env y = some (.int k b)) : OpV P own n o env (.bool (decide (a = b))) :=
  run_bin ho hx hy fun w => by
    have : (a == b) = decide (a = b) := by cases h : decide (a = b) <;> simp_all
    simp [binOp, Op.intCmp, this]
theorem opv_neq {t u : TypeId} {x y : Operand} {k : IntKind} {a b : Int} (ho : o.op = .binOp .neq t x y u) (hx : ev env x = some (.int k a)) (hy : ev env y = some (.int k b)) : OpV P own n o env (.bool (decide (a ≠ b))) :=
  run_bin ho hx hy fun w => by
    have : (a != b) = decide (a ≠ b) := by by_cases h : a = b <;> simp [h, bne]
    simp [binOp, Op.intCmp, this]
/-- And, or, xor, and not: by the bits. -/
def bitsOp (op : BinOp) (k : IntKind) (a b : Int) : Int :=
  let x := BitVec.ofInt k.bits a
  let y := BitVec.ofInt k.bits b
  k.wrap ((match op with | .and => x &&& y | .or => x ||| y | .xor => x ^^^ y | _ => x &&& ~~~y).toNat : Nat)
theorem opv_bits {op : BinOp} {t u : TypeId} {x y : Operand} {k : IntKind} {a b : Int} (ho : o.op = .binOp op t x y u) (hx : ev env x = some (.int k a)) (hy : ev env y = some (.int k b))
    (hop : op = .and ∨ op = .or ∨ op = .xor ∨ op = .andNot) : OpV P own n o env (.int k (bitsOp op k a b)) :=
  run_bin ho hx hy fun w => by rcases hop with rfl | rfl | rfl | rfl <;> simp [binOp, Op.intBits, bitsOp]
def shl (k : IntKind) (a b : Int) : Int := k.wrap (a * 2 ^ (min b.toNat k.bits))
def shr (k : IntKind) (a b : Int) : Int := a.fdiv (2 ^ (min b.toNat k.bits))
theorem opv_shl {t u : TypeId} {x y : Operand} {k k' : IntKind} {a b : Int} (ho : o.op = .binOp .shl t x y u) (hx : ev env x = some (.int k a)) (hy : ev env y = some (.int k' b)) (h0 : 0 ≤ b) : OpV P own n o env (.int k (shl k a b)) :=
  opv_run (by rw [ho]; rfl) fun c w ha => by
    have : ¬ b < 0 := by omega
    simp [execOp, ho, ha.eval hx, ha.eval hy, eqGuard, binOp, Op.shift, this, shl]
theorem opv_shr {t u : TypeId} {x y : Operand} {k k' : IntKind} {a b : Int} (ho : o.op = .binOp .shr t x y u) (hx : ev env x = some (.int k a)) (hy : ev env y = some (.int k' b)) (h0 : 0 ≤ b) : OpV P own n o env (.int k (shr k a b)) :=
  opv_run (by rw [ho]; rfl) fun c w ha => by
    have : ¬ b < 0 := by omega
    simp [execOp, ho, ha.eval hx, ha.eval hy, eqGuard, binOp, Op.shift, this, shr]
theorem opv_convert {s t : TypeId} {ks kt : IntKind} {x : Operand} {a : Int} {z zt : Value} {i j : TypeInfo} [h1 : Ty P s (.int ks) z i] [h2 : Ty P t (.int kt) zt j] (ho : o.op = .convert s t x) (hx : ev env x = some (.int ks a)) : OpV P own n o env (.int kt (kt.wrap a)) :=
  opv_run (by rw [ho]; rfl) fun c w ha => by
    simp [execOp, ho, ha.eval hx, convert, run_und h1.u, run_und h2.u, Conv.intToInt]
/-- Where what comes out is known otherwise. -/
theorem OpV.to {v v' : Value} (h : OpV P own n o env v) (e : v = v') : OpV P own n o env v' := e ▸ h

/-! lengths; addresses -/
theorem opv_len {t : TypeId} {e : TypeId} {z : Value} {i : TypeInfo} {c : Call} {x : Operand} {base : Option Addr} {len cap : Nat} [h1 : Ty P t (.slice e) z i] (ho : o.op = .call c) (hc : c.callee = .builtin .len) (hax : c.args = #[x]) (hat : c.argTypes = #[t])
    (hx : ev env x = some (.slice base len cap)) : OpV P own n o env (.int .i64 len) :=
  opv_run (by rw [ho]; rfl) fun a w ha => by
    simp [execOp, ho, resolve, hc, hax, hat, invoke, builtin, Builtin.len_, ha.eval hx, run_und h1.u, goInt]
theorem opv_min {c : Call} {x y : Operand} {k : IntKind} {a b : Int} (ho : o.op = .call c) (hc : c.callee = .builtin .min) (hax : c.args = #[x, y])
    (hx : ev env x = some (.int k a)) (hy : ev env y = some (.int k b)) : OpV P own n o env (.int k (min a b)) :=
  opv_run (by rw [ho]; rfl) fun d w ha => by
    have : (if b < a then b else a) = min a b := by rw [Int.min_def]; split <;> split <;> omega
    simp [execOp, ho, resolve, hc, hax, invoke, builtin, Builtin.min_, Builtin.min2, ha.eval hx, ha.eval hy, this]
theorem opv_fieldAddr {t : TypeId} {x : Operand} {k : Nat} {off fo : Nat} {b : Nat} [h1 : TyF P t k fo] (ho : o.op = .fieldAddr t x k) (hx : ev env x = some (.pointer (some ⟨b, off, none⟩))) :
    OpV P own n o env (.pointer (some ⟨b, off + fo, none⟩)) :=
  opv_run (by rw [ho]; rfl) fun a w ha => by
    have := h1.run ⟨b, off, none⟩ w
    rw [addr_add] at this
    simp [execOp, ho, ha.eval hx, this]
end
end Go.SL
