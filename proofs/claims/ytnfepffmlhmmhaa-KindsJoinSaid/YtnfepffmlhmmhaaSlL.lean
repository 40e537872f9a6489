/- Structs compared; loads of several cells of a slice. -/
import Derived.Test.YtnfepffmlhmmhaaSlK
import Derived.Laws.StructEq
namespace Go.SL

def eqC : Nat → Value → Value → Option Bool
  | 0, .int k a, .int k' b => if k = k' then some (decide (a = b)) else none
  | 1, .bool a, .bool b => some (a == b)
  | 2, .string a, .string b => some (a.toList == b.toList)
  | _, _, _ => none
def eqS (xs ys : List Value) : List (Nat × Nat) → Option Bool
  | [] => some true
  | (i, k) :: r => match nth xs i with
    | some a => match nth ys i with
      | some b => match eqC k a b with
        | some e => match eqS xs ys r with
          | some e' => some (e && e')
          | none => none
        | none => none
      | none => none
    | none => none
def eqKind (P : Program) (t : TypeId) : Nat := match P.underlying t with
  | some (.int _) => 0
  | some .bool => 1
  | some .string => 2
  | _ => 3
theorem run_eqC {P : Program} {t : TypeId} {d : Nat} {a b : Value} {e : Bool} (w : World) (h : eqC (eqKind P t) a b = some e) :
    (Op.equalIn (d + 1) t a b).run P w = .ok e w ∧ aggD ((P.underlying t).getD .bool) = false ∧ (P.underlying t).isSome = true := by
  unfold eqKind at h
  cases hu : P.underlying t with
  | none => rw [hu] at h; simp only at h; unfold eqC at h; split at h <;> first | cases h | skip
            all_goals simp_all
  | some de =>
    rw [hu] at h
    cases de <;> simp only at h <;> unfold eqC at h <;> split at h <;> simp_all
    all_goals first
      | (obtain ⟨rfl, rfl⟩ := h; exact ⟨run_equalIn_int w d t _ _ _ _ hu, rfl⟩)
      | (subst h; exact ⟨run_equalIn_bool w d t _ _ hu, rfl⟩)
      | (subst h; exact ⟨run_equalIn_string w d t _ _ hu, rfl⟩)
      | skip
theorem run_partC {P : Program} {t : TypeId} {xs : List Value} {off : Nat} {v : Value} (w : World) (h1 : aggD ((P.underlying t).getD .bool) = false) (h2 : (P.underlying t).isSome = true) (hx : nth xs off = some v) : (part t ⟨xs⟩ off).run P w = .ok v w := by
  rw [nth_eq] at hx
  cases hu : P.underlying t with
  | none => rw [hu] at h2; cases h2
  | some d =>
    rw [hu] at h1
    have hx' : (⟨xs⟩ : Array Value)[off]? = some v := by simpa using hx
    cases d
    case struct => cases h1
    case array => cases h1
    all_goals simp [part, isAgg, run_underlying hu, hx]
theorem run_eqFieldsS {P : Program} (w : World) (d : Nat) {xs ys : List Value} : ∀ (fs : List Field) (r : Bool), (∀ f ∈ fs, f.name ≠ "_") → eqS xs ys (fs.map fun f => (f.offset, eqKind P f.type)) = some r →
    (Op.eqFields (d + 1) ⟨xs⟩ ⟨ys⟩ fs).run P w = .ok r w := by
  intro fs
  induction fs with
  | nil => intro r _ h; cases h; simp [Op.eqFields]
  | cons f fs ih =>
    intro r hn h
    simp only [List.map_cons, eqS] at h
    cases h1 : nth xs f.offset with
    | none => rw [h1] at h; cases h
    | some a =>
      rw [h1] at h
      cases h2 : nth ys f.offset with
      | none => rw [h2] at h; cases h
      | some b =>
        rw [h2] at h
        cases h3 : eqC (eqKind P f.type) a b with
        | none => simp only [h3] at h; cases h
        | some e =>
          simp only [h3] at h
          cases h4 : eqS xs ys (fs.map fun f => (f.offset, eqKind P f.type)) with
          | none => simp only [h4] at h; cases h
          | some e' =>
            simp only [h4, Option.some.injEq] at h
            subst h
            obtain ⟨g1, g2, g3⟩ := run_eqC (d := d) w h3
            have g4 := ih e' (fun g hg => hn g (List.mem_cons_of_mem _ hg)) h4
            simp only [Op.eqFields, hn f (List.mem_cons_self ..), ne_eq, not_false_eq_true, if_true, Sem.run_bind, run_partC w g2 g3 h1, run_partC w g2 g3 h2, g1, Result.andThen_ok]
            cases e
            · simp
            · simpa using g4

/-- A struct of numbers, bools and strings, to be compared. -/
class TyQ (P : Program) (t : TypeId) (ks : outParam (List (Nat × Nat))) : Prop where
  u : P.underlying t = some (.struct (P.fieldsOf t))
  st : P.stoodInHeld t = false
  g : P.eqGuardType P.depth t = false
  nm : (P.fieldsOf t).toList.all (fun f => f.name != "_") = true
  ks : (P.fieldsOf t).toList.map (fun f => (f.offset, eqKind P f.type)) = ks
theorem TyQ.run {P : Program} {t : TypeId} {ks : List (Nat × Nat)} (q : TyQ P t ks) {xs ys : List Value} {r : Bool} (h : eqS xs ys ks = some r) (w : World) : (Op.equal t (.agg ⟨xs⟩) (.agg ⟨ys⟩)).run P w = .ok r w := by
  have h1 := run_equalIn_struct w 9999 t ⟨xs⟩ ⟨ys⟩ q.u q.st
  refine h1.trans (run_eqFieldsS w 9998 _ r (fun f hf => ?_) (by rw [q.ks]; exact h))
  have := List.all_eq_true.1 q.nm f hf
  simpa using this

section
variable {P : Program} {own : List Heap} {n : Nat} {env : Env} {o : Oper}
theorem opv_eqlS {t u : TypeId} {x y : Operand} {xs ys : List Value} {ks : List (Nat × Nat)} {r : Bool} [q : TyQ P t ks] (ho : o.op = .binOp .eql t x y u) (hx : ev env x = some (.agg ⟨xs⟩)) (hy : ev env y = some (.agg ⟨ys⟩)) (h : eqS xs ys ks = some r) : OpV P own n o env (.bool r) :=
  opv_run (by rw [ho]; rfl) fun c w ha => by
    have hg : (eqGuard .eql t x y (.agg ⟨xs⟩) (.agg ⟨ys⟩)).run P w = .ok () w := by simp [eqGuard, q.g]
    simp only [execOp, ho, ha.eval hx, ha.eval hy]
    simp [hg, binOp, q.run h]
theorem opv_neqS {t u : TypeId} {x y : Operand} {xs ys : List Value} {ks : List (Nat × Nat)} {r : Bool} [q : TyQ P t ks] (ho : o.op = .binOp .neq t x y u) (hx : ev env x = some (.agg ⟨xs⟩)) (hy : ev env y = some (.agg ⟨ys⟩)) (h : eqS xs ys ks = some r) : OpV P own n o env (.bool (!r)) :=
  opv_run (by rw [ho]; rfl) fun c w ha => by
    have hg : (eqGuard .neq t x y (.agg ⟨xs⟩) (.agg ⟨ys⟩)).run P w = .ok () w := by simp [eqGuard, q.g]
    simp only [execOp, ho, ha.eval hx, ha.eval hy]
    simp [hg, binOp, q.run h]
/-- Several cells of a slice, as one value. -/
theorem opv_loadEL {t : TypeId} {x : Operand} {k sz : Nat} {base : Option Addr} {cs ds vs : List Value} [ty : TyA P t sz] (ho : o.op = .load t x) (hx : ev env x = some (ept base k)) [m : SlIn own base cs] (hd : dropO cs k = some ds) (hv : takeO ds sz = some vs) (hpos : Nat.blt 0 sz = true) : OpV P own n o env (.agg ⟨vs⟩) := by
  obtain ⟨rfl, h1⟩ := dropO_eq hd
  obtain ⟨rfl, h2⟩ := takeO_eq hv
  refine opv_loadEA ho hx (Nat.le_of_ble_eq_true hpos) ?_ fun j v hj => ?_
  · simp at h2 ⊢; omega
  · have hj' := (List.getElem?_eq_some_iff.1 hj).1
    rw [List.getElem?_take] at hj
    split at hj
    · rwa [List.getElem?_drop] at hj
    · cases hj
end
end Go.SL
