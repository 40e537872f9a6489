/- Slices of slices; heaps in another order. -/
import Derived.Test.YtnfepffmlhmmhaaSlP
namespace Go.SL

theorem run_bound {P : Program} {k : IntKind} {j : Int} {y : Nat} {code : BoundsCode} (h0 : 0 ≤ j) (h1 : j ≤ y) (w : World) : (Instr.sliceBound (.int k j) y code).run P w = .ok j.toNat w := by
  simp [Instr.sliceBound, asIntOf, h0, h1]
/-- Where a slice begins that leaves so many away. -/
def sub (base : Option Addr) (l m sz : Nat) : Option Addr := if m = l then base else base.map (·.add (l * sz))
theorem sub_zero (base : Option Addr) (m sz : Nat) : sub base 0 m sz = base := by
  unfold sub; split
  · rfl
  · cases base <;> simp [add_zero']
section
variable {P : Program} {own : List Heap} {n : Nat} {env : Env} {o : Oper}
theorem opv_sliceHi {t e : TypeId} {sz : Nat} {x y : Operand} {base : Option Addr} {len cap : Nat} {k : IntKind} {j : Int} [h1 : TyE P t e sz] (ho : o.op = .slice t x none (some y) none) (hx : ev env x = some (.slice base len cap)) (hy : ev env y = some (.int k j))
    (h0 : 0 ≤ j) (hj : j ≤ cap) : OpV P own n o env (.slice base j.toNat cap) :=
  opv_run (by rw [ho]; rfl) fun a w ha => by
    have hs := sub_zero base cap sz
    unfold sub at hs
    simp only [Nat.zero_mul] at hs
    simp [execOp, ho, ha.eval hx, ha.eval hy, Instr.sliceAt, Instr.slice, Instr.sliceBounds, run_und h1.u, h1.s, run_bound h0 hj]
    intro h; rw [if_neg h] at hs; exact hs
theorem opv_sliceLo {t e : TypeId} {sz : Nat} {x y : Operand} {base : Option Addr} {len cap : Nat} {k : IntKind} {j : Int} [h1 : TyE P t e sz] (ho : o.op = .slice t x (some y) none none) (hx : ev env x = some (.slice base len cap)) (hy : ev env y = some (.int k j))
    (h0 : 0 ≤ j) (hj : j ≤ len) : OpV P own n o env (.slice (sub base j.toNat cap sz) (len - j.toNat) (cap - j.toNat)) :=
  opv_run (by rw [ho]; rfl) fun a w ha => by
    simp [execOp, ho, ha.eval hx, ha.eval hy, Instr.sliceAt, Instr.slice, Instr.sliceBounds, run_und h1.u, h1.s, run_bound h0 hj, sub]
end
section
variable {P : Program} {own : List Heap} {n : Nat} {env : Env} {o : Oper}
theorem opv_loadEx {t : TypeId} {x : Operand} {k : Nat} {base : Option Addr} {cs : List Value} {v : Value} [ty : TyS P t] (ho : o.op = .load t x) (hx : ev env x = some (ept base k)) (m : SlIn own base cs) (hv : cs[k]? = some v) : OpV P own n o env v := opv_loadE ho hx hv
theorem opv_loadELx {t : TypeId} {x : Operand} {k sz : Nat} {base : Option Addr} {cs ds vs : List Value} [ty : TyA P t sz] (ho : o.op = .load t x) (hx : ev env x = some (ept base k)) (m : SlIn own base cs) (hd : dropO cs k = some ds) (hv : takeO ds sz = some vs) (hpos : Nat.blt 0 sz = true) : OpV P own n o env (.agg ⟨vs⟩) := opv_loadEL ho hx hd hv hpos
/-- A struct of two cells of a slice. -/
theorem opv_load2 {t : TypeId} {x : Operand} {k : Nat} {base : Option Addr} {cs : List Value} {v u : Value} [ty : TyA P t 2] (ho : o.op = .load t x) (hx : ev env x = some (ept base k)) (m : SlIn own base cs) (hv : cs[k]? = some v) (hu : cs[k + 1]? = some u) : OpV P own n o env (.agg ⟨[v, u]⟩) :=
  opv_loadEA (vs := [v, u]) ho hx (Nat.succ_pos 1) rfl fun j w hj => by
    match j, hj with
    | 0, hj => simp at hj; subst hj; exact hv
    | 1, hj => simp at hj; subst hj; exact hu
end
theorem Sl.take {h : Heap} {base : Option Addr} {cs : List Value} (s : Sl h base cs) (k : Nat) : Sl h base (cs.take k) :=
  ⟨fun j v hj => s.cell j v (by rw [List.getElem?_take] at hj; split at hj <;> first | exact hj | cases hj)⟩
theorem Sl.drop {h : Heap} {base : Option Addr} {cs : List Value} (s : Sl h base cs) (l m sz : Nat) (hl : cs.length ≤ m * sz) : Sl h (sub base l m sz) (cs.drop (l * sz)) :=
  ⟨fun j v hj => by
    rw [List.getElem?_drop] at hj
    obtain ⟨a, arr, T, fz, h1, h2, h3, h4⟩ := s.cell _ v hj
    have hlt := (List.getElem?_eq_some_iff.1 hj).1
    have hne : m ≠ l := fun e => by subst e; omega
    obtain ⟨b, off, sp⟩ := a
    simp only at h2; subst h2; subst h1
    refine ⟨⟨b, off + l * sz, Option.none⟩, arr, T, fz, ?_, rfl, h3, by simpa [Nat.add_assoc] using h4⟩
    simp [sub, hne, addr_add]⟩
section
variable {P : Program} {r : Option Nat} {F : Heap} {n : Nat} {Q : SPost} {env : Env} {own own' rest : List Heap} {ds : List Deferred}
theorem swp_perm {c : Code} (p : own.Perm own') (h : SWP P r F n c Q env own' ds) : SWP P r F n c Q env own ds :=
  fun a w ha hd hs => h a w ha hd (hs.perm (p.cons F))
/-- Where ways meet again. -/
theorem swp_joinS {S : Type} (E : S → Env) (O : S → List Heap) (I : S → Prop) {c y : Code} {Q2 Q3 : SPost}
    (h1 : SWP P r F n c (Thn (fun env' own' ds' => ds' = ds ∧ ∃ s, (Sub (E s) env' ∧ ∀ w, Sat (F :: own') w → Sat (F :: O s) w) ∧ I s) Q3) env own ds) (h2 : ∀ s, I s → SWP P r F n y Q2 (E s) (O s) ds) :
    SWP P r F n c (Thn (SWP P r F n y Q2) Q3) env own ds := by
  refine h1.mono fun e env' own' ds' h => ?_
  cases e with
  | normal =>
    obtain ⟨rfl, s, ⟨g1, g2⟩, hI⟩ := h
    exact SWP.weaken g1 g2 (h2 s hI)
  | _ => exact h
theorem next_perm {E : Env} {O O' : List Heap} [t : TakeL own O' rest] (p : O'.Perm O) (h : Sub E env) : Sub E env ∧ ∀ w, Sat (F :: own) w → Sat (F :: O) w :=
  ⟨h, fun _ s => ((s.perm (t.perm.cons F)).sub (List.Sublist.cons_cons F (List.sublist_append_left _ _))).perm (p.cons F)⟩
end
/-- What sort of operation it is: for the walk's driver. -/
def kindOf : Op → Nat
  | .move _ | .assign _ | .pick .. | .extract .. | .makeFunc .. => 0
  | .unOp .. => 0
  | .binOp op .. => match op with
    | .eql | .neq | .lss | .leq | .gtr | .geq => 2
    | _ => 1
  | .load .. | .fieldAddr .. | .indexAddr .. | .index .. | .field .. => 3
  | .call _ => 4
  | _ => 5
theorem gk (k : Nat) {q : Bool} {P : Program} {r : Option Nat} {F : Heap} {n : Nat} {Q : SPost} {env : Env} {own : List Heap} {ds : List Deferred} {all : Array Oper} {l : List Oper} {o : Oper} (_ : kindOf o.op = k)
    (h : SOL q P r F n all (o :: l) Q env own ds) : SOL q P r F n all (o :: l) Q env own ds := h
end Go.SL
