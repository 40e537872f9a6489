/- Closed calls, run by the kernel: quiet operations on values with blocks. -/
import Derived.Test.YtnfepffmlhmmhaaSlV2
set_option linter.unusedVariables false
namespace Go.SL
noncomputable section

theorem den_ptr {ρ : Rn} {b off : Nat} {x : Value} (h : den ρ (.ptr b off) = some x) : ∃ i, ρ b = some i ∧ x = .pointer (some (i.at off)) := by
  simp only [den] at h
  split at h
  · rename_i i hi; cases h; exact ⟨i, hi, rfl⟩
  · cases h
theorem den_slc {ρ : Rn} {b off len : Nat} {c : Cap} {x : Value} (h : den ρ (.slc b off len c) = some x) : ∃ i, ρ b = some i ∧ i.ok c = true ∧ x = .slice (some (i.at off)) len (i.cp c) := by
  simp only [den] at h
  split at h
  · rename_i i hi
    split at h
    · rename_i hc; cases h; exact ⟨i, hi, hc, rfl⟩
    · cases h
  · cases h
theorem den_ptr_mk {ρ : Rn} {b off : Nat} {i : BI} (h : ρ b = some i) : den ρ (.ptr b off) = some (.pointer (some (i.at off))) := by simp only [den, h]
theorem den_slc_mk {ρ : Rn} {b off len : Nat} {c : Cap} {i : BI} (h : ρ b = some i) (hc : i.ok c = true) : den ρ (.slc b off len c) = some (.slice (some (i.at off)) len (i.cp c)) := by simp only [den, h, hc]
theorem den_tl {ρ : Rn} {b off d m sz : Nat} {x : Value} (h : den ρ (.tl b off d m sz) = some x) : ∃ i, ρ b = some i ∧ i.sz = sz ∧ x = .slice (some (i.at (tlOff (i.cap - m) off d))) 0 (i.cap - m) := by
  simp only [den] at h
  split at h
  · rename_i i hi
    split at h
    · rename_i hc; cases h; exact ⟨i, hi, Nat.eq_of_beq_eq_true hc, rfl⟩
    · cases h
  · cases h
theorem den_tl_mk {ρ : Rn} {b off d m : Nat} {i : BI} (h : ρ b = some i) : den ρ (.tl b off d m i.sz) = some (.slice (some (i.at (tlOff (i.cap - m) off d))) 0 (i.cap - m)) := by simp only [den, h, Nat.beq_refl]
theorem den_yl {ρ : Rn} {b : Nat} {x : Value} (h : den ρ (.yl b) = some x) : ∃ i, ρ b = some i ∧ x = .func (.yield i.blk) #[] #[] := by
  simp only [den] at h
  split at h
  · rename_i i hi; cases h; exact ⟨i, hi, rfl⟩
  · cases h
theorem den_tup {ρ : Rn} {l : List VV} {x : Value} (h : den ρ (.tup l) = some x) : ∃ xs, denL ρ l = some xs ∧ x = .tuple ⟨xs⟩ := by
  simp only [den] at h
  split at h
  · rename_i xs hl; cases h; exact ⟨xs, hl, rfl⟩
  · cases h
theorem den_agg {ρ : Rn} {l : List VV} {x : Value} (h : den ρ (.agg l) = some x) : ∃ xs, denL ρ l = some xs ∧ x = .agg ⟨xs⟩ := by
  simp only [den] at h
  split at h
  · rename_i xs hl; cases h; exact ⟨xs, hl, rfl⟩
  · cases h
theorem den_fn {ρ : Rn} {f : Fn} {a c : List VV} {x : Value} (h : den ρ (.fn f a c) = some x) : ∃ xs ys, denL ρ a = some xs ∧ denL ρ c = some ys ∧ x = .func f ⟨xs⟩ ⟨ys⟩ := by
  simp only [den] at h
  split at h
  · rename_i xs ys h1 h2; cases h; exact ⟨xs, ys, h1, h2, rfl⟩
  · cases h
theorem den_ifc {ρ : Rn} {t : TypeId} {v : VV} {x : Value} (h : den ρ (.ifc t v) = some x) : ∃ y, den ρ v = some y ∧ x = .iface t y := by
  simp only [den] at h
  split at h
  · rename_i y hy; cases h; exact ⟨y, hy, rfl⟩
  · cases h
theorem den_mp {ρ : Rn} {b : Nat} {x : Value} (h : den ρ (.mp b) = some x) : ∃ i, ρ b = some i ∧ x = .map (some i.blk) := by
  simp only [den] at h
  split at h
  · rename_i i hi; cases h; exact ⟨i, hi, rfl⟩
  · cases h
theorem at_add (i : BI) (off k : Nat) : (i.at off).add k = i.at (off + k) := by
  unfold BI.at; rw [addr_add, Nat.add_assoc]
theorem at_spot (i : BI) (off : Nat) : (i.at off).spot = none := rfl

section
variable {P : Program} {ρ : Rn} {E : VE} {env : Env} {H : VH} {own hs : List Heap} {n : Nat} {o : Oper}

/-! fields, elements -/
def fieldOff (P : Program) (t : TypeId) (k : Nat) : Option Nat := match P.underlying t with
  | some (.struct fs) => match fs[k]? with
    | some f => match P.info? f.type with
      | some i => match Nat.blt 0 i.size with
        | true => some f.offset
        | false => none
      | none => none
    | none => none
  | _ => none
theorem fieldOff_ok {t : TypeId} {k off : Nat} (h : fieldOff P t k = some off) : TyF P t k off := by
  unfold fieldOff at h
  split at h
  · rename_i fs h1
    split at h
    · rename_i f h2
      split at h
      · rename_i i h3
        split at h
        · rename_i h4; cases h; exact tyF_mk h1 h2 h3 h4 rfl
        · cases h
      · cases h
    · cases h
  · cases h
def fieldAddrV (P : Program) (t : TypeId) (k : Nat) : VV → Option VV
  | .ptr b off => match fieldOff P t k with
    | some fo => some (.ptr b (off + fo))
    | none => none
  | _ => none
theorem fieldAddrV_ok {t : TypeId} {k : Nat} {x : Operand} {u v : VV} {y : Value} (ho : o.op = .fieldAddr t x k) (hx : ev env x = some y) (hy : den ρ u = some y) (h : fieldAddrV P t k u = some v) : ∃ z, den ρ v = some z ∧ OpV P hs n o env z := by
  cases u with
  | ptr b off =>
    simp only [fieldAddrV] at h
    split at h
    · rename_i fo hf
      cases h
      obtain ⟨i, hi, rfl⟩ := den_ptr hy
      haveI := fieldOff_ok hf
      refine ⟨_, den_ptr_mk hi, ?_⟩
      have := opv_fieldAddr (P := P) (own := hs) (n := n) ho hx
      rw [Nat.add_assoc] at this; exact this
    · cases h
  | _ => cases h
def indexAddrV (P : Program) (t : TypeId) : VV → VV → Option VV
  | .slc b off len _, .lit (.int k j) => match P.underlying t with
    | some (.slice e) => match sizeV P e with
      | some sz => match Nat.ble 1 (len - j.toNat), decide (0 ≤ j) with
        | true, true => some (.ptr b (off + j.toNat * sz))
        | _, _ => none
      | none => none
    | _ => none
  | .ptr b off, .lit (.int k j) => match P.underlying t with
    | some (.array len e) => match sizeV P e with
      | some sz => match Nat.ble 1 (len - j.toNat), decide (0 ≤ j) with
        | true, true => some (.ptr b (off + j.toNat * sz))
        | _, _ => none
      | none => none
    | _ => none
  | _, _ => none
theorem lt_of_ble {len : Nat} {j : Int} (h : Nat.ble 1 (len - j.toNat) = true) (h0 : decide (0 ≤ j) = true) : 0 ≤ j ∧ j < len := by
  have h1 := Nat.le_of_ble_eq_true h
  have h2 := of_decide_eq_true h0
  omega
theorem indexAddrV_ok {t : TypeId} {x ix : Operand} {u w v : VV} {y z : Value} (ho : o.op = .indexAddr t x ix) (hx : ev env x = some y) (hy : den ρ u = some y) (hix : ev env ix = some z) (hz : den ρ w = some z) (h : indexAddrV P t u w = some v) : ∃ r, den ρ v = some r ∧ OpV P hs n o env r := by
  unfold indexAddrV at h
  split at h
  · rename_i b off len c k j
    cases hz
    split at h
    · rename_i e he
      split at h
      · rename_i sz hsz
        split at h
        · rename_i h1 h2
          cases h
          obtain ⟨g1, g2⟩ := lt_of_ble h1 h2
          obtain ⟨i, hi, -, rfl⟩ := den_slc hy
          refine ⟨_, den_ptr_mk hi, opv_run (by rw [ho]; rfl) fun a w ha => ?_⟩
          simp [execOp, ho, ha.eval hx, ha.eval hix, Instr.indexAt, asIntOf, run_und he, g1, g2, sizeV_ok hsz, at_add]
        · cases h
      · cases h
    · cases h
  · rename_i b off k j
    cases hz
    split at h
    · rename_i len e he
      split at h
      · rename_i sz hsz
        split at h
        · rename_i h1 h2
          cases h
          obtain ⟨g1, g2⟩ := lt_of_ble h1 h2
          obtain ⟨i, hi, rfl⟩ := den_ptr hy
          refine ⟨_, den_ptr_mk hi, opv_run (by rw [ho]; rfl) fun a w ha => ?_⟩
          simp [execOp, ho, ha.eval hx, ha.eval hix, Instr.indexAt, asIntOf, run_und he, g1, g2, sizeV_ok hsz, at_add, Instr.sureAddr]
        · cases h
      · cases h
    · cases h
  · cases h

/-! parts of aggregates -/
theorem partV_run {t : TypeId} {l : List VV} {xs : List Value} {off : Nat} {v : VV} (hl : denL ρ l = some xs) (h : partV P t l off = some v) : ∃ x, den ρ v = some x ∧ ∀ w, (part t ⟨xs⟩ off).run P w = .ok x w := by
  rw [partV_eq] at h
  split at h
  · rename_i ha
    split at h
    · rename_i s hs'
      split at h
      · rename_i m hm
        split at h
        · rename_i r hr
          cases h
          obtain ⟨ys, g1, g2⟩ := denL_drop hl hm
          obtain ⟨zs, g3, g4⟩ := denL_take g2 hr
          obtain ⟨rfl, k1⟩ := dropO_eq g1
          obtain ⟨rfl, k2⟩ := takeO_eq g3
          refine ⟨.agg ⟨(xs.drop off).take s⟩, by simp only [den, g4], fun w => ?_⟩
          have : (⟨xs⟩ : Array Value).extract off (off + s) = ⟨(xs.drop off).take s⟩ := by
            apply Array.ext'
            simp [List.extract_eq_take_drop]
          simp [part, aggV_ok ha, sizeV_ok hs', this]
        · cases h
      · cases h
    · cases h
  · rename_i ha
    obtain ⟨x, g1, g2⟩ := denL_nth hl h
    refine ⟨x, g2, fun w => ?_⟩
    rw [nth_eq] at g1
    have : (⟨xs⟩ : Array Value)[off]? = some x := by simpa using g1
    simp [part, aggV_ok ha, this]
  · cases h
def indexV (P : Program) (t : TypeId) (u : VV) : VV → Option VV
  | .lit (.int k j) => match u with
    | .agg l => match P.underlying t with
      | some (.array len e) => match sizeV P e with
        | some sz => match Nat.ble 1 (len - j.toNat), decide (0 ≤ j) with
          | true, true => partV P e l (j.toNat * sz)
          | _, _ => none
        | none => none
      | _ => none
    | _ => none
  | _ => none
theorem indexV_ok {t : TypeId} {x ix : Operand} {u w v : VV} {y z : Value} (ho : o.op = .index t x ix) (hx : ev env x = some y) (hy : den ρ u = some y) (hix : ev env ix = some z) (hz : den ρ w = some z) (h : indexV P t u w = some v) : ∃ r, den ρ v = some r ∧ OpV P hs n o env r := by
  unfold indexV at h
  split at h
  · rename_i k j
    cases hz
    split at h
    · rename_i l
      split at h
      · rename_i len e he
        split at h
        · rename_i sz hsz
          split at h
          · rename_i h1 h2
            obtain ⟨g1, g2⟩ := lt_of_ble h1 h2
            obtain ⟨xs, hl, rfl⟩ := den_agg hy
            obtain ⟨r, q1, q2⟩ := partV_run hl h
            refine ⟨r, q1, opv_run (by rw [ho]; rfl) fun a w ha => ?_⟩
            simp [execOp, ho, ha.eval hx, ha.eval hix, Instr.index, asIntOf, run_und he, g1, g2, sizeV_ok hsz, q2]
          · cases h
        · cases h
      · cases h
    · cases h
  · cases h
def fieldV (P : Program) (t : TypeId) (k : Nat) : VV → Option VV
  | .agg l => match P.underlying t with
    | some (.struct fs) => match fs[k]? with
      | some f => partV P f.type l f.offset
      | none => none
    | _ => none
  | _ => none
theorem fieldV_ok {t : TypeId} {k : Nat} {x : Operand} {u v : VV} {y : Value} (ho : o.op = .field t x k) (hx : ev env x = some y) (hy : den ρ u = some y) (h : fieldV P t k u = some v) : ∃ r, den ρ v = some r ∧ OpV P hs n o env r := by
  unfold fieldV at h
  split at h
  · split at h
    · rename_i l fs he
      split at h
      · rename_i f hf
        obtain ⟨xs, hl, rfl⟩ := den_agg hy
        obtain ⟨r, q1, q2⟩ := partV_run hl h
        refine ⟨r, q1, opv_run (by rw [ho]; rfl) fun a w ha => ?_⟩
        simp [execOp, ho, ha.eval hx, Instr.field, run_und he, hf, asAgg, q2]
      · cases h
    · cases h
  · cases h
end
end
end Go.SL
