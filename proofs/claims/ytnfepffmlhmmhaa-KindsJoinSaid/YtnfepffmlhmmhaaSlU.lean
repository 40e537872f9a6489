/- Rows of laws: structs of numbers, slices of arrays and of structs of numbers. -/
import Derived.Test.YtnfepffmlhmmhaaSlS
import Derived.Test.YtnfepffmlhmmhaaSlP
namespace Go.SL
open Go.RowKit Go.ChangeShapes Go.WideShapes

theorem mapM_mem {α β : Type} {f : α → Option β} : ∀ {l : List α} {r : List β}, l.mapM f = some r → ∀ x ∈ l, ∃ y, f x = some y
  | [], _, _, x, hx => by cases hx
  | a :: l, r, h, x, hx => by
    rw [List.mapM_cons] at h
    cases h1 : f a with
    | none => rw [h1] at h; simp at h
    | some y =>
      rw [h1] at h
      cases h2 : l.mapM f with
      | none => simp [h2] at h
      | some ys =>
        rcases List.mem_cons.1 hx with rfl | hx
        · exact ⟨y, h1⟩
        · exact mapM_mem h2 x hx
/-- What a struct's fields are. -/
theorem struct_open {H : Type} {enc : TypeId × Value → H} {P : Program} {w : World} {sp : Nat → Bool} {held : Bool} {t : TypeId} {fs : Array Field} {fuel m : Nat} {cs : List Value} {x : DataW H × List MemPlace}
    (ht : P.underlying t = some (.struct fs)) (hn : P.cellsOf t = m) (h : DataW.trod enc P w 0 sp held fuel t cs = some x) :
    cs.length = m ∧ ∃ n, ∀ f ∈ fs.toList, ∃ y, DataW.trod enc P w 0 sp held n f.type ((cs.drop f.offset).take (P.cellsOf f.type)) = some y := by
  cases fuel with
  | zero => cases h
  | succ fuel =>
    simp only [DataW.trod, ht] at h
    split at h
    · rename_i hl
      rw [hn] at hl
      refine ⟨hl, fuel, ?_⟩
      simp only [Option.map_eq_some_iff] at h
      obtain ⟨xs, hx, -⟩ := h
      exact mapM_mem hx
    · cases h
def isIntK (P : Program) (k : IntKind) (t : TypeId) : Bool := match P.underlying t with
  | some (.int k') => decide (k' = k)
  | _ => false
theorem isIntK_eq {P : Program} {k : IntKind} {t : TypeId} (h : isIntK P k t = true) : P.underlying t = some (.int k) := by
  unfold isIntK at h
  split at h
  · rename_i k' e; rw [e, of_decide_eq_true h]
  · cases h
/-- A list that is made of numbers, cell by cell. -/
theorem ints_of_cells {cs : List Value} {k : IntKind} (h : ∀ i (hi : i < cs.length), ∃ z, cs[i] = .int k z ∧ (Lit.int k z).wf = true) : ∃ zs : List Int, cs = zs.map (.int k) ∧ ∀ z ∈ zs, (Lit.int k z).wf = true := by
  induction cs with
  | nil => exact ⟨[], rfl, fun z hz => by cases hz⟩
  | cons c cs ih =>
    obtain ⟨z, hz, hw⟩ := h 0 (by simp)
    obtain ⟨zs, e, hws⟩ := ih fun i hi => h (i + 1) (by simpa using hi)
    refine ⟨z :: zs, by rw [e] at *; simp at hz; rw [hz]; rfl, fun q hq => ?_⟩
    rcases List.mem_cons.1 hq with rfl | hq
    · exact hw
    · exact hws q hq
theorem int_cell {H : Type} {enc : TypeId × Value → H} {P : Program} {w : World} {sp : Nat → Bool} {held : Bool} {t : TypeId} {k : IntKind} {fuel i : Nat} {cs : List Value} (hi : i < cs.length) {y : DataW H × List MemPlace}
    (ht : P.underlying t = some (.int k)) (hc : P.cellsOf t = 1) (h : DataW.trod enc P w 0 sp held fuel t ((cs.drop i).take (P.cellsOf t)) = some y) : ∃ z, cs[i] = .int k z ∧ (Lit.int k z).wf = true := by
  have e1 : (cs.drop i).take 1 = [cs[i]] := by rw [List.drop_eq_getElem_cons hi]; rfl
  rw [hc, e1] at h
  obtain ⟨z, hz1, -, hz2⟩ := DataW.trod_int ht h
  simp only [List.cons.injEq, and_true] at hz1
  exact ⟨z, hz1, hz2⟩
def structInts (P : Program) (k : IntKind) (fs : Array Field) (m : Nat) : Bool :=
  (fs.toList.map (·.offset) == List.range m) && fs.toList.all fun f => isIntK P k f.type && Nat.beq (P.cellsOf f.type) 1
theorem struct_open_ints {H : Type} {enc : TypeId × Value → H} {P : Program} {w : World} {sp : Nat → Bool} {held : Bool} {t : TypeId} {fs : Array Field} {k : IntKind} {fuel m : Nat} {cs : List Value} {x : DataW H × List MemPlace}
    (ht : P.underlying t = some (.struct fs)) (hn : P.cellsOf t = m) (hk : structInts P k fs m = true) (h : DataW.trod enc P w 0 sp held fuel t cs = some x) :
    ∃ zs : List Int, zs.length = m ∧ cs = zs.map (.int k) ∧ ∀ z ∈ zs, (Lit.int k z).wf = true := by
  obtain ⟨hl, n, hf⟩ := struct_open ht hn h
  simp only [structInts, Bool.and_eq_true, beq_iff_eq, List.all_eq_true] at hk
  obtain ⟨zs, e, hw⟩ := ints_of_cells (cs := cs) (k := k) fun i hi => by
    have : i ∈ fs.toList.map (·.offset) := by rw [hk.1]; exact List.mem_range.2 (hl ▸ hi)
    obtain ⟨f, hfm, rfl⟩ := List.mem_map.1 this
    obtain ⟨y, hy⟩ := hf f hfm
    exact int_cell hi (isIntK_eq (hk.2 f hfm).1) (Nat.eq_of_beq_eq_true (hk.2 f hfm).2) hy
  refine ⟨zs, ?_, e, hw⟩
  have := congrArg List.length e
  simp at this; omega
/-- Numbers, lot by lot. -/
theorem ints_of_lots {k : IntKind} {sz : Nat} (hpos : 0 < sz) {cs : List Value} {len : Nat} (hl : cs.length = len * sz) (h : ∀ i, i < len → ∃ zs : List Int, (cs.drop (i * sz)).take sz = zs.map (.int k) ∧ ∀ z ∈ zs, (Lit.int k z).wf = true) :
    ∃ zs : List Int, cs = zs.map (.int k) ∧ ∀ z ∈ zs, (Lit.int k z).wf = true := ints_of_cells fun i hi => by
  have hq : i / sz < len := by rw [Nat.div_lt_iff_lt_mul hpos]; omega
  obtain ⟨zs, e, hw⟩ := h (i / sz) hq
  have hr := Nat.mod_lt i hpos
  have hd : i / sz * sz + i % sz = i := by rw [Nat.mul_comm]; exact Nat.div_add_mod i sz
  have e2 : ((cs.drop (i / sz * sz)).take sz)[i % sz]? = some cs[i] := by
    rw [List.getElem?_take, if_pos hr, List.getElem?_drop, hd, List.getElem?_eq_getElem hi]
  rw [e, List.getElem?_map, Option.map_eq_some_iff] at e2
  obtain ⟨z, hz, hz2⟩ := e2
  exact ⟨z, hz2.symm, hw z (List.mem_of_getElem? hz)⟩
/-- The numbers of a slice of arrays. -/
theorem sl_open_arrs {H : Type} {enc : TypeId × Value → H} {P : Program} {w : World} {sp : Nat → Bool} {held : Bool} {t e e2 : TypeId} {k : IntKind} {m fuel : Nat} {base : Option Addr} {len cap : Nat} {x : DataW H × List MemPlace}
    (ht : P.underlying t = some (.slice e)) (he : P.underlying e = some (.array m e2)) (he2 : P.underlying e2 = some (.int k)) (hsz : P.cellsOf e2 = 1) (hn : P.cellsOf e = m) (hpos : 0 < m) (h : DataW.trod enc P w 0 sp held fuel t [.slice base len cap] = some x) :
    ∃ zs : List Int, zs.length = len * m ∧ Sl (wh w) base (zs.map (.int k)) ∧ len ≤ maxLen ∧ len ≤ cap ∧ ∀ z ∈ zs, (Lit.int k z).wf = true := by
  obtain ⟨cs, h1, h2, h3, hlc, n, h4⟩ := sl_open ht hn hpos h
  obtain ⟨zs, e, hw⟩ := ints_of_lots hpos h1 fun i hi => by
    obtain ⟨y, hy⟩ := h4 i hi
    obtain ⟨zs, -, e, hw⟩ := arr_open_ints he he2 hsz hn hy
    exact ⟨zs, e, hw⟩
  subst e
  exact ⟨zs, by simpa using h1, h2, h3, hlc, hw⟩
/-- The numbers of a slice of structs. -/
theorem sl_open_structs {H : Type} {enc : TypeId × Value → H} {P : Program} {w : World} {sp : Nat → Bool} {held : Bool} {t e : TypeId} {fs : Array Field} {k : IntKind} {m fuel : Nat} {base : Option Addr} {len cap : Nat} {x : DataW H × List MemPlace}
    (ht : P.underlying t = some (.slice e)) (he : P.underlying e = some (.struct fs)) (hk : structInts P k fs m = true) (hn : P.cellsOf e = m) (hpos : 0 < m) (h : DataW.trod enc P w 0 sp held fuel t [.slice base len cap] = some x) :
    ∃ zs : List Int, zs.length = len * m ∧ Sl (wh w) base (zs.map (.int k)) ∧ len ≤ maxLen ∧ len ≤ cap ∧ ∀ z ∈ zs, (Lit.int k z).wf = true := by
  obtain ⟨cs, h1, h2, h3, hlc, n, h4⟩ := sl_open ht hn hpos h
  obtain ⟨zs, e, hw⟩ := ints_of_lots hpos h1 fun i hi => by
    obtain ⟨y, hy⟩ := h4 i hi
    obtain ⟨zs, -, e, hw⟩ := struct_open_ints he hn hk hy
    exact ⟨zs, e, hw⟩
  subst e
  exact ⟨zs, by simpa using h1, h2, h3, hlc, hw⟩
/-- An element's place, in an array that lies among a slice's cells. -/
theorem opv_indexAddrE {P : Program} {own : List Heap} {n : Nat} {env : Env} {o : Oper} {t e : TypeId} {len sz : Nat} {x ix : Operand} {k : IntKind} {j : Int} {q : Nat} {base : Option Addr} {cs : List Value} [h1 : TyR P t len e sz] (ho : o.op = .indexAddr t x ix) (hx : ev env x = some (ept base q)) (hi : ev env ix = some (.int k j))
    [m : SlIn own base cs] (hk : q < cs.length) (h0 : 0 ≤ j) (hlt : j < len) : OpV P own n o env (ept base (q + j.toNat * sz)) :=
  ⟨by rw [ho]; rfl, fun a w X hA s => ⟨w, s, .inl (by
    obtain ⟨ad, hb, hsp, -⟩ := m.cell s (k := q) (v := cs[q]) (by simp [hk])
    subst hb
    simp [execOp, ho, hA.eval hx, hA.eval hi, Instr.indexAt, asIntOf, run_und h1.u, h0, hlt, h1.s, Instr.sureAddr, ept, addr_add, Nat.add_assoc])⟩⟩
theorem wrap_u64_nat (h : Int) : ∃ n : Nat, n < 2 ^ 64 ∧ IntKind.u64.wrap h = n := by
  have e : IntKind.u64.wrap h = h % 18446744073709551616 := by simp [IntKind.wrap, IntKind.bits, IntKind.signed]
  exact ⟨(h % 18446744073709551616).toNat, by omega, by omega⟩
theorem wf_u16 {z : Int} (h : (Lit.int .u16 z).wf = true) : 0 ≤ z ∧ z ≤ 65535 := by
  have e1 : IntKind.u16.min = 0 := rfl
  have e2 : IntKind.u16.max = 65535 := rfl
  simp [Lit.wf, e1, e2] at h
  exact h
theorem list_six {α : Type} {l : List α} (h : l.length = 6) : ∃ a b c d e f, l = [a, b, c, d, e, f] := by
  match l, h with
  | [a, b, c, d, e, f], _ => exact ⟨a, b, c, d, e, f, rfl⟩
end Go.SL
