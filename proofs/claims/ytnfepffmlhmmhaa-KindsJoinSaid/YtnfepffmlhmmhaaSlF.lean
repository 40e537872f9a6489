/- Slices: reading; growing. -/
import Derived.Test.YtnfepffmlhmmhaaSlG
namespace Go.SL

/-! ### Reading -/
/-- The place so many cells behind a slice's first. -/
def ept (base : Option Addr) (k : Nat) : Value := .pointer (base.map fun a => ⟨a.block, a.off + k, none⟩)

/-- The cells of a slice, as they lie in a heap. -/
class Sl (h : Heap) (base : Option Addr) (cs : outParam (List Value)) : Prop where
  cell : ∀ k v, cs[k]? = some v → ∃ a arr T fz, base = some a ∧ a.spot = none ∧ h (.b a.block) = some (.o (.cells arr T fz)) ∧ arr[a.off + k]? = some v
instance Sl.blk {b : Nat} {cs : List Value} {T : TypeId} {fz : Nat × Nat} : Sl (blk b (.cells ⟨cs⟩ T fz)) (some ⟨b, 0, none⟩) cs :=
  ⟨fun k v hk => ⟨⟨b, 0, none⟩, ⟨cs⟩, T, fz, rfl, rfl, blk_self _ _, by simpa using hk⟩⟩
class SlIn (own : List Heap) (base : Option Addr) (cs : outParam (List Value)) : Prop where
  mem : ∃ h ∈ own, Sl h base cs
instance SlIn.head {h : Heap} {r : List Heap} {base : Option Addr} {cs : List Value} [t : Sl h base cs] : SlIn (h :: r) base cs := ⟨h, List.mem_cons_self .., t⟩
instance (priority := low) SlIn.tail {h : Heap} {r : List Heap} {base : Option Addr} {cs : List Value} [t : SlIn r base cs] : SlIn (h :: r) base cs := let ⟨k, hk, e⟩ := t.mem; ⟨k, List.mem_cons_of_mem _ hk, e⟩
theorem SlIn.cell {own : List Heap} {base : Option Addr} {cs : List Value} (t : SlIn own base cs) {X : List Heap} {w : World} (s : Sat (own ++ X) w) {k : Nat} {v : Value} (hk : cs[k]? = some v) :
    ∃ a, base = some a ∧ a.spot = none ∧ w.cell? ⟨a.block, a.off + k, none⟩ = some v := by
  obtain ⟨h, hm, e⟩ := t.mem
  obtain ⟨a, arr, T, fz, h1, h2, h3, h4⟩ := e.cell k v hk
  exact ⟨a, h1, h2, by rw [cell_at (s.at (List.mem_append.2 (.inl hm)) h3)]; exact h4⟩

/-- A slice type's element, and its size. -/
class TyE (P : Program) (t : TypeId) (e : outParam TypeId) (sz : outParam Nat) : Prop where
  u : P.underlying t = some (.slice e)
  s : ∀ w, (sizeOf e).run P w = .ok sz w
theorem tyE_mk {P : Program} {t e : TypeId} {sz : Nat} {i : TypeInfo} (h1 : P.underlying t = some (.slice e)) (h2 : P.info? e = some i) (h3 : i.size = sz) : TyE P t e sz :=
  ⟨h1, fun w => by rw [run_size h2, h3]⟩
/-- A type whose values lie in one cell; in several. -/
class TyS (P : Program) (t : TypeId) : Prop where
  run : ∀ w, (isAgg t).run P w = .ok false w
class TyA (P : Program) (t : TypeId) (sz : outParam Nat) : Prop where
  run : ∀ w, (isAgg t).run P w = .ok true w
  s : ∀ w, (sizeOf t).run P w = .ok sz w
theorem tyS_mk {P : Program} {t : TypeId} {d : TypeDesc} (h : P.underlying t = some d) (ha : aggD d = false) : TyS P t := ⟨fun w => by rw [run_agg h, ha]⟩
theorem tyA_mk {P : Program} {t : TypeId} {d : TypeDesc} {i : TypeInfo} {sz : Nat} (h : P.underlying t = some d) (ha : aggD d = true) (h2 : P.info? t = some i) (h3 : i.size = sz) : TyA P t sz :=
  ⟨fun w => by rw [run_agg h, ha], fun w => by rw [run_size h2, h3]⟩

section
variable {P : Program} {own : List Heap} {n : Nat} {env : Env} {o : Oper}

theorem opv_indexAddr {t e : TypeId} {sz : Nat} {x ix : Operand} {k : IntKind} {base : Option Addr} {len cap j : Nat} {cs : List Value} [h1 : TyE P t e sz] (ho : o.op = .indexAddr t x ix) (hx : ev env x = some (.slice base len cap)) (hi : ev env ix = some (.int k (j : Int)))
    [m : SlIn own base cs] (hlt : j < len) (hk : j * sz < cs.length) : OpV P own n o env (ept base (j * sz)) :=
  ⟨by rw [ho]; rfl, fun a w X hA s => ⟨w, s, .inl (by
    obtain ⟨ad, hb, hsp, -⟩ := m.cell s (k := j * sz) (v := cs[j * sz]) (by simp [hk])
    subst hb
    obtain ⟨bb, off, spot⟩ := ad
    simp only at hsp
    subst hsp
    have h2 : (0 : Int) ≤ (j : Int) ∧ (j : Int) < (len : Int) := by omega
    simp [execOp, ho, hA.eval hx, hA.eval hi, Instr.indexAt, asIntOf, run_und h1.u, h1.s, hlt, ept, addr_add])⟩⟩
theorem opv_indexAddrI {t e : TypeId} {sz : Nat} {x ix : Operand} {k : IntKind} {a : Int} {base : Option Addr} {len cap : Nat} {cs : List Value} [h1 : TyE P t e sz] (ho : o.op = .indexAddr t x ix) (hx : ev env x = some (.slice base len cap)) (hi : ev env ix = some (.int k a))
    [m : SlIn own base cs] (h0 : 0 ≤ a) (hlt : a < len) (hk : a.toNat * sz < cs.length) : OpV P own n o env (ept base (a.toNat * sz)) := by
  refine opv_indexAddr (k := k) (j := a.toNat) ho hx ?_ (by omega) hk
  rw [hi, Int.toNat_of_nonneg h0]
theorem opv_fieldAddrE {t : TypeId} {x : Operand} {j k fo : Nat} {base : Option Addr} {cs : List Value} [h1 : TyF P t k fo] (ho : o.op = .fieldAddr t x k) (hx : ev env x = some (ept base j)) [m : SlIn own base cs] (hk : j < cs.length) : OpV P own n o env (ept base (j + fo)) :=
  ⟨by rw [ho]; rfl, fun a w X hA s => ⟨w, s, .inl (by
    obtain ⟨ad, hb, hsp, -⟩ := m.cell s (k := j) (v := cs[j]) (by simp [hk])
    subst hb
    have := h1.run ⟨ad.block, ad.off + j, none⟩ w
    rw [addr_add] at this
    simp [execOp, ho, hA.eval hx, ept, this, Nat.add_assoc])⟩⟩
theorem opv_loadE {t : TypeId} {x : Operand} {k : Nat} {base : Option Addr} {cs : List Value} {v : Value} [ty : TyS P t] (ho : o.op = .load t x) (hx : ev env x = some (ept base k)) [m : SlIn own base cs] (hv : cs[k]? = some v) : OpV P own n o env v :=
  ⟨by rw [ho]; rfl, fun a w X hA s => ⟨w, s, .inl (by
    obtain ⟨ad, hb, -, hc⟩ := m.cell s hv
    subst hb
    simp [execOp, ho, hA.eval hx, Instr.loadAt, ept, Instr.sureAddr, loadVar, ty.run, hc])⟩⟩
theorem opv_loadEA {t : TypeId} {x : Operand} {k sz : Nat} {base : Option Addr} {cs vs : List Value} [ty : TyA P t sz] (ho : o.op = .load t x) (hx : ev env x = some (ept base k)) [m : SlIn own base cs] (hpos : 0 < sz) (hl : vs.length = sz) (hv : ∀ j v, vs[j]? = some v → cs[k + j]? = some v) : OpV P own n o env (.agg ⟨vs⟩) :=
  ⟨by rw [ho]; rfl, fun a w X hA s => ⟨w, s, .inl (by
    obtain ⟨ad, hb, -, -⟩ := m.cell s (k := k + 0) (hv 0 vs[0] (by simp [hl, hpos]))
    subst hb
    have := run_loadCells_list (P := P) w ⟨ad.block, ad.off + k, none⟩ vs (fun j v hj => by
      obtain ⟨a2, hb2, -, hc⟩ := m.cell s (hv j v hj)
      cases hb2
      rw [addr_add, Nat.add_assoc]; exact hc)
    rw [hl] at this
    simp [execOp, ho, hA.eval hx, Instr.loadAt, ept, Instr.sureAddr, loadVar, ty.run, ty.s, this])⟩⟩
end

/-! ### Growing -/
/-- A slice of one's own: nil, or at a block that nobody else has. -/
structure OS (h : Heap) (base : Option Addr) (len cap : Nat) (T : TypeId) (sz : Nat) (cs : List Value) : Prop where
  hlen : cs.length = len * sz
  hle : len ≤ cap
  shape : (base = none ∧ len = 0 ∧ cap = 0 ∧ h = emp) ∨ ∃ b off arr, base = some ⟨b, off, none⟩ ∧ h = blk b (.cells arr T (0, 0)) ∧ off + cap * sz ≤ arr.size ∧ ∀ k v, cs[k]? = some v → arr[off + k]? = some v
theorem OS.nil {T : TypeId} {sz : Nat} : OS emp none 0 0 T sz [] := ⟨by simp, Nat.le_refl _, .inl ⟨rfl, rfl, rfl, rfl⟩⟩
theorem OS.sl {h : Heap} {base : Option Addr} {len cap : Nat} {T : TypeId} {sz : Nat} {cs : List Value} (s : OS h base len cap T sz cs) : Sl h base cs :=
  ⟨fun k v hk => by
    rcases s.shape with ⟨-, h2, -, -⟩ | ⟨b, off, arr, h1, h2, h3, h4⟩
    · have := s.hlen; rw [h2, Nat.zero_mul, List.length_eq_zero_iff] at this; rw [this] at hk; cases hk
    · exact ⟨⟨b, off, none⟩, arr, T, (0, 0), h1, rfl, by rw [h2]; exact blk_self _ _, h4 k v hk⟩⟩

theorem getElem?_tail {α : Type} {l m : List α} {k : Nat} {v : α} (h : (l ++ m)[k]? = some v) : (k < l.length ∧ l[k]? = some v) ∨ (l.length ≤ k ∧ m[k - l.length]? = some v) := by
  by_cases hk : k < l.length
  · exact .inl ⟨hk, by rwa [List.getElem?_append_left hk] at h⟩
  · exact .inr ⟨by omega, by rwa [List.getElem?_append_right (by omega)] at h⟩

/-- What 'append' does to a slice of one's own. -/
theorem run_grow {P : Program} {t ty e : TypeId} {i : TypeInfo} {z : Value} {h : Heap} {base : Option Addr} {len cap m c : Nat} {cs news : List Value} {a : Addr} {hs : List Heap} {w : World}
    (ht : P.underlying t = some (.slice e)) (hi : P.info? e = some i) (hz : i.zero = some z) (hzs : z.cells.size = i.size)
    (os : OS h base len cap e i.size cs) (s : Sat (h :: hs) w) (hm : 0 < m) (hl : news.length = m * i.size) (hn : ∀ j v, news[j]? = some v → w.cell? (a.add j) = some v) (h1 : ∀ v ∈ news, v.oneCell' = true)
    (hroom : (len + m) * i.bytes ≤ 70368744177664) (hlen : len + m ≤ 70368744177664) :
    ∃ h' base' cap' w', (Builtin.append_ #[t, t] ty #[.slice base len cap, .slice (some a) m c]).run P w = .ok (.slice base' (len + m) cap') w' ∧ OS h' base' (len + m) cap' e i.size (cs ++ news) ∧ Sat (h' :: hs) w' := by
  have hz' : z.cells.size = i.size := hzs
  have hnl : (cs ++ news).length = (len + m) * i.size := by rw [List.length_append, os.hlen, hl, Nat.add_mul]
  have hzc : ∀ k, (Builtin.zeroCells z.cells k).size = k * i.size := fun k => by simp [Builtin.zeroCells, hz']
  have hcapn : ∀ need old, need ≤ grownCap w need old e := fun need old => by simp [grownCap, Question.cut]
  rcases os.shape with ⟨hb, h2, h3, hh⟩ | ⟨b, off, arr, hb, hh, hsz, hcs⟩
  · subst hb; subst h2; subst h3; subst hh
    have hcs0 : cs = [] := by have := os.hlen; rw [Nat.zero_mul, List.length_eq_zero_iff] at this; exact this
    subst hcs0
    have hrun := run_append_nil (P := P) w t ty e i z ht hi hz a m c news hl hn hm (by omega) (by simp at hroom; omega)
    rw [Nat.zero_add]
    refine ⟨blk w.heap.size (.cells (news.toArray ++ Builtin.zeroCells z.cells (grownCap w m 0 e - m)) e (0, 0)), _, _, _, hrun, ?_, ?_⟩
    · have hc := hcapn m 0
      refine ⟨by simpa using hl, hc, .inr ⟨w.heap.size, 0, _, rfl, rfl, ?_, fun k v hk => ?_⟩⟩
      · rw [Array.size_append, hzc, List.size_toArray, hl, Nat.sub_mul]
        have : m * i.size ≤ grownCap w m 0 e * i.size := Nat.mul_le_mul_right _ hc
        omega
      · rw [List.nil_append] at hk
        have hlt : k < news.length := (List.getElem?_eq_some_iff.1 hk).1
        rw [Nat.zero_add, Array.getElem?_append_left (by simpa using hlt)]
        simpa using hk
    · have s2 : Sat hs w.drew := s.tail.heap rfl rfl rfl
      exact sat_alloc s2 _ (fun _ => by simp [fzo])
  · subst hb; subst hh
    have hg : w.heap[b]? = some (.cells arr e (0, 0)) := s.at (List.mem_cons_self ..) (blk_self _ _)
    have hold : ∀ j v, cs[j]? = some v → w.cell? ((⟨b, off, none⟩ : Addr).add j) = some v := fun j v hj => by rw [addr_add, cell_at hg]; exact hcs j v hj
    by_cases hfit : len + m ≤ cap
    · -- there is room
      have hst := run_storeCells_at P b (off + len * i.size) e news 0 arr w hg (by
        rw [hl]
        have : (len + m) * i.size ≤ cap * i.size := Nat.mul_le_mul_right _ hfit
        rw [Nat.add_mul] at this
        omega) h1
      have hfc := run_firstCells_some (P := P) w i.size m a m c news hl hn
      have hrun : (Builtin.append_ #[t, t] ty #[.slice (some ⟨b, off, none⟩) len cap, .slice (some a) m c]).run P w = .ok (.slice (some ⟨b, off, none⟩) (len + m) cap)
          (w.setRow b (arr.toList.take (off + len * i.size + 0) ++ news ++ arr.toList.drop (off + len * i.size + 0 + news.length)).toArray) := by
        have hfc' : (Builtin.firstCells i.size m (.slice (some a) m c)).run P w = .ok news.toArray w := hfc
        simp [Builtin.append_, run_und ht, run_size hi, Builtin.lenOf, hfit, hfc', addr_add, hst]
      refine ⟨_, _, _, _, hrun, ⟨hnl, hfit, .inr ⟨b, off, _, rfl, rfl, ?_, fun k v hk => ?_⟩⟩, s.put (setRow_heap w b _ _ e (0, 0) hg) (by rfl) (by rfl) (fun k hk => setRow_other w b k _ hk) (fun _ => rfl)⟩
      · have : (len + m) * i.size ≤ cap * i.size := Nat.mul_le_mul_right _ hfit
        rw [Nat.add_mul] at this
        simp only [List.size_toArray, List.length_append, List.length_take, List.length_drop, Array.length_toList]
        omega
      · have : (len + m) * i.size ≤ cap * i.size := Nat.mul_le_mul_right _ hfit
        rw [Nat.add_mul] at this
        rw [List.getElem?_toArray]
        rcases getElem?_tail hk with ⟨g1, g2⟩ | ⟨g1, g2⟩
        · rw [os.hlen] at g1
          rw [List.append_assoc, List.getElem?_append_left (by rw [List.length_take, Array.length_toList]; omega), List.getElem?_take, if_pos (by omega)]
          have := hcs k v g2
          simpa using this
        · rw [os.hlen] at g1 g2
          have hlt : k - len * i.size < news.length := (List.getElem?_eq_some_iff.1 g2).1
          have htk : (arr.toList.take (off + len * i.size + 0)).length = off + len * i.size := by rw [List.length_take, Array.length_toList]; omega
          rw [List.append_assoc, List.getElem?_append_right (by rw [htk]; omega), htk]
          rw [List.getElem?_append_left (by omega)]
          rw [← g2]; congr 1; omega
    · have hnc := nextslicecap_le (need := len + m) (old := cap) (by omega)
      have hrun := run_append_grow (P := P) w t ty e i z ht hi hz ⟨b, off, none⟩ len cap cs os.hlen hold a m c news hl hn (by omega) (by omega) (by
        have : Builtin.nextslicecap (len + m) cap * i.bytes ≤ 2 * (len + m) * i.bytes := Nat.mul_le_mul_right _ hnc
        rw [Nat.mul_assoc] at this
        omega)
      have s2 : Sat hs w.drew := s.tail.heap rfl rfl rfl
      refine ⟨_, _, _, _, hrun, ⟨hnl, hcapn _ _, .inr ⟨w.heap.size, 0, _, rfl, rfl, ?_, fun k v hk => ?_⟩⟩, sat_alloc s2 _ (fun _ => by simp [fzo])⟩
      · have hc := hcapn (len + m) cap
        have : (len + m) * i.size ≤ grownCap w (len + m) cap e * i.size := Nat.mul_le_mul_right _ hc
        rw [Array.size_append, hzc, Array.size_append, List.size_toArray, List.size_toArray, os.hlen, hl, Nat.sub_mul, ← Nat.add_mul]
        omega
      · have hlt : k < (cs ++ news).length := (List.getElem?_eq_some_iff.1 hk).1
        rw [Nat.zero_add, Array.getElem?_append_left (by simpa using hlt)]
        rw [← hk]; simp
end Go.SL
