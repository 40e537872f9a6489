/- Rows of laws: the arguments opened, over the whole of memory as one heap; the end of a row. -/
import Derived.Test.YtnfepffmlhmmhaaSlM
import Derived.Test.YtnfepffmlhmmhaaSlO
import Derived.Deep.Slices
import Derived.WideKeyArgs
import Derived.ProofKit
import Derived.OpenShut
namespace Go.SL
open Go.RowKit Go.ChangeShapes Go.WideShapes

/-! ### The end -/
theorem same_of_hle {w w' : World} (h : hle (wh w) (wh w')) {p : MemPlace} (hp : p.block < w.heap.size) : w.sameAt w' p := by
  have hb : w'.heap[p.block]? = w.heap[p.block]? := by
    have h1 : w.heap[p.block]? = some w.heap[p.block] := Array.getElem?_eq_getElem hp
    rw [h1]; exact wh_b.1 (h _ _ (wh_b.2 h1))
  cases p with
  | cell b off => simp only [World.sameAt, World.cell?]; rw [show w'.heap[b]? = w.heap[b]? from hb]
  | map b => exact hb
theorem trodAll_stays {H : Type} {enc : TypeId × Value → H} {P : Program} {w w' : World} (hl : laidOutB P = true) (h : hle (wh w) (wh w')) {sp : Nat → Bool} :
    ∀ {ts : List TypeId} {vs : List Value} {ds : List (DataW H)} {ps : List MemPlace}, (∀ t ∈ ts, P.readableRec t = true ∧ t < P.types.size) → DataW.TrodAll enc P w 0 (fun _ => true) true ts vs ds ps →
      (∀ p ∈ ps, p.block < w.heap.size) → (∀ p ∈ ps, sp p.block = true) → DataW.TrodAll enc P w' 0 sp true ts vs ds ps
  | [], [], [], _, _, h, _, _ => h
  | _ :: _, _ :: _, _ :: _, _, hT, ⟨p, q, h1, h2, e⟩, hlt, hs =>
    have g := hT _ (List.mem_cons_self ..)
    ⟨p, q, WideElems.Trod_stays hl g.1 g.2 h1 (fun x hx => same_of_hle h (hlt x (by rw [e]; exact List.mem_append_left _ hx))) (fun x hx => hs x (by rw [e]; exact List.mem_append_left _ hx)),
      trodAll_stays hl h (fun t ht => hT t (List.mem_cons_of_mem _ ht)) h2 (fun x hx => hlt x (by rw [e]; exact List.mem_append_right _ hx)) (fun x hx => hs x (by rw [e]; exact List.mem_append_right _ hx)), e⟩
def readables (P : Program) (ts : List TypeId) : Bool := laidOutB P && ts.all fun t => P.readableRec t && Nat.blt t P.types.size
theorem law_end {H : Type} {enc : TypeId × Value → H} {P : Program} {f : Func} {s : ChangeSpec} {apart fresh handsOn again : Bool} {W W' : World} {args : Array Value} {ds gs : List (DataW H)} {before p : List MemPlace} {bt : TypeId}
    (hW : DataW.Whole enc P f.params.toList s.vars apart W args.toList ds gs before) (hA : DataW.TrodAll enc P W 0 (fun _ => true) true f.params.toList args.toList ds p) (hp : before = p) (hg0 : gs = []) (hv : s.vars = [])
    (hs : s.fn H ds = { results := [.lit (.bool true)], args := ds }) (hr : readables P f.params.toList = true) (hres : f.resultTypes = #[bt]) (hu : P.underlying bt = some .bool)
    (h : hle (wh W) (wh W')) : s.post enc P f apart fresh handsOn again W args (.bool true) W' := by
  subst hp; subst hg0
  have hg := grown_of h
  simp only [readables, Bool.and_eq_true, List.all_eq_true] at hr
  refine post_of_same (pa := before) (pv := []) hW (fun b sp hd => ?_) (fun sp hsp => ?_) (fun _ _ => ?_) (by simp) (hg.frame _) hg.2.1 ?_
  · rw [List.append_nil, hs, hres]
    exact trodAll_cons_mk (shut_bool hu _) trodAll_mk0
  · rw [List.append_nil, hs]
    exact trodAll_stays hr.1 h (fun t ht => ⟨(hr.2 t ht).1, Nat.le_of_ble_eq_true (hr.2 t ht).2⟩) hA (fun x hx => hW.lt x hx) hsp
  · rw [List.append_nil, hs, hv]; rfl
  · exact ok_one hres rfl (okWide_bool_mk hu _)

/-! ### Opening -/
theorem okWide_aggS {P : Program} {w : World} {r : Reach} {base : Nat} {t : TypeId} {v : Value} {d : TypeDesc} (ht : P.underlying t = some d) (ha : aggD d = true) (h : Value.okWide P w r base t v) : ∃ cs : List Value, v = .agg ⟨cs⟩ := by
  unfold Value.okWide at h
  rw [ht] at h
  cases d <;> simp only [aggD] at ha <;> first | cases ha | skip
  · obtain ⟨cs, rfl, -⟩ := h; exact ⟨cs.toList, rfl⟩
  · obtain ⟨cs, rfl, -⟩ := h; exact ⟨cs.toList, rfl⟩

/-- The cells of a slice that came in, over the whole of memory. -/
theorem mapM_range {α : Type} {f : Nat → Option α} : ∀ {n : Nat} {l : List α}, (List.range n).mapM f = some l → l.length = n ∧ ∀ i, i < n → ∃ x, f i = some x ∧ l[i]? = some x := by
  intro n
  induction n with
  | zero => intro l h; simp at h; subst h; exact ⟨rfl, fun i hi => absurd hi (Nat.not_lt_zero _)⟩
  | succ n ih =>
    intro l h
    rw [List.range_succ, List.mapM_append] at h
    cases h1 : (List.range n).mapM f with
    | none => rw [h1] at h; simp at h
    | some l1 =>
      cases h2 : f n with
      | none => rw [h1] at h; simp [h2] at h
      | some y =>
        rw [h1] at h; simp [h2] at h
        subst h
        obtain ⟨g1, g2⟩ := ih h1
        refine ⟨by simp [g1], fun i hi => ?_⟩
        by_cases e : i = n
        · subst e; exact ⟨y, h2, by rw [List.getElem?_append_right (by omega), g1]; simp⟩
        · obtain ⟨x, hx, hl⟩ := g2 i (by omega)
          exact ⟨x, hx, by rw [List.getElem?_append_left (by omega)]; exact hl⟩
theorem cells_at {w : World} {a : Addr} {n : Nat} {cs : List Value} (h : w.cells? 0 a n = some cs) : cs.length = n ∧ ∀ i v, cs[i]? = some v → w.cell? (a.add i) = some v := by
  unfold World.cells? at h
  rw [if_pos (Nat.zero_le _)] at h
  obtain ⟨h1, h2⟩ := mapM_range h
  refine ⟨h1, fun i v hi => ?_⟩
  obtain ⟨x, hx, hl⟩ := h2 i (by rw [← h1]; exact (List.getElem?_eq_some_iff.1 hi).1)
  rw [hi] at hl; cases hl; exact hx
theorem cell_spot {w : World} {a : Addr} {v : Value} (h : w.cell? a = some v) : a.spot = none ∧ ∃ arr T fz, wh w (.b a.block) = some (.o (.cells arr T fz)) ∧ arr[a.off]? = some v := by
  unfold World.cell? at h
  cases hb : w.heap[a.block]? with
  | none => rw [hb] at h; cases h
  | some o =>
    rw [hb] at h
    cases o with
    | cells c T fz =>
      simp only at h
      split at h
      · cases h
      · rename_i hs
        refine ⟨?_, c, T, fz, wh_b.2 hb, h⟩
        cases e : a.spot with
        | none => rfl
        | some _ => rw [e] at hs; simp at hs
    | _ => cases h
theorem add_zero' (a : Addr) : a.add 0 = a := by unfold Addr.add; rw [if_pos rfl]

theorem sl_open {H : Type} {enc : TypeId × Value → H} {P : Program} {w : World} {sp : Nat → Bool} {held : Bool} {t e : TypeId} {sz fuel : Nat} {base : Option Addr} {len cap : Nat} {x : DataW H × List MemPlace}
    (ht : P.underlying t = some (.slice e)) (hsz : P.cellsOf e = sz) (hpos : 0 < sz) (h : DataW.trod enc P w 0 sp held fuel t [.slice base len cap] = some x) :
    ∃ cs : List Value, cs.length = len * sz ∧ Sl (wh w) base cs ∧ len ≤ maxLen ∧ len ≤ cap ∧ ∃ n, ∀ i, i < len → ∃ y, DataW.trod enc P w 0 sp held n e ((cs.drop (i * sz)).take sz) = some y := by
  rcases Deep.open_slice ht h with ⟨h0, -⟩ | ⟨a, len', cap', m, n, D, Pl, h0, -, hle, hcap, hm, -, hel⟩
  · cases h0
    exact ⟨[], by simp, ⟨fun k v hk => by cases hk⟩, Nat.zero_le _, Nat.zero_le _, 0, fun i hi => absurd hi (Nat.not_lt_zero _)⟩
  · cases h0
    have hlm : len ≤ m := by rw [hm]; split <;> omega
    rw [hsz] at hel
    have hspot : 0 < len → a.spot = none := fun h0 => by
      obtain ⟨row, h1, -⟩ := hel 0 (by omega)
      obtain ⟨g1, g2⟩ := cells_at h1
      have := g2 0 row[0] (by simp [g1, hpos])
      rw [Nat.zero_mul, add_zero', add_zero'] at this
      exact (cell_spot this).1
    have hrow : ∀ i, i < len → ∃ row : List Value, row.length = sz ∧ (∀ j v, row[j]? = some v → w.cell? (a.add (i * sz + j)) = some v) ∧ ∃ y, DataW.trod enc P w 0 sp held n e row = some y := fun i hi => by
      obtain ⟨row, h1, h2⟩ := hel i (by omega)
      obtain ⟨g1, g2⟩ := cells_at h1
      refine ⟨row, g1, fun j v hj => ?_, _, h2⟩
      have := g2 j v hj
      have e1 : (a.add (i * sz)).add j = a.add (i * sz + j) := by
        have hs2 := hspot (by omega)
        obtain ⟨b, o, s⟩ := a
        simp only at hs2
        subst hs2
        rw [addr_add, addr_add, addr_add, Nat.add_assoc]
      rw [← e1]; exact this
    have key : ∀ k, k ≤ len → ∃ cs : List Value, cs.length = k * sz ∧ (∀ j v, cs[j]? = some v → w.cell? (a.add j) = some v) ∧ ∀ i, i < k → ∃ y, DataW.trod enc P w 0 sp held n e ((cs.drop (i * sz)).take sz) = some y := by
      intro k
      induction k with
      | zero => intro _; exact ⟨[], by simp, fun j v hj => (by cases hj), fun i hi => absurd hi (Nat.not_lt_zero _)⟩
      | succ k ih =>
        intro hk
        obtain ⟨cs, g1, g2, g3⟩ := ih (by omega)
        obtain ⟨row, r1, r2, r3⟩ := hrow k (by omega)
        refine ⟨cs ++ row, by rw [List.length_append, g1, r1, Nat.add_mul, Nat.one_mul], fun j v hj => ?_, fun i hi => ?_⟩
        · rcases getElem?_tail hj with ⟨q1, q2⟩ | ⟨q1, q2⟩
          · exact g2 j v q2
          · have := r2 _ v q2
            rw [show k * sz + (j - cs.length) = j by omega] at this; exact this
        · by_cases e1 : i = k
          · subst e1
            rw [List.drop_append_of_le_length (by omega), ← g1, List.drop_length, List.nil_append, List.take_of_length_le (by omega)]
            exact r3
          · obtain ⟨y, hy⟩ := g3 i (by omega)
            refine ⟨y, ?_⟩
            have : i * sz + sz ≤ cs.length := by
              have : (i + 1) * sz ≤ k * sz := Nat.mul_le_mul_right _ (by omega)
              rw [Nat.add_mul, Nat.one_mul] at this; omega
            rw [List.drop_append_of_le_length (by omega), List.take_append_of_le_length (by rw [List.length_drop]; omega)]
            exact hy
    obtain ⟨cs, g1, g2, g3⟩ := key len (Nat.le_refl _)
    refine ⟨cs, g1, ⟨fun k v hk => ?_⟩, by omega, hle, n, g3⟩
    have hc := g2 k v hk
    have hlt : k < cs.length := (List.getElem?_eq_some_iff.1 hk).1
    have hs2 := hspot (by
      rcases Nat.eq_zero_or_pos len with h | h
      · rw [h, Nat.zero_mul] at g1; omega
      · exact h)
    obtain ⟨b, o, s⟩ := a
    simp only at hs2
    subst hs2
    rw [addr_add] at hc
    obtain ⟨-, arr, T, fz, q1, q2⟩ := cell_spot hc
    exact ⟨⟨b, o, none⟩, arr, T, fz, rfl, rfl, q1, q2⟩

/-- The numbers of a slice. -/
theorem sl_open_ints {H : Type} {enc : TypeId × Value → H} {P : Program} {w : World} {sp : Nat → Bool} {held : Bool} {t e : TypeId} {k : IntKind} {fuel : Nat} {base : Option Addr} {len cap : Nat} {x : DataW H × List MemPlace}
    (ht : P.underlying t = some (.slice e)) (he : P.underlying e = some (.int k)) (hsz : P.cellsOf e = 1) (h : DataW.trod enc P w 0 sp held fuel t [.slice base len cap] = some x) :
    ∃ zs : List Int, zs.length = len ∧ Sl (wh w) base (zs.map (.int k)) ∧ len ≤ maxLen ∧ len ≤ cap ∧ ∀ z ∈ zs, (Lit.int k z).wf = true := by
  obtain ⟨cs, h1, h2, h3, hlc, n, h4⟩ := sl_open ht hsz (by decide) h
  rw [Nat.mul_one] at h1
  have key : ∀ m, m ≤ len → ∃ zs : List Int, cs.take m = zs.map (.int k) ∧ ∀ z ∈ zs, (Lit.int k z).wf = true := by
    intro m
    induction m with
    | zero => intro _; exact ⟨[], by simp, fun z hz => by cases hz⟩
    | succ m ih =>
      intro hm
      obtain ⟨zs, g1, g2⟩ := ih (by omega)
      obtain ⟨y, hy⟩ := h4 m (by omega)
      rw [Nat.mul_one] at hy
      have hlt : m < cs.length := by omega
      have e1 : (cs.drop m).take 1 = [cs[m]] := by rw [List.drop_eq_getElem_cons hlt]; rfl
      rw [e1] at hy
      obtain ⟨z, hz1, -, hz2⟩ := DataW.trod_int he hy
      simp only [List.cons.injEq, and_true] at hz1
      refine ⟨zs ++ [z], ?_, fun q hq => ?_⟩
      · rw [List.take_add_one, List.getElem?_eq_getElem hlt, g1, hz1]; simp
      · rcases List.mem_append.1 hq with hq | hq
        · exact g2 q hq
        · rw [List.mem_singleton.1 hq]; exact hz2
  obtain ⟨zs, g1, g2⟩ := key len (Nat.le_refl _)
  rw [List.take_of_length_le (by omega)] at g1
  refine ⟨zs, ?_, g1 ▸ h2, h3, hlc, g2⟩
  have := congrArg List.length g1
  simp at this; omega
/-- The numbers of an array. -/
theorem arr_open_ints {H : Type} {enc : TypeId × Value → H} {P : Program} {w : World} {sp : Nat → Bool} {held : Bool} {t e : TypeId} {k : IntKind} {fuel m : Nat} {cs : List Value} {x : DataW H × List MemPlace}
    (ht : P.underlying t = some (.array m e)) (he : P.underlying e = some (.int k)) (hsz : P.cellsOf e = 1) (hn : P.cellsOf t = m) (h : DataW.trod enc P w 0 sp held fuel t cs = some x) :
    ∃ zs : List Int, zs.length = m ∧ cs = zs.map (.int k) ∧ ∀ z ∈ zs, (Lit.int k z).wf = true := by
  cases fuel with
  | zero => cases h
  | succ fuel =>
    simp only [DataW.trod, ht] at h
    split at h
    · rename_i hl
      rw [hn] at hl
      simp only [hsz, Nat.mul_one, Option.map_eq_some_iff] at h
      obtain ⟨xs, hx, -⟩ := h
      obtain ⟨-, h2⟩ := mapM_range hx
      have key : ∀ q, q ≤ m → ∃ zs : List Int, cs.take q = zs.map (.int k) ∧ ∀ z ∈ zs, (Lit.int k z).wf = true := by
        intro q
        induction q with
        | zero => intro _; exact ⟨[], by simp, fun z hz => by cases hz⟩
        | succ q ih =>
          intro hm
          obtain ⟨zs, g1, g2⟩ := ih (by omega)
          obtain ⟨y, hy, -⟩ := h2 q (by omega)
          have hlt : q < cs.length := by omega
          have e1 : (cs.drop q).take 1 = [cs[q]] := by rw [List.drop_eq_getElem_cons hlt]; rfl
          rw [e1] at hy
          obtain ⟨z, hz1, -, hz2⟩ := DataW.trod_int he hy
          simp only [List.cons.injEq, and_true] at hz1
          refine ⟨zs ++ [z], ?_, fun r hr => ?_⟩
          · rw [List.take_add_one, List.getElem?_eq_getElem hlt, g1, hz1]; simp
          · rcases List.mem_append.1 hr with hr | hr
            · exact g2 r hr
            · rw [List.mem_singleton.1 hr]; exact hz2
      obtain ⟨zs, g1, g2⟩ := key m (Nat.le_refl _)
      rw [List.take_of_length_le (by omega)] at g1
      refine ⟨zs, ?_, g1, g2⟩
      have := congrArg List.length g1
      simp at this; omega
    · cases h
theorem list_two {α : Type} {l : List α} (h : l.length = 2) : ∃ a b, l = [a, b] := by
  match l, h with
  | [a, b], _ => exact ⟨a, b, rfl⟩
theorem list_three {α : Type} {l : List α} (h : l.length = 3) : ∃ a b c, l = [a, b, c] := by
  match l, h with
  | [a, b, c], _ => exact ⟨a, b, c, rfl⟩
/-- A function that reads of the whole of memory, and hands back a known value. -/
theorem PFn.rowS {P : Program} {f : FuncId} {args : List Value} {v : Value} (w : World) (h : PFn P f args [wh w] v) : Calls P f args.toArray w fun e w' => e = .returned v ∧ hle (wh w) (wh w') :=
  (h w [] (by simpa using sat_all w)).mono fun e w' ⟨own, s, he, ho⟩ => ⟨he, by subst ho; exact s.le _ (by simp)⟩
theorem PFn.rowN {P : Program} {f : FuncId} {args : List Value} {v : Value} (w : World) (h : PFn P f args [] v) : Calls P f args.toArray w fun e w' => e = .returned v ∧ hle (wh w) (wh w') :=
  (h w [wh w] (sat_all w)).mono fun e w' ⟨own, s, he, ho⟩ => ⟨he, s.le _ (by simp)⟩
theorem wf_u64 {z : Int} (h : (Lit.int .u64 z).wf = true) : ∃ n : Nat, z = n ∧ n < 2 ^ 64 := by
  have e1 : IntKind.u64.min = 0 := rfl
  have e2 : IntKind.u64.max = 18446744073709551615 := rfl
  simp [Lit.wf, e1, e2] at h
  exact ⟨z.toNat, by omega, by omega⟩
theorem wf_u8 {z : Int} (h : (Lit.int .u8 z).wf = true) : ∃ n : Nat, z = n ∧ n < 256 := by
  have e1 : IntKind.u8.min = 0 := rfl
  have e2 : IntKind.u8.max = 255 := rfl
  simp [Lit.wf, e1, e2] at h
  exact ⟨z.toNat, by omega, by omega⟩
theorem wf_i64 {z : Int} (h : (Lit.int .i64 z).wf = true) : -9223372036854775808 ≤ z ∧ z ≤ 9223372036854775807 := by
  have e1 : IntKind.i64.min = -9223372036854775808 := rfl
  have e2 : IntKind.i64.max = 9223372036854775807 := rfl
  simp [Lit.wf, e1, e2] at h
  exact h
end Go.SL
