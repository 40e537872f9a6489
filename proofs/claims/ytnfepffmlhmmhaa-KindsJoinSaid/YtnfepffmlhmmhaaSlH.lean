/- Operations on slices, in the walk. -/
import Derived.Test.YtnfepffmlhmmhaaSlF
import Derived.LoopNIn
namespace Go.SL

/-- All that growing a slice asks of its type. -/
class TyG (P : Program) (t : TypeId) (e : outParam TypeId) (sz bytes : outParam Nat) : Prop where
  all : ∃ i z, P.underlying t = some (.slice e) ∧ P.info? e = some i ∧ i.zero = some z ∧ z.cells.size = sz ∧ i.size = sz ∧ i.bytes = bytes
theorem tyG_mk {P : Program} {t e : TypeId} {sz bytes : Nat} {i : TypeInfo} {z : Value} (h1 : P.underlying t = some (.slice e)) (h2 : P.info? e = some i) (h3 : i.zero = some z) (h4 : z.cells.size = sz) (h5 : i.size = sz) (h6 : i.bytes = bytes) : TyG P t e sz bytes :=
  ⟨i, z, h1, h2, h3, h4, h5, h6⟩

section
variable {P : Program} {r : Option Nat} {F : Heap} {n : Nat} {Q : SPost} {env : Env} {own rest hs own' : List Heap} {ds : List Deferred} {q : Bool} {all : Array Oper} {l : List Oper} {o : Oper} {id : Nat}

/-- A step of an operation that turns the heaps. -/
theorem sl_turn {d : Nat} (hd : o.dst = some d) (hn : Nat.blt d n = true) (hg : wantedE all env o = some true) (hp : plainOp o.op = true)
    (h : ∀ a w, Has n env a → Sat (F :: own) w → ∃ v w' own', (execOp a.eval o).run P w = .ok (.value v) w' ∧ Sat (F :: own') w' ∧ SOL false P r F n all l Q ((d, v) :: env) own' ds) :
    SOL false P r F n all (o :: l) Q env own ds := fun k hk => by
  obtain ⟨i, k', rfl, hi, hk'⟩ := unl hk
  intro a w ha hds hs
  rw [wpOpsIn_cons]
  simp only [wpOpIn, hi, wanted_of ha hg, if_true]
  refine ⟨fun f _ => by simp, ?_⟩
  obtain ⟨v, w', own', hr, s', hq⟩ := h a w ha hs
  rw [fen_round, semAt_plain hp, hr, Oper.uponIn_value, hd]
  exact hq k' hk' _ w' (ha.put v (Nat.le_of_ble_eq_true hn)) hds s'

theorem sl_append {t e : TypeId} {sz bytes : Nat} {c : Call} {x y : Operand} {h : Heap} {base : Option Addr} {len cap m mc : Nat} {cs news : List Value} {a : Addr} {d : Nat} [g : TyG P t e sz bytes]
    (hd : o.dst = some d) (hn : Nat.blt d n = true) (hg : wantedE all env o = some true) (ho : o.op = .call c) (hc : c.callee = .builtin .append) (hax : c.args = #[x, y]) (hat : c.argTypes = #[t, t])
    (hx : ev env x = some (.slice base len cap)) (hy : ev env y = some (.slice (some a) m mc)) [mm : SlIn own (some a) news] (os : OS h base len cap e sz cs) [tk : TakeH own h rest]
    (hm : 0 < m) (hnl : news.length = m * sz) (hpos : 0 < sz) (h1 : news.all (·.oneCell') = true) (hroom : (len + m) * bytes ≤ 70368744177664) (hlen : len + m ≤ 70368744177664)
    (next : ∀ h' base' cap', OS h' base' (len + m) cap' e sz (cs ++ news) → SOL false P r F n all l Q ((d, .slice base' (len + m) cap') :: env) (h' :: rest) ds) :
    SOL false P r F n all (o :: l) Q env own ds := by
  refine sl_turn hd hn hg (by rw [ho]; rfl) fun A w hA hs => ?_
  obtain ⟨i, z, g1, g2, g3, g4, g5, g6⟩ := g.all
  subst g5; subst g6
  have s1 : Sat (own ++ [F]) w := hs.perm (List.perm_append_comm (l₁ := [F]) (l₂ := own))
  have hpos' : 0 < news.length := by rw [hnl]; exact Nat.mul_pos hm hpos
  have hnew : ∀ j v, news[j]? = some v → w.cell? (a.add j) = some v := fun j v hj => by
    obtain ⟨a', e1, e2, e3⟩ := mm.cell s1 hj
    cases e1
    obtain ⟨b, off, sp⟩ := a
    simp only at e2
    subst e2
    rw [addr_add]; exact e3
  have s2 : Sat (h :: (rest ++ [F])) w := s1.perm (tk.perm.append_right [F])
  obtain ⟨h', base', cap', w', hrun, os', s3⟩ := run_grow (P := P) (ty := o.type) (c := mc) g1 g2 g3 g4 os s2 hm hnl hnew (by simpa using h1) hroom hlen
  refine ⟨_, w', h' :: rest, ?_, s3.perm (List.perm_append_comm (l₁ := h' :: rest) (l₂ := [F])), next h' base' cap' os'⟩
  simp [execOp, ho, resolve, hc, hax, hat, invoke, builtin, hA.eval hx, hA.eval hy, hrun]

/-! a slice put together -/
def zrep : Nat → List Value → Option (List Value)
  | 0, _ => some []
  | k + 1, zc => app2 zc (zrep k zc)
theorem zrep_eq (zc : List Value) : ∀ k, zrep k zc = some (List.replicate k zc).flatten := by
  intro k
  induction k with
  | zero => rfl
  | succ k ih => simp [zrep, ih, app2_some, List.replicate_succ]
theorem zrep_at (zc : List Value) : ∀ k i, i < k * zc.length → (List.replicate k zc).flatten[i]? = zc[i % zc.length]? := by
  intro k
  induction k with
  | zero => intro i h; simp at h
  | succ k ih =>
    intro i h
    rw [List.replicate_succ, List.flatten_cons]
    by_cases hi : i < zc.length
    · rw [List.getElem?_append_left hi, Nat.mod_eq_of_lt hi]
    · rw [List.getElem?_append_right (by omega), ih _ (by rw [Nat.add_mul] at h; omega)]
      congr 1
      conv => rhs; rw [show i = (i - zc.length) + zc.length by omega, Nat.add_mod_right]
theorem sl_buildSlice {t e : TypeId} {sz bytes len : Nat} {ps : Array (Nat × Operand)} {qs : List (Nat × Value)} {zv : Value} {zc zs cs : List Value} {d : Nat} {de : TypeDesc} {ti : TypeInfo} [g : TyG P t e sz bytes] [z : Ty P e de zv ti]
    (hd : o.dst = some d) (hn : Nat.blt d n = true) (hg : wantedE all env o = some true) (ho : o.op = .buildSlice t len ps) (hp : evps env ps.toList = some qs)
    (hzc : cellsO zv = some zc) (hzl : zc.length = sz) (hz : zrep len zc = some zs) (hb : buildO (fun i => some (i * sz, sz)) zs qs = some cs) (hbig : Nat.ble (len * sz) 16777216 = true)
    (next : ∀ b, SOL false P r F n all l Q ((d, .slice (some ⟨b, 0, none⟩) len len) :: env) (blk b (.cells ⟨cs⟩ e (0, 0)) :: own) ds) :
    SOL false P r F n all (o :: l) Q env own ds := by
  refine sl_turn hd hn hg (by rw [ho]; rfl) fun A w hA hs => ?_
  obtain ⟨i, z', g1, g2, g3, g4, g5, g6⟩ := g.all
  have e1 : (ps.map fun (p : Nat × Operand) => (p.1, A.eval p.2)) = (⟨qs⟩ : Array (Nat × Value)) := Array.ext' (by simpa using evps_eval hA hp)
  refine ⟨.slice (some ⟨w.heap.size, 0, none⟩) len len, { w with heap := w.heap.push (.cells ⟨cs⟩ e (0, 0)) }, _, ?_, (sat_alloc hs _ (fun _ => by simp [fzo])).swap, next w.heap.size⟩
  have hbig' : ¬ 16777216 < len * sz := by have := Nat.le_of_ble_eq_true hbig; omega
  have hzr := zrep_eq zc len
  rw [hz] at hzr
  simp only [Option.some.injEq] at hzr
  have hfill := fill_eq hb
  have hsz : (sizeOf e).run P w = .ok sz w := by rw [run_size g2, g5]
  have hzero : ((Array.range (len * sz)).map fun j => (⟨zc⟩ : Array Value)[j % (⟨zc⟩ : Array Value).size]!) = ⟨zs⟩ := by
    apply Array.ext'
    apply List.ext_getElem?
    intro j
    have hs0 : (⟨zc⟩ : Array Value).size = sz := hzl
    rw [hs0]
    by_cases hj : j < len * sz
    · have hszpos : 0 < sz := Nat.pos_of_ne_zero fun e => by rw [e] at hj; simp at hj
      have hm : j % sz < zc.length := by rw [hzl]; exact Nat.mod_lt _ hszpos
      rw [hzr, zrep_at zc len j (by rw [hzl]; exact hj), hzl]
      simp [hj, hm]
    · rw [hzr, List.getElem?_eq_none (by simp; omega), List.getElem?_eq_none (by simp [hzl]; omega)]
  simp only [execOp, ho]
  rw [show (ps.map fun (x : Nat × Operand) => match x with | (i, x) => (i, A.eval x)) = (⟨qs⟩ : Array (Nat × Value)) from e1]
  by_cases h0 : len * sz = 0
  · have hzs : zs = [] := by
      have : zs.length = len * sz := by rw [hzr]; simp [hzl]
      rw [h0] at this; exact List.length_eq_zero_iff.1 this
    rw [hzs] at hfill
    have hm0 : (Array.range 0).map (fun (_ : Nat) => (default : Value)) = ⟨[]⟩ := by simp
    simp [Instr.buildSlice, run_und g1, hsz, h0, hm0, hfill, newRow]
  · have hc := cellsO_eq hzc
    have hzero' : ((Array.range (len * sz)).map fun j => zv.cells[j % zv.cells.size]!) = ⟨zs⟩ := by rw [hc]; exact hzero
    simp [Instr.buildSlice, run_und g1, hsz, h0, hbig', z.z, hzero', hfill, newRow]
end

/-! ### A loop of a few rounds -/
def SRounds (P : Program) (r : Option Nat) (F : Heap) (n : Nat) (c : Code) (Q : SPost) : Nat → Env → List Heap → List Deferred → Prop
  | 0, _, _, _ => False
  | m + 1, env, own, ds => SWP P r F n c (Thn (SRounds P r F n c Q m) Q) env own ds
theorem swp_rounds {P : Program} {r : Option Nat} {F : Heap} {n : Nat} {Q : SPost} {env : Env} {own : List Heap} {ds : List Deferred} {c : Code} (m : Nat) (h : SRounds P r F n c Q m env own ds) : SWP P r F n (.loop c) Q env own ds := by
  have key : ∀ m env own ds, SRounds P r F n c Q m env own ds → ∀ a w, Has n env a → a.defers = ds → Sat (F :: own) w → Code.roundsIn (fen r) 0 P c (Lift F n Q) m a w := by
    intro m
    induction m with
    | zero => intro _ _ _ h; exact h.elim
    | succ m ih =>
      intro env own ds h a w ha hd hs
      refine wpIn_mono (h a w ha hd hs) fun e a' w' ⟨he, env', own', h1, h2, h3⟩ => ?_
      cases e with
      | normal => exact ih _ _ _ h3 a' w' h1 rfl h2
      | outgrown => exact absurd rfl he
      | _ => exact ⟨he, env', own', h1, h2, h3⟩
  exact fun a w ha hd hs => wpIn_loop_rounds m (key m env own ds h a w ha hd hs)
theorem srounds {P : Program} {r : Option Nat} {F : Heap} {n : Nat} {Q : SPost} {env : Env} {own : List Heap} {ds : List Deferred} {c : Code} {m : Nat} (h : SWP P r F n c (Thn (SRounds P r F n c Q m) Q) env own ds) : SRounds P r F n c Q (m + 1) env own ds := h
end Go.SL
