/- Operations on memory: boxes. -/
import Derived.Test.YtnfepffmlhmmhaaSlC
namespace Go.SL

theorem cell_at {w : World} {b k : Nat} {arr : Array Value} {t : TypeId} {fz : Nat × Nat} (h : w.heap[b]? = some (.cells arr t fz)) : w.cell? ⟨b, k, none⟩ = arr[k]? := by
  simp [World.cell?, h]
theorem setRow_other (w : World) (g k : Nat) (cs : Array Value) (h : k ≠ g) : (w.setRow g cs).heap[k]? = w.heap[k]? := by
  unfold World.setRow
  simp only [Array.getElem?_modify]
  rw [if_neg (fun e => h e.symm)]

def spliceO {α : Type} : List α → Nat → List α → Option (List α)
  | l, 0, [] => some l
  | [], 0, _ :: _ => none
  | _ :: l, 0, v :: vs => match spliceO l 0 vs with
    | some r => some (v :: r)
    | none => none
  | [], _ + 1, _ => none
  | x :: l, k + 1, vs => match spliceO l k vs with
    | some r => some (x :: r)
    | none => none
theorem spliceO_eq {α : Type} : ∀ {l r : List α} {k : Nat} {vs : List α}, spliceO l k vs = some r → r = l.take k ++ vs ++ l.drop (k + vs.length) ∧ k + vs.length ≤ l.length := by
  intro l
  induction l with
  | nil =>
    intro r k vs h
    cases k with
    | zero => cases vs with
      | nil => cases h; simp
      | cons v vs => cases h
    | succ k => cases h
  | cons x l ih =>
    intro r k vs h
    cases k with
    | zero => cases vs with
      | nil => cases h; simp
      | cons v vs =>
        simp only [spliceO] at h
        cases e : spliceO l 0 vs with
        | none => rw [e] at h; cases h
        | some r' => rw [e] at h; cases h; obtain ⟨h1, h2⟩ := ih e; simp at h1 h2; subst h1; simp [h2]
    | succ k =>
      simp only [spliceO] at h
      cases e : spliceO l k vs with
      | none => rw [e] at h; cases h
      | some r' =>
        rw [e] at h; cases h; obtain ⟨h1, h2⟩ := ih e; subst h1
        have : k + 1 + vs.length = (k + vs.length) + 1 := by omega
        simp [this, h2]

section
variable {P : Program} {own : List Heap} {n : Nat} {env : Env} {o : Oper}

theorem run_loadVar1 {t : TypeId} {d : TypeDesc} {z : Value} {i : TypeInfo} [ty : Ty P t d z i] (ha : aggD d = false) {w : World} {a : Addr} {v : Value} (h : w.cell? a = some v) : (loadVar t a).run P w = .ok v w := by
  simp [loadVar, run_agg ty.u, ha, h]
theorem run_loadVarN {t : TypeId} {d : TypeDesc} {z : Value} {i : TypeInfo} [ty : Ty P t d z i] (ha : aggD d = true) {w : World} {a : Addr} {vs : List Value} (hl : vs.length = i.size) (h : ∀ j v, vs[j]? = some v → w.cell? (a.add j) = some v) :
    (loadVar t a).run P w = .ok (.agg ⟨vs⟩) w := by
  have := run_loadCells_list (P := P) w a vs h
  simp [loadVar, run_agg ty.u, ha, run_size ty.i, ← hl, this]

theorem opv_load {t T : TypeId} {d : TypeDesc} {z v : Value} {i : TypeInfo} {x : Operand} {b off : Nat} {cs : List Value} {fz : Nat × Nat} [ty : Ty P t d z i] (ho : o.op = .load t x) (ha : aggD d = false) (hx : ev env x = some (.pointer (some ⟨b, off, none⟩)))
    [m : At own b (.cells ⟨cs⟩ T fz)] (hv : nth cs off = some v) : OpV P own n o env v :=
  ⟨by rw [ho]; rfl, fun a w X hA s => ⟨w, s, .inl (by
    rw [nth_eq] at hv
    have : w.cell? ⟨b, off, none⟩ = some v := by rw [cell_at (m.get s)]; simpa using hv
    simp [execOp, ho, hA.eval hx, Instr.loadAt, Instr.sureAddr, run_loadVar1 (P := P) (t := t) ha this])⟩⟩
theorem opv_loadA {t T : TypeId} {d : TypeDesc} {z : Value} {i : TypeInfo} {x : Operand} {b off : Nat} {cs ds vs : List Value} {fz : Nat × Nat} [ty : Ty P t d z i] (ho : o.op = .load t x) (ha : aggD d = true) (hx : ev env x = some (.pointer (some ⟨b, off, none⟩)))
    [m : At own b (.cells ⟨cs⟩ T fz)] (hd : dropO cs off = some ds) (hv : takeO ds i.size = some vs) : OpV P own n o env (.agg ⟨vs⟩) :=
  ⟨by rw [ho]; rfl, fun a w X hA s => ⟨w, s, .inl (by
    obtain ⟨rfl, h1⟩ := dropO_eq hd
    obtain ⟨rfl, h2⟩ := takeO_eq hv
    have hl : ((cs.drop off).take i.size).length = i.size := by simp at h2 ⊢; omega
    have hc : ∀ j v, ((cs.drop off).take i.size)[j]? = some v → w.cell? ((⟨b, off, none⟩ : Addr).add j) = some v := fun j v hj => by
      rw [addr_add, cell_at (m.get s)]
      rw [List.getElem?_take] at hj
      split at hj
      · rw [List.getElem?_drop] at hj; simpa using hj
      · cases hj
    simp [execOp, ho, hA.eval hx, Instr.loadAt, Instr.sureAddr, run_loadVarN (P := P) (t := t) ha hl hc])⟩⟩

/-! a struct or an array put together -/
def buildO (place : Nat → Option (Nat × Nat)) : List Value → List (Nat × Value) → Option (List Value)
  | cs, [] => some cs
  | cs, (i, v) :: r => match place i, cellsO v with
    | some (off, sz), some vs => match Nat.beq vs.length sz, spliceO cs off vs with
      | true, some cs' => buildO place cs' r
      | _, _ => none
    | _, _ => none
theorem foldl_splice (off : Nat) : ∀ (vs : List Value) (j : Nat) (cs : Array Value), off + j + vs.length ≤ cs.size →
    (vs.zipIdx j).foldl (fun cs (p : Value × Nat) => cs.setIfInBounds (off + p.2) p.1) cs = (cs.toList.take (off + j) ++ vs ++ cs.toList.drop (off + j + vs.length)).toArray := by
  intro vs
  induction vs with
  | nil => intro j cs h; simp
  | cons v r ih =>
    intro j cs h
    simp only [List.length_cons] at h
    rw [List.zipIdx_cons, List.foldl_cons, ih (j + 1) _ (by simp; omega)]
    congr 1
    have e := list_seg_step cs.toList (off + j) v r (by simp; omega)
    simpa [Array.toList_setIfInBounds, Nat.add_assoc] using e
theorem fill_eq {place : Nat → Option (Nat × Nat)} : ∀ {ps : List (Nat × Value)} {cs cs' : List Value}, buildO place cs ps = some cs' → Instr.fill place ⟨cs⟩ ps = some ⟨cs'⟩ := by
  intro ps
  induction ps with
  | nil => intro cs cs' h; cases h; rfl
  | cons p r ih =>
    obtain ⟨i, v⟩ := p
    intro cs cs' h
    simp only [buildO] at h
    cases h1 : place i with
    | none => rw [h1] at h; cases h
    | some q =>
      obtain ⟨off, sz⟩ := q
      cases h2 : cellsO v with
      | none => rw [h1, h2] at h; cases h
      | some vs =>
        rw [h1, h2] at h
        simp only at h
        cases h3 : Nat.beq vs.length sz with
        | false => rw [h3] at h; cases h
        | true =>
          cases h4 : spliceO cs off vs with
          | none => rw [h3, h4] at h; cases h
          | some cs2 =>
            rw [h3, h4] at h
            simp only at h
            obtain ⟨g1, g2⟩ := spliceO_eq h4
            have hc := cellsO_eq h2
            have hsz : v.cells.size = sz := by rw [hc]; simpa using Nat.eq_of_beq_eq_true h3
            have hsz' : sz = vs.length := (Nat.eq_of_beq_eq_true h3).symm
            have hno : ¬ (off + vs.length > (⟨cs⟩ : Array Value).size) := by
              have : (⟨cs⟩ : Array Value).size = cs.length := rfl
              omega
            have hif : (decide (v.cells.size ≠ sz) || decide (off + v.cells.size > (⟨cs⟩ : Array Value).size)) = false := by
              have h7 : v.cells.size = vs.length := by rw [hsz, hsz']
              simp only [h7]
              simp [hsz']
              simpa using g2
            simp only [Instr.fill, h1]
            have hcond : ¬ (v.cells.size ≠ sz || off + v.cells.size > (⟨cs⟩ : Array Value).size) = true := by
              intro hh
              have := hif
              simp only [ne_eq, gt_iff_lt] at hh this
              simp_all
            rw [if_neg hcond]
            have hf : v.cells.zipIdx.foldl (fun cs (p : Value × Nat) => cs.setIfInBounds (off + p.2) p.1) (⟨cs⟩ : Array Value) = ⟨cs2⟩ := by
              rw [hc]
              have := foldl_splice off vs 0 ⟨cs⟩ (by simpa using g2)
              rw [← Array.foldl_toList]
              simp only [Array.toList_zipIdx]
              simp only [Nat.add_zero] at this
              rw [show (vs.toArray.toList.zipIdx) = vs.zipIdx 0 from rfl]
              rw [this, g1]
            have := ih h
            rw [← hf] at this
            exact this

class TyB (P : Program) (t : TypeId) (place : outParam (Nat → Option (Nat × Nat))) (zs : outParam (List Value)) : Prop where
  run : ∀ ps cs w, Instr.fill place ⟨zs⟩ ps.toList = some cs → (Instr.build t ps).run P w = .ok (.agg cs) w
def evps (env : Env) : List (Nat × Operand) → Option (List (Nat × Value))
  | [] => some []
  | (i, x) :: r => match ev env x with
    | some v => match evps env r with
      | some vs => some ((i, v) :: vs)
      | none => none
    | none => none
theorem evps_eval {a : Act} (h : Has n env a) : ∀ {xs : List (Nat × Operand)} {vs : List (Nat × Value)}, evps env xs = some vs → (xs.map fun p => (p.1, a.eval p.2)) = vs := by
  intro xs
  induction xs with
  | nil => intro vs e; cases e; rfl
  | cons x r ih =>
    obtain ⟨i, x⟩ := x
    intro vs e
    simp only [evps] at e
    cases h1 : ev env x with
    | none => rw [h1] at e; cases e
    | some v =>
      rw [h1] at e
      cases h2 : evps env r with
      | none => rw [h2] at e; cases e
      | some vs' =>
        rw [h2] at e; cases e
        simp [h.eval h1, ih h2]
theorem opv_build {t : TypeId} {ps : Array (Nat × Operand)} {place : Nat → Option (Nat × Nat)} {zs cs : List Value} {qs : List (Nat × Value)} [ty : TyB P t place zs] (ho : o.op = .build t ps) (hp : evps env ps.toList = some qs) (hb : buildO place zs qs = some cs) :
    OpV P own n o env (.agg ⟨cs⟩) :=
  opv_run (by rw [ho]; rfl) fun a w ha => by
    have e1 : (ps.map fun (p : Nat × Operand) => (p.1, a.eval p.2)) = (⟨qs⟩ : Array (Nat × Value)) := Array.ext' (by simpa using evps_eval ha hp)
    have := ty.run ⟨qs⟩ ⟨cs⟩ w (fill_eq hb)
    simp only [execOp, ho]
    rw [show (ps.map fun (x : Nat × Operand) => match x with | (i, x) => (i, a.eval x)) = (⟨qs⟩ : Array (Nat × Value)) from e1]
    simp [this]
theorem tyB_struct {t : TypeId} {fs : Array Field} {zs : List Value} {pl : List (Nat × Nat)} (h1 : P.underlying t = some (.struct fs)) (h2 : ∀ w, (zeroValue t).run P w = .ok (.agg ⟨zs⟩) w)
    (h3 : ∀ w, (fs.mapM fun f => do pure (f.offset, ← sizeOf f.type) : Sem (Array (Nat × Nat))).run P w = .ok ⟨pl⟩ w) : TyB P t (fun i => nth pl i) zs :=
  ⟨fun ps cs w hf => by
    have he : (fun i => nth pl i) = fun i => pl[i]? := funext fun i => by rw [nth_eq]
    rw [he] at hf
    have hz : (Value.agg ⟨zs⟩).cells = ⟨zs⟩ := rfl
    simp at h3
    simp [Instr.build, run_und h1, h2, h3, hz, hf]⟩
theorem run_places : ∀ (fs : List Field) (pl : List (Nat × Nat)) (w : World), (fs.map fun f => (P.info? f.type).map fun i => (f.offset, i.size)) = pl.map some →
    (fs.mapM fun f => do pure (f.offset, ← sizeOf f.type) : Sem (List (Nat × Nat))).run P w = .ok pl w := by
  intro fs
  induction fs with
  | nil => intro pl w h; cases pl with
    | nil => rfl
    | cons p r => cases h
  | cons f r ih =>
    intro pl w h
    cases pl with
    | nil => cases h
    | cons p pl =>
      simp only [List.map_cons, List.cons.injEq] at h
      cases hi : P.info? f.type with
      | none => rw [hi] at h; cases h.1
      | some i =>
        rw [hi] at h
        have hp : (f.offset, i.size) = p := by have := h.1; simpa using this
        simp only [List.mapM_cons, Sem.run_bind, run_size hi, Result.andThen, Sem.run_pure, ih pl w h.2]
        rw [hp]
theorem tyB_struct' {t : TypeId} {fs : Array Field} {zs : List Value} {pl : List (Nat × Nat)} (h1 : P.underlying t = some (.struct fs)) (h2 : ∀ w, (zeroValue t).run P w = .ok (.agg ⟨zs⟩) w)
    (h3 : (fs.toList.map fun f => (P.info? f.type).map fun i => (f.offset, i.size)) = pl.map some) : TyB P t (fun i => nth pl i) zs :=
  tyB_struct (pl := pl) h1 h2 fun w => by
    rw [Array.mapM_eq_mapM_toList]
    have := run_places (P := P) fs.toList pl w h3
    simp only [Sem.run_map, this, Result.andThen]
instance tyB_array {t e : TypeId} {k : Nat} {zs : List Value} {i j : TypeInfo} {d : TypeDesc} {z : Value} [h1 : Ty P t (.array k e) (.agg ⟨zs⟩) i] [h2 : Ty P e d z j] : TyB P t (fun i => some (i * j.size, j.size)) zs :=
  ⟨fun ps cs w hf => by
    have hz : (Value.agg ⟨zs⟩).cells = ⟨zs⟩ := rfl
    simp [Instr.build, run_und h1.u, h1.z, run_size h2.i, hz, hf]⟩
end

section
variable {P : Program} {r : Option Nat} {F : Heap} {n : Nat} {Q : SPost} {env : Env} {own : List Heap} {ds : List Deferred} {all : Array Oper} {l : List Nat} {i : Nat} {o : Oper}

/-- An operation that makes a new block. -/
theorem so_new {d : Nat} {ob : Obj} (hi : all[i]? = some o) (hd : o.dst = some d) (hn : d < n) (hg : wantedE all env o = some true) (hp : plainOp o.op = true) (hz : ∀ off, fzo ob off = false) (val : Nat → Value)
    (hrun : ∀ a w, Has n env a → Sat (F :: own) w → (execOp a.eval o).run P w = .ok (.value (val w.heap.size)) { w with heap := w.heap.push ob })
    (h : ∀ b, SO false P r F n all l Q ((d, val b) :: env) (blk b ob :: own) ds) : SO false P r F n all (i :: l) Q env own ds := by
  intro a w ha hds hs
  rw [wpOpsIn_cons]
  simp only [wpOpIn, hi, wanted_of ha hg, if_true]
  refine ⟨fun f _ => by simp, ?_⟩
  rw [fen_round, semAt_plain hp, hrun a w ha hs, Oper.uponIn_value, hd]
  exact h w.heap.size _ _ (ha.put _ hn) hds ((sat_alloc hs ob hz).swap)

theorem so_alloc {d : Nat} {t : TypeId} {de : TypeDesc} {z : Value} {ti : TypeInfo} {cs : List Value} [ty : Ty P t de z ti] (hi : all[i]? = some o) (hd : o.dst = some d) (hn : d < n) (hg : wantedE all env o = some true) (ho : o.op = .alloc t) (hz : cellsO z = some cs)
    (h : ∀ b, SO false P r F n all l Q ((d, .pointer (some ⟨b, 0, none⟩)) :: env) (blk b (.cells ⟨cs⟩ t (0, 0)) :: own) ds) : SO false P r F n all (i :: l) Q env own ds :=
  so_new hi hd hn hg (by rw [ho]; rfl) (fun _ => by simp [fzo]) (fun b => .pointer (some ⟨b, 0, none⟩)) (fun a w _ _ => by
    simp [execOp, ho, Instr.alloc, ty.z, newVar, newRow, cellsO_eq hz]) h
theorem so_box {d : Nat} {t : TypeId} {x : Operand} {v : Value} {cs : List Value} (hi : all[i]? = some o) (hd : o.dst = some d) (hn : d < n) (hg : wantedE all env o = some true) (ho : o.op = .box t x) (hx : ev env x = some v) (hz : cellsO v = some cs)
    (h : ∀ b, SO false P r F n all l Q ((d, .pointer (some ⟨b, 0, none⟩)) :: env) (blk b (.cells ⟨cs⟩ t (0, 0)) :: own) ds) : SO false P r F n all (i :: l) Q env own ds :=
  so_new hi hd hn hg (by rw [ho]; rfl) (fun _ => by simp [fzo]) (fun b => .pointer (some ⟨b, 0, none⟩)) (fun a w ha _ => by
    simp [execOp, ho, Instr.box, ha.eval hx, newVar, newRow, cellsO_eq hz]) h

/-- A store into a block of one's own. -/
theorem so_store {t T : TypeId} {x y : Operand} {b off : Nat} {v : Value} {cs vs cs' : List Value} {own' : List Heap} {d : TypeDesc} {z : Value} {ti : TypeInfo} [ty : Ty P t d z ti]
    (hi : all[i]? = some o) (hd : o.dst = none) (hg : wantedE all env o = some true) (ho : o.op = .store t x y) (hx : ev env x = some (.pointer (some ⟨b, off, none⟩))) (hy : ev env y = some v)
    (hv : cellsO v = some vs) (hsz : vs.length = ti.size) (h1 : vs.all (·.oneCell') = true) [m : At own b (.cells ⟨cs⟩ T (0, 0))] (hc : spliceO cs off vs = some cs') [pb : PutB own b (.cells ⟨cs⟩ T (0, 0)) (.cells ⟨cs'⟩ T (0, 0)) own']
    (h : SO false P r F n all l Q env own' ds) : SO false P r F n all (i :: l) Q env own ds := by
  intro a w ha hds hs
  rw [wpOpsIn_cons]
  simp only [wpOpIn, hi, wanted_of ha hg, if_true]
  refine ⟨fun f _ => by simp, ?_⟩
  obtain ⟨g1, g2⟩ := spliceO_eq hc
  have hb : w.heap[b]? = some (.cells ⟨cs⟩ T (0, 0)) := At.get (own := own) (X := []) m (by simpa using hs.tail)
  have hst := run_storeCells_at P b off T vs 0 ⟨cs⟩ w hb (by simpa using g2) (by simpa using h1)
  have hrow : ((⟨cs⟩ : Array Value).toList.take (off + 0) ++ vs ++ (⟨cs⟩ : Array Value).toList.drop (off + 0 + vs.length)).toArray = ⟨cs'⟩ := by rw [g1]; rfl
  rw [hrow] at hst
  have hc' := cellsO_eq hv
  have hrun : (execOp a.eval o).run P w = .ok .skip (w.setRow b ⟨cs'⟩) := by
    simp [execOp, ho, Instr.storeAt, ha.eval hx, ha.eval hy, Instr.sureAddr, storeVar, run_size ty.i, hc', hsz, hst]
  rw [fen_round, semAt_plain (by rw [ho]; rfl), hrun, Oper.uponIn_skip, hd]
  obtain ⟨rest, p1, p2⟩ := pb.rest
  refine h _ _ ha hds ?_
  have s1 : Sat (blk b (.cells ⟨cs⟩ T (0, 0)) :: (rest ++ [F])) w := hs.perm ((List.perm_append_comm (l₁ := [F]) (l₂ := own)).trans (p1.append_right [F]))
  have s2 := s1.put (setRow_heap w b _ ⟨cs'⟩ T (0, 0) hb) (by rfl) (by rfl) (fun k hk => setRow_other w b k _ hk) (fun _ => rfl)
  exact s2.perm (((p2.append_right [F]).symm).trans (List.perm_append_comm (l₁ := own') (l₂ := [F])))
end

theorem resV_cell {P : Program} {own : List Heap} {env : Env} {n a : Nat} {t T : TypeId} {d : TypeDesc} {z v : Value} {i : TypeInfo} {b off : Nat} {cs : List Value} {fz : Nat × Nat} [ty : Ty P t d z i] (ha : aggD d = false)
    (hx : look env a = some (.pointer (some ⟨b, off, none⟩))) [m : At own b (.cells ⟨cs⟩ T fz)] (hv : nth cs off = some v) : ResV P own env n (.cell a t) v := fun A w X hA s => by
  rw [nth_eq] at hv
  have h1 : w.cell? ⟨b, off, none⟩ = some v := by rw [cell_at (m.get s)]; simpa using hv
  have h2 : A.tmps.getD a undef = .pointer (some ⟨b, off, none⟩) := by rw [Array.getD_eq_getD_getElem?, hA.get _ _ hx]; rfl
  simp [resSem, h2, asAddr, run_loadVar1 (P := P) (t := t) ha h1]
theorem resV_cellA {P : Program} {own : List Heap} {env : Env} {n a : Nat} {t T : TypeId} {d : TypeDesc} {z : Value} {i : TypeInfo} {b off : Nat} {cs ds vs : List Value} {fz : Nat × Nat} [ty : Ty P t d z i] (ha : aggD d = true)
    (hx : look env a = some (.pointer (some ⟨b, off, none⟩))) [m : At own b (.cells ⟨cs⟩ T fz)] (hd : dropO cs off = some ds) (hv : takeO ds i.size = some vs) : ResV P own env n (.cell a t) (.agg ⟨vs⟩) := fun A w X hA s => by
  obtain ⟨rfl, h1⟩ := dropO_eq hd
  obtain ⟨rfl, h2⟩ := takeO_eq hv
  have hl : ((cs.drop off).take i.size).length = i.size := by simp at h2 ⊢; omega
  have hc : ∀ j v, ((cs.drop off).take i.size)[j]? = some v → w.cell? ((⟨b, off, none⟩ : Addr).add j) = some v := fun j v hj => by
    rw [addr_add, cell_at (m.get s)]
    rw [List.getElem?_take] at hj
    split at hj
    · rw [List.getElem?_drop] at hj; simpa using hj
    · cases hj
  have h3 : A.tmps.getD a undef = .pointer (some ⟨b, off, none⟩) := by rw [Array.getD_eq_getD_getElem?, hA.get _ _ hx]; rfl
  simp [resSem, h3, asAddr, run_loadVarN (P := P) (t := t) ha hl hc]
end Go.SL
