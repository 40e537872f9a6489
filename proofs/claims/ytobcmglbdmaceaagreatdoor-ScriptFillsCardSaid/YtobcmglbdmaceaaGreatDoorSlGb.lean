/- A region that draws its order, whose operations read, reckon, and make new blocks, however these hang on one another. -/
import Derived.Test.YtobcmglbdmaceaaGreatDoorSlGa
import Derived.Maps.RangeRun
import Derived.Below
import Derived.RangeFuncRecord
set_option linter.unusedVariables false
set_option linter.unusedSimpArgs false
set_option linter.unusedSectionVars false
section
set_option linter.unusedVariables false
namespace Go.SL
def upd (bf : Nat → Nat) (i b : Nat) : Nat → Nat := fun k => bif Nat.beq k i then b else bf k
theorem upd_self (bf : Nat → Nat) (i b : Nat) : upd bf i b i = b := by simp [upd]
theorem upd_ne {bf : Nat → Nat} {i b k : Nat} (h : k ≠ i) : upd bf i b k = bf k := by
  have : Nat.beq k i = false := by
    cases e : Nat.beq k i with
    | false => rfl
    | true => exact absurd (Nat.eq_of_beq_eq_true e) h
  simp [upd, this]
section
variable (P : Program) (F : Heap) (n : Nat) (all : Array Oper) (own : List Heap) (nw : List Nat) (V : (Nat → Nat) → Nat → Value) (OB : (Nat → Nat) → Nat → Obj)
/-- What is asked of one operation, whatever the blocks' numbers are. -/
def WAt (bf : Nat → Nat) (i : Nat) (env : Env) : Prop :=
  ∃ o, all[i]? = some o ∧ ((nw.contains i = true ∧ wantedE all env o = some true ∧ ∃ vf, NewOp P n o env vf (OB bf i) ∧ ∀ b, V (upd bf i b) i = vf b) ∨ (nw.contains i = false ∧ condAt P F n all own env o (V bf i)))
def WN (bf : Nat → Nat) (Q : Env → Prop) : List Nat → Env → Prop
  | [], env => Q env
  | i :: r, env => WAt P F n all own nw V OB bf i env ∧ WN bf Q r (extE all i (V bf i) env)
end
section
variable {P : Program} {F : Heap} {n : Nat} {all : Array Oper} {own : List Heap} {nw : List Nat} {V : (Nat → Nat) → Nat → Value} {OB : (Nat → Nat) → Nat → Obj} {bf : Nat → Nat} {Q : Env → Prop}
theorem envL_cons {vs : Nat → Value} {i : Nat} {l : List Nat} {env : Env} : envL all vs (i :: l) env = envL all vs l (extE all i (vs i) env) := rfl
theorem wn_at : ∀ {l : List Nat} {env : Env}, WN P F n all own nw V OB bf Q l env → ∀ p i t, l = p ++ i :: t → WAt P F n all own nw V OB bf i (envL all (V bf) p env)
  | [], env, h, p, i, t, e => by simp at e
  | j :: l, env, h, [], i, t, e => by
    simp only [List.nil_append, List.cons.injEq] at e
    obtain ⟨rfl, rfl⟩ := e
    exact h.1
  | j :: l, env, h, k :: p, i, t, e => by
    simp only [List.cons_append, List.cons.injEq] at e
    obtain ⟨rfl, rfl⟩ := e
    rw [envL_cons]
    exact wn_at h.2 p i t rfl
theorem wn_end : ∀ {l : List Nat} {env : Env}, WN P F n all own nw V OB bf Q l env → Q (envL all (V bf) l env)
  | [], env, h => h
  | j :: l, env, h => wn_end (l := l) h.2
end
theorem exOf_q (l : List Nat) : exOf (l.map It.q) = l := by
  unfold exOf; induction l with
  | nil => rfl
  | cons i l ih => exact congrArg (List.cons i) ih
theorem ordOf_q (l : List Nat) : ordOf (l.map It.q) = l := by
  unfold ordOf; induction l with
  | nil => rfl
  | cons i l ih => exact congrArg (List.cons i) ih
theorem swp_drawN {P : Program} {r : Option Nat} {F : Heap} {n : Nat} {Q : SPost} {env : Env} {own : List Heap} {ds : List Deferred} {id : Nat} {ops : Array Oper} (order nw : List Nat) (V : (Nat → Nat) → Nat → Value) (OB : (Nat → Nat) → Nat → Obj)
    (hok : dok ops = true) (hac : acyOk ops = true) (hits : itsOk ops (order.map It.q) = true) (hdst : ∀ (i d : Nat), (ops[i]?).bind (·.dst) = some d → d < n) (hnw : nw.Nodup)
    (hloc : ∀ i ∈ nw, ∀ j, j < ops.size → j ≠ i → ((bits ops.toList []).getD j 0).testBit i = true ∨ ∀ bf b, V (upd bf i b) j = V bf j ∧ OB (upd bf i b) j = OB bf j)
    (hself : ∀ i ∈ nw, ∀ bf b, OB (upd bf i b) i = OB bf i) (hsub : ∀ i ∈ nw, i < ops.size)
    (h : ∀ bf, WN P F n ops own nw V OB bf (fun env => Q .normal env (nw.map (fun i => blk (bf i) (OB bf i)) ++ own) ds) order env) : SWP P r F n (.region id ops true) Q env own ds := by
  intro a0 w0 ha0 hd0 hs0
  refine wpIn_region_draw fun t => ?_
  obtain ⟨md, t', hmd, hsch⟩ := schedule_mode (mixed := P.follows .mixedOrders) hac t
  rw [hsch]
  have ho := itsOk_spec hits
  have hcov : ∀ i, i < ops.size → i ∈ order := fun i hi => by have := ho.exMem i hi; rwa [exOf_q] at this
  let own' : Array Bool → (Nat → Nat) → List Heap := fun L bf => (nw.filter fun i => L.getD i false).map (fun i => blk (bf i) (OB bf i))
  let Inv : Array Bool → Act → World → Prop := fun L a w => ∃ bf, L.size = ops.size ∧ a.tmps.size = n ∧ a.defers = ds ∧
    (∀ i o, L.getD i false = true → ops[i]? = some o → ∀ e ∈ o.after, Region.binds .any e = true → L.getD e.on false = true) ∧
    (∀ s, s < n → a.tmps[s]? = atL ops a0 (V bf) (fun i => L.getD i false) s) ∧ Sat (F :: own ++ own' L bf) w
  have hend : ∀ L a w, Inv L a w → (∀ i, i < ops.size → L.getD i false = true) → Lift F n Q .normal a w := by
    rintro L a w ⟨bf, s1, s2, s3, s4, sl, sat⟩ hall
    have e1 : own' L bf = nw.map (fun i => blk (bf i) (OB bf i)) := by
      show (nw.filter _).map _ = _
      rw [List.filter_eq_self.2 fun i hi => hall i (hsub i hi)]
    refine ⟨by simp, envL ops (V bf) order env, nw.map (fun i => blk (bf i) (OB bf i)) ++ own, ?_, ?_, ?_⟩
    · have := has_prefix (its := order.map It.q) ho hdst ha0 (p := order.map It.q) (t := []) (val := V bf) (by simp) s2 (fun s hs => ?_)
      · rwa [ordOf_q] at this
      · rw [sl s hs]
        simp only [atL]
        rw [lastW_congr (L := fun i => L.getD i false) (L' := fun j => (ordOf (order.map It.q)).contains j) fun j hj _ => by rw [hall j hj, ordOf_q]; symm; simpa using hcov j hj]
    · rw [← e1]
      exact sat.perm (by
        have : (own ++ own' L bf).Perm (own' L bf ++ own) := List.perm_append_comm
        exact this.cons F)
    · rw [s3]; exact wn_end (h bf)
  have key : ∀ fuel L a w, Inv L a w → fuel + cnt L ops.size = ops.size → wpAnyIn (fen r) 0 P md ops (Lift F n Q) fuel L a w := by
    intro fuel
    induction fuel with
    | zero =>
      intro L a w hI hf
      have hall := cnt_full ops.size (by omega : cnt L ops.size = ops.size)
      refine ⟨?_, hend L a w hI hall⟩
      obtain ⟨bf, s1, s2, s3, s4, sl, sat⟩ := hI
      unfold Region.ready
      rw [List.filter_eq_nil_iff]
      intro i hi
      have hi' := List.mem_range.1 hi
      have hL := hall i hi'
      have hLt : L.getD i true = true := by
        have hlt : i < L.size := by rw [s1]; exact hi'
        simp only [Array.getD, hlt, dif_pos] at hL ⊢; exact hL
      simp [hLt]
    | succ fuel ih =>
      intro L a w hI hf
      refine ⟨fun hr => hend L a w hI (by obtain ⟨bf, s1, s2, s3, s4, sl, sat⟩ := hI; exact topo_listed hmd s1 hr), fun i hi => ?_⟩
      obtain ⟨bf, s1, s2, s3, s4, sl, sat⟩ := hI
      unfold Region.ready at hi
      rw [List.mem_filter] at hi
      obtain ⟨hi1, hi2⟩ := hi
      have hi1 := List.mem_range.1 hi1
      have hilt : i < L.size := by rw [s1]; exact hi1
      have hio : ops[i]? = some ops[i] := Array.getElem?_eq_getElem hi1
      simp only [hio, Option.map_some, Option.getD_some, Bool.and_eq_true, Bool.not_eq_true', Array.all_eq_true'] at hi2
      obtain ⟨hnl0, hrd⟩ := hi2
      have hnl : L.getD i false = false := by simp only [Array.getD, hilt, dif_pos] at hnl0 ⊢; exact hnl0
      have hrd' : ∀ e ∈ ops[i].after, Region.binds .any e = true → L.getD e.on false = true := fun e he hb => by
        have := hrd e he; rw [binds_any hb] at this; simpa using this
      have hready : ∀ j, Pre ops j i → L.getD j false = true := fun j hj => hj.ready (L := fun j => L.getD j false) s4 hio hrd'
      have hlisted : ∀ j k, Pre ops j k → L.getD k false = true → L.getD j false = true := fun j k hj => hj.listed (L := fun j => L.getD j false) s4
      have hdown : ∀ j o, (L.setIfInBounds i true).getD j false = true → ops[j]? = some o → ∀ e ∈ o.after, Region.binds .any e = true → (L.setIfInBounds i true).getD e.on false = true := by
        intro j o hj ho e he hb
        rw [getD_set hilt] at hj ⊢
        by_cases e' : e.on = i
        · rw [if_pos e']
        · rw [if_neg e']
          by_cases ej : j = i
          · subst ej; rw [hio] at ho; cases ho; exact hrd' e he hb
          · rw [if_neg ej] at hj; exact s4 j o hj ho e he hb
      have hcnt : fuel + cnt (L.setIfInBounds i true) ops.size = ops.size := by rw [cnt_set hilt hnl, if_pos hi1]; omega
      have hsz2 : ∀ u, (a.put (ops[i]).dst u).tmps.size = n := fun u => by cases (ops[i]).dst <;> simp [Act.put, s2]
      have hdf2 : ∀ u, (a.put (ops[i]).dst u).defers = ds := fun u => by cases (ops[i]).dst <;> simp [Act.put, s3]
      have hLo : ∀ j, j ≠ i → (L.setIfInBounds i true).getD j false = L.getD j false := fun j hj => by rw [getD_set hilt, if_neg hj]
      have hLi : (L.setIfInBounds i true).getD i false = true := by rw [getD_set hilt, if_pos rfl]
      have hmem := hcov i hi1
      obtain ⟨p, t2, hp⟩ := List.append_of_mem hmem
      have hsplit : order.map It.q = p.map It.q ++ It.q i :: t2.map It.q := by rw [hp]; simp
      obtain ⟨a'', ha'', hlook⟩ := ci_frame hok ho hdst ha0 s2 s4 sl hsplit rfl hio hnl hready
      rw [ordOf_q] at ha''
      obtain ⟨o, h1, h2⟩ := wn_at (h bf) p i t2 hp
      rw [hio] at h1; cases h1
      rcases h2 with ⟨hn1, hg, vf, hn2, hn3⟩ | ⟨hn1, hc⟩
      · -- a new block
        have hin : i ∈ nw := by simpa using hn1
        simp only [wpOpIn, hio, (wanted_looks hlook).trans (wanted_of ha'' hg), if_true]
        refine ⟨fun f _ => by simp, ?_⟩
        rw [fen_round, semAt_plain hn2.1, eval_looks hlook (dok_plain hok hio), hn2.2.2 a'' w ha'']
        show wpAnyIn (fen r) 0 P md ops (Lift F n Q) fuel (L.setIfInBounds i true) (a.put (ops[i]).dst (vf w.heap.size)) _
        let bf' := upd bf i w.heap.size
        have hkeep : ∀ j, j < ops.size → L.getD j false = true → V bf' j = V bf j ∧ OB bf' j = OB bf j := fun j hj hjl => by
          have hji : j ≠ i := fun e => by rw [e, hnl] at hjl; cases hjl
          rcases hloc i hin j hj hji with hb | hb
          · have := hlisted i j (bits_pre hb) hjl
            rw [hnl] at this; cases this
          · exact hb bf _
        have hlt : ∀ j, L.getD j false = true → j < ops.size := fun j hj => by
          by_cases hjs : j < L.size
          · omega
          · simp only [Array.getD, hjs, dif_neg, not_false_eq_true] at hj; cases hj
        refine ih _ _ _ ⟨bf', by simpa using s1, hsz2 _, hdf2 _, hdown, ci_slots hok s2 s4 sl hio hilt s1 hnl (V bf') _ (hn3 _) (fun j hj => (hkeep j (hlt j hj) hj).1), ?_⟩ hcnt
        have e1 : own' (L.setIfInBounds i true) bf' = (nw.filter fun k => (L.setIfInBounds i true).getD k false).map (fun k => blk (bf' k) (OB bf' k)) := rfl
        have hper : (own' (L.setIfInBounds i true) bf').Perm (blk w.heap.size (OB bf i) :: own' L bf) := by
          have hmemf : i ∈ nw.filter fun k => (L.setIfInBounds i true).getD k false := List.mem_filter.2 ⟨hin, hLi⟩
          have hpe := List.perm_cons_erase hmemf
          have e2 : (nw.filter fun k => (L.setIfInBounds i true).getD k false).erase i = nw.filter fun k => L.getD k false := by
            rw [List.Nodup.erase_eq_filter (hnw.filter _), List.filter_filter]
            refine List.filter_congr fun k hk => ?_
            by_cases e : k = i
            · subst e; simp [hnl]
            · simp [hLo k e, e]
          rw [e2] at hpe
          have := hpe.map (fun k => blk (bf' k) (OB bf' k))
          rw [e1]
          refine this.trans ?_
          rw [List.map_cons]
          have e3 : blk (bf' i) (OB bf' i) = blk w.heap.size (OB bf i) := by
            rw [show bf' i = w.heap.size from upd_self _ _ _, hself i hin]
          have e4 : (nw.filter fun k => L.getD k false).map (fun k => blk (bf' k) (OB bf' k)) = own' L bf := by
            refine List.map_congr_left fun k hk => ?_
            obtain ⟨hk1, hk2⟩ := List.mem_filter.1 hk
            have hki : k ≠ i := fun e => by rw [e, hnl] at hk2; cases hk2
            rw [show bf' k = bf k from upd_ne hki, (hkeep k (hlt k hk2) hk2).2]
          rw [e3, e4]
        have s5 := sat_alloc sat (OB bf i) hn2.2.1
        refine s5.perm ?_
        have : (F :: own ++ own' (L.setIfInBounds i true) bf').Perm (F :: own ++ (blk w.heap.size (OB bf i) :: own' L bf)) := hper.append_left _
        exact (this.trans List.perm_middle).symm
      · -- a quiet one
        have hcon : nw.contains i = false := hn1
        have hni : i ∉ nw := by simpa using hcon
        have e1 : own' (L.setIfInBounds i true) bf = own' L bf := by
          show (nw.filter _).map _ = (nw.filter _).map _
          rw [List.filter_congr fun k hk => hLo k fun e => hni (e ▸ hk)]
        have next : ∀ w', Sat (F :: own ++ own' L bf) w' → wpAnyIn (fen r) 0 P md ops (Lift F n Q) fuel (L.setIfInBounds i true) (a.put (ops[i]).dst (V bf i)) w' := fun w' hs' =>
          ih _ _ _ ⟨bf, by simpa using s1, hsz2 _, hdf2 _, hdown, ci_slots hok s2 s4 sl hio hilt s1 hnl (V bf) _ rfl (fun _ _ => rfl), by rw [e1]; exact hs'⟩ hcnt
        rcases hc.1 with ⟨hg, hvv⟩ | ⟨hg, hu, hpl⟩
        · simp only [wpOpIn, hio, (wanted_looks hlook).trans (wanted_of ha'' hg), if_true]
          refine ⟨fun f _ => by simp, ?_⟩
          rw [fen_round, semAt_plain hvv.1, eval_looks hlook (dok_plain hok hio)]
          obtain ⟨w', s', g1 | ⟨g1, g2⟩ | ⟨f, args, g1, g2⟩⟩ := hvv.2 a'' w (own' L bf) ha'' sat
          · rw [g1]; exact next w' s'
          · rw [g1]
            have := next w' s'
            rw [g2] at this; exact this
          · rw [g1]
            refine ⟨fun hx => by simp at hx, (callsIn_fen _ g2).mono ?_⟩
            rintro e w'' ⟨rfl, s2⟩
            exact next w'' s2
        · simp only [wpOpIn, hio, (wanted_looks hlook).trans (wanted_of ha'' hg)]
          refine ⟨fun f _ => by simp, ?_⟩
          have := next w sat
          rw [hu] at this; exact this
  have hrep : ∀ j, (Array.replicate ops.size false).getD j false = false := fun j => by
    rw [Array.getD_eq_getD_getElem?, Array.getElem?_replicate]; split <;> rfl
  refine wpAnyIn_sound ops.size t' (Array.replicate ops.size false) a0 _ (key ops.size _ a0 _ ⟨fun _ => 0, by simp, ha0.size, hd0, fun i o hi => ?_, fun s hs => ?_, ?_⟩ ?_)
  · rw [hrep] at hi; cases hi
  · have hz : ∀ k, lastW ops (fun j => (Array.replicate ops.size false).getD j false) s k = none := by
      intro k
      induction k with
      | zero => rfl
      | succ k ih =>
        simp only [hrep] at ih
        simp only [lastW, hrep, Bool.false_and, Bool.false_eq_true, if_false]
        exact ih
    simp only [atL, hz]
  · have e1 : own' (Array.replicate ops.size false) (fun _ => 0) = [] := by
      show (nw.filter _).map _ = []
      rw [List.filter_eq_nil_iff.2 fun i _ => by simp [hrep], List.map_nil]
    rw [e1, List.append_nil]
    exact hs0.heap (w' := { w0 with drawn := w0.drawn + 1 }) rfl rfl rfl
  · have : ∀ k, cnt (Array.replicate ops.size false) k = 0 := by
      intro k
      unfold cnt
      rw [List.length_eq_zero_iff, List.filter_eq_nil_iff]
      intro i _
      simp [hrep]
    rw [this]; omega
section
variable {P : Program} {F : Heap} {n : Nat} {all : Array Oper} {own : List Heap} {nw : List Nat} {V : (Nat → Nat) → Nat → Value} {OB : (Nat → Nat) → Nat → Obj} {bf : Nat → Nat} {Q : Env → Prop} {env : Env} {l : List Nat} {o : Oper}
theorem wn_q {i d : Nat} {v : Value} (hi : all[i]? = some o) (hd : o.dst = some d) (hn : Nat.blt d n = true) (hw : nw.contains i = false) (hg : wantedE all env o = some true) (hop : OpV P (F :: own) n o env v) (hv : V bf i = v)
    (h : WN P F n all own nw V OB bf Q l ((d, v) :: env)) : WN P F n all own nw V OB bf Q (i :: l) env := by
  refine ⟨⟨o, hi, .inr ⟨hw, .inl ⟨hg, hv ▸ hop⟩, fun d' hd' => ?_⟩⟩, ?_⟩
  · rw [hd] at hd'; cases hd'; simpa [Nat.blt_eq] using hn
  · have : extE all i (V bf i) env = (d, v) :: env := by simp only [extE, hi, Option.bind_some, hd, hv]
    rw [this]; exact h
theorem wn_n {i d : Nat} {vf : Nat → Value} {ob : Obj} (hi : all[i]? = some o) (hd : o.dst = some d) (hw : nw.contains i = true) (hg : wantedE all env o = some true) (hop : NewOp P n o env vf ob) (hob : OB bf i = ob) (hv : ∀ b, V (upd bf i b) i = vf b) (hv2 : V bf i = vf (bf i))
    (h : WN P F n all own nw V OB bf Q l ((d, vf (bf i)) :: env)) : WN P F n all own nw V OB bf Q (i :: l) env := by
  refine ⟨⟨o, hi, .inl ⟨hw, hg, vf, hob ▸ hop, hv⟩⟩, ?_⟩
  have : extE all i (V bf i) env = (d, vf (bf i)) :: env := by simp only [extE, hi, Option.bind_some, hd, hv2]
  rw [this]; exact h
theorem wn_nil (h : Q env) : WN P F n all own nw V OB bf Q [] env := h
end
end Go.SL
end
section
/- Maps laid entry by entry; ranges over maps, in whatever order; worlds that only grew. -/
set_option linter.unusedVariables false
namespace Go.SL
open Go.ChangeMaps (setBlock)
section
variable {P : Program} {own : List Heap} {n : Nat} {env : Env} {o : Oper}
theorem hop_insertC {t kt et : TypeId} {x ix y : Operand} {k : IntKind} {z : Int} {b clk : Nat} {es : Array MapEntry} {v zm zk : Value} {im ik : TypeInfo} [h1 : Ty P t (.map kt et) zm im] [h2 : Ty P kt (.int k) zk ik]
    (ho : o.op = .insert t x ix y) (hx : ev env x = some (.map (some b))) (hix : ev env ix = some (.int k z)) (hy : ev env y = some v) (hf : Instr.findNow (.int k) (.int k z) es.toList 0 = some none) :
    HOp P [blk b (.map es clk)] n o env fun _ own' => own' = [blk b (.map (es.push ⟨.int k z, v, clk⟩) (clk + 1))] := by
  refine ⟨by rw [ho]; rfl, fun a w X ha s => ?_⟩
  have s1 : Sat (blk b (.map es clk) :: X) w := by simpa using s
  have hb : w.heap[b]? = some (.map es clk) := s1.at (List.mem_cons_self ..) (blk_self _ _)
  have hset : ∀ ob : Obj, (∀ off, fzo ob off = false) → ∃ w', (setObj b ob).run P w = .ok () w' ∧ Sat (blk b ob :: X) w' := fun ob hz => by
    refine ⟨{ w with heap := w.heap.set! b ob }, by simp [setObj, Sem.run, hb], ?_⟩
    have hlt : b < w.heap.size := (Array.getElem?_eq_some_iff.1 hb).1
    refine s1.put (by simp [hlt]) rfl rfl (fun q hq => ?_) (fun off => by rw [hz]; rfl)
    simp [Ne.symm hq]
  obtain ⟨w', hr, s'⟩ := hset (.map (es.push ⟨.int k z, v, clk⟩) (clk + 1)) (fun _ => rfl)
  refine ⟨w', .inr (.inl ⟨[blk b (.map (es.push ⟨.int k z, v, clk⟩) (clk + 1))], ?_, by simpa using s', rfl⟩)⟩
  simp [execOp, ho, ha.eval hx, ha.eval hix, ha.eval hy, Instr.mapUpdate, run_und h1.u, getObj, Sem.run, hb, run_checkInt h2.u, run_findInt h2.u hf, hr]
/-- One step of a range over a map: whichever entry is left, or none. -/
theorem hop_next {x : Operand} {r m since c0 clock : Nat} {seen : Array Nat} {es : Array MapEntry} (ho : o.op = .next x false) (hx : ev env x = some (.pointer (some ⟨r, 0, none⟩))) (hold : ∀ e ∈ es.toList, e.born < since) (hsc : since ≤ c0) :
    HOp P [blk r (.mapIter (some m) since seen c0), blk m (.map es clock)] n o env fun v own' =>
      ((∀ e ∈ es.toList, seen.contains e.born = true) ∧ v = .tuple #[.bool false] ∧ own' = [blk r (.mapIter (some m) since seen c0), blk m (.map es clock)]) ∨
      ∃ e ∈ es.toList, seen.contains e.born = false ∧ v = .tuple #[.bool true, e.key, e.val] ∧ own' = [blk r (.mapIter (some m) since (seen.push e.born) clock), blk m (.map es clock)] := by
  refine ⟨by rw [ho]; rfl, fun a w X ha s => ?_⟩
  have s1 : Sat (blk r (.mapIter (some m) since seen c0) :: blk m (.map es clock) :: X) w := by simpa using s
  have hr : w.heap[r]? = some (.mapIter (some m) since seen c0) := s1.at (List.mem_cons_self ..) (blk_self _ _)
  have hb : w.heap[m]? = some (.map es clock) := s1.at (List.mem_cons_of_mem _ (List.mem_cons_self ..)) (blk_self _ _)
  rcases run_next_at (P := P) w o.type r m since c0 seen es clock hr hb hold hsc with ⟨h0, hrun⟩ | ⟨e, he, w1, hw1, hrun⟩
  · refine ⟨w, .inl ⟨_, _, ?_, s, .inl ⟨all_seen es seen h0, rfl, rfl⟩⟩⟩
    simp [execOp, ho, ha.eval hx, hrun]
  · obtain ⟨m1, m2⟩ := mem_left he
    have sw : Sat (blk r (.mapIter (some m) since seen c0) :: blk m (.map es clock) :: X) w1 := by
      rcases hw1 with rfl | rfl
      · exact s1
      · exact s1.heap rfl rfl rfl
    have hr1 : w1.heap[r]? = some (.mapIter (some m) since seen c0) := sw.at (List.mem_cons_self ..) (blk_self _ _)
    have hlt : r < w1.heap.size := (Array.getElem?_eq_some_iff.1 hr1).1
    have s' : Sat (blk r (.mapIter (some m) since (seen.push e.born) clock) :: blk m (.map es clock) :: X) (setBlock w1 r (.mapIter (some m) since (seen.push e.born) clock)) := by
      refine sw.put ?_ rfl rfl (fun q hq => ?_) (fun off => rfl)
      · simp [setBlock, hlt]
      · simp [setBlock, Ne.symm hq]
    refine ⟨_, .inl ⟨_, [blk r (.mapIter (some m) since (seen.push e.born) clock), blk m (.map es clock)], ?_, by simpa using s', .inr ⟨e, m1, m2, rfl, rfl⟩⟩⟩
    simp [execOp, ho, ha.eval hx, hrun]
theorem opv_entry {x : Operand} {r m since clock : Nat} {seen : Array Nat} {es : Array MapEntry} {e : MapEntry} [h1 : HIn own (blk r (.mapIter (some m) since (seen.push e.born) clock))] [h2 : HIn own (blk m (.map es clock))]
    (ho : o.op = .entry x) (hx : ev env x = some (.pointer (some ⟨r, 0, none⟩))) (he : e ∈ es.toList) (hn : (es.toList.map (·.born)).Nodup) : OpV P own n o env (.tuple #[e.key, e.val]) := by
  refine ⟨by rw [ho]; rfl, fun a w X ha s => ⟨w, s, .inl ?_⟩⟩
  have hr : w.heap[r]? = some (.mapIter (some m) since (seen.push e.born) clock) := s.at (List.mem_append.2 (.inl h1.mem)) (blk_self _ _)
  have hb : w.heap[m]? = some (.map es clock) := s.at (List.mem_append.2 (.inl h2.mem)) (blk_self _ _)
  simp [execOp, ho, ha.eval hx, run_entry_at (P := P) w r m since seen es clock e hr hb he hn]
end
section
variable {P : Program} {r : Option Nat} {F : Heap} {n : Nat} {Q : SPost} {env : Env} {own rest hs prot : List Heap} {ds : List Deferred} {all : Array Oper} {l : List Oper} {o : Oper}
theorem sl_insertC {t kt et : TypeId} {x ix y : Operand} {k : IntKind} {z : Int} {b clk : Nat} {es : Array MapEntry} {v zm zk : Value} {im ik : TypeInfo} [h1 : Ty P t (.map kt et) zm im] [h2 : Ty P kt (.int k) zk ik]
    (hd : o.dst = none) (hg : wantedE all env o = some true) (ho : o.op = .insert t x ix y) (hx : ev env x = some (.map (some b))) (hix : ev env ix = some (.int k z)) (hy : ev env y = some v) [tk : TakeL own [blk b (.map es clk)] rest]
    (hf : Instr.findNow (.int k) (.int k z) es.toList 0 = some none)
    (next : SOL false P r F n all l Q env (blk b (.map (es.push ⟨.int k z, v, clk⟩) (clk + 1)) :: rest) ds) : SOL false P r F n all (o :: l) Q env own ds :=
  sl_hop0 hd hg (hop_insertC ho hx hix hy hf) fun v' own' hR => by subst hR; exact ⟨_, rfl, next⟩
theorem sl_rangeM {t kt et : TypeId} {x : Operand} {d m clk : Nat} {es : Array MapEntry} {zm : Value} {im : TypeInfo} [h1 : Ty P t (.map kt et) zm im] (hd : o.dst = some d) (hn : Nat.blt d n = true) (hg : wantedE all env o = some true)
    (ho : o.op = .range t x) (hx : ev env x = some (.map (some m))) [hi : HIn own (blk m (.map es clk))]
    (next : ∀ b, SOL false P r F n all l Q ((d, .pointer (some ⟨b, 0, none⟩)) :: env) (blk b (.mapIter (some m) clk #[] clk) :: own) ds) : SOL false P r F n all (o :: l) Q env own ds := by
  refine sl_turn hd hn hg (by rw [ho]; rfl) fun A w hA hs => ?_
  have hb : w.heap[m]? = some (.map es clk) := hs.at (List.mem_cons_of_mem _ hi.mem) (blk_self _ _)
  refine ⟨.pointer (some ⟨w.heap.size, 0, none⟩), w.alloc (.mapIter (some m) clk #[] clk), blk w.heap.size (.mapIter (some m) clk #[] clk) :: own, ?_, (sat_alloc hs _ (fun _ => rfl)).swap, next _⟩
  simp [execOp, ho, hA.eval hx, run_range_map (P := P) w t kt et m es clk h1.u hb]
end
end Go.SL
end
section
/- Ranges over functions whose own heaps are let go behind them. -/
namespace Go.SL
/-- A function that hands 'xs' to its yield, one after the other, until yield says no; of what it has of its own, only 'hk' is told behind it. -/
def IterD (P : Program) (f : FuncId) (first captured : List Value) (hs hk : List Heap) (xs : List (List Value)) : Prop :=
  ∀ (L : Nat) (J : Nat → Heap → Prop) (Jx : Heap → Prop),
    (∀ k x H, xs[k]? = some x → J k H → YT P L x H fun v H' => (v = .bool true ∧ J (k + 1) H') ∨ (v = .bool false ∧ Jx H')) →
    ∀ H, J 0 H → T P f (first ++ [.func (.yield L) #[] #[]] ++ captured) (H :: hs) fun e own' => e = .returned (.tuple #[]) ∧ ∃ H', own' = H' :: hk ∧ (J xs.length H' ∨ Jx H')
section
variable {P : Program} {F : Heap} {n : Nat} {Q : SPost} {env : Env} {own rest hsI hk : List Heap} {ds : List Deferred} {assign body : Code}
theorem swp_rangeD {g : Operand} {ps : Array Tmp} {f : FuncId} {first captured : Array Value} {xs : List (List Value)} [he : Enters P f] [t : TakeL own hsI rest]
    (J : Nat → List Heap → Prop) (Jx : Code → List Heap → Prop)
    (hg : ev env g = some (.func (.func f) first captured)) (hI : IterD P f first.toList captured.toList hsI hk xs)
    (hps : ps.toList.all (fun p => Nat.blt p n) = true) (hxs : ∀ x ∈ xs, x.length = ps.size) (h0 : J 0 rest)
    (hround : ∀ L k x own1, xs[k]? = some x → J k own1 → ∀ F, ∃ env1, bindO ps.toList x env = some env1 ∧ SWP P (some L) F n assign (Thn (fun env2 own2 ds2 => ∀ F2, SWP P (some L) F2 n body (RoundQ (J (k + 1)) Jx) env2 own2 ds2) fun _ _ _ _ => False) env1 own1 [])
    (hdone : ∀ D own1, J xs.length own1 → ∃ own2, appH own1 hk = some own2 ∧ Q .normal env (blk D (.deferred (some [])) :: own2) (mark D :: ds))
    (hstop : ∀ D c own1, Jx c own1 → ∃ own2, appH own1 hk = some own2 ∧ SWP P none F n c Q env (blk D (.deferred (some [])) :: own2) (mark D :: ds)) :
    SWP P none F n (.rangeFunc g ps assign body) Q env own ds := by
  have hround : ∀ L k x own1, xs[k]? = some x → J k own1 → ∀ F, SWP P (some L) F n assign (Thn (fun env2 own2 ds2 => ∀ F2, SWP P (some L) F2 n body (RoundQ (J (k + 1)) Jx) env2 own2 ds2) fun _ _ _ _ => False) (bindP ps.toList x env) own1 [] := fun L k x own1 hx hJ F => by
    obtain ⟨env1, e, h⟩ := hround L k x own1 hx hJ F
    rw [bindO_eq e] at h; exact h
  have hdone : ∀ D own1, J xs.length own1 → Q .normal env (blk D (.deferred (some [])) :: (own1 ++ hk)) (mark D :: ds) := fun D own1 hJ => by
    obtain ⟨own2, e, h⟩ := hdone D own1 hJ
    rw [appH_eq e] at h; exact h
  have hstop : ∀ D c own1, Jx c own1 → SWP P none F n c Q env (blk D (.deferred (some [])) :: (own1 ++ hk)) (mark D :: ds) := fun D c own1 hJ => by
    obtain ⟨own2, e, h⟩ := hstop D c own1 hJ
    rw [appH_eq e] at h; exact h
  intro a w ha hd hs
  refine wpIn_rangeFunc fun fn _ => ?_
  let L := w.heap.size + 1
  let rc : Loop := { state := .ready, pending := none, fn, tmps := a.tmps, params := ps, assign, body, defers := w.heap.size }
  let xv : Value := .func (.yield L) #[] #[]
  let w1 := (w.alloc (.deferred (some []))).alloc (.loop rc)
  have hres : (resolve a.eval (rangeCall g L) 0).run P w1 = .ok { target := .fn (.func f) captured, args := first ++ #[xv] } w1 := by
    simp only [resolve, ha.eval hg, Deferred.ofValue, Sem.run_pure]
    simp [Act.eval, xv]
  have hinv : (invoke (.fn (.func f) captured) (first ++ #[xv])).run P w1 = .ok (.enter f (first ++ #[xv] ++ captured)) w1 := he.run _ _
  refine ⟨L, [SL.mark w.heap.size], w1, { target := .fn (.func f) captured, args := first ++ #[xv] }, w1, f, first ++ #[xv] ++ captured, w1, run_enterLoop_outer fn a.tmps ps assign body, hres, fun _ _ => by simp, hinv, fun hx => by simp at hx, callsIn_fen _ ?_⟩
  have e : first ++ #[xv] ++ captured = (first.toList ++ [xv] ++ captured.toList).toArray := by apply Array.ext'; simp
  rw [e]
  have sD : Sat (blk w.heap.size (.deferred (some [])) :: F :: own) (w.alloc (.deferred (some []))) := sat_alloc hs _ (fun _ => rfl)
  have sL : Sat (blk L (.loop rc) :: blk w.heap.size (.deferred (some [])) :: F :: own) w1 := by
    have := sat_alloc sD (.loop rc) (fun _ => rfl)
    rw [World.size_alloc] at this; exact this
  have sA : Sat ((blk L (.loop rc) :: rest) ++ (hsI ++ [blk w.heap.size (.deferred (some [])), F])) w1 := by
    refine sL.perm ((?_ : List.Perm _ _).cons _)
    refine ((t.perm.cons F).cons _).trans ?_
    have p1 : (blk w.heap.size (.deferred (some [])) :: F :: (hsI ++ rest)).Perm ((hsI ++ rest) ++ [blk w.heap.size (.deferred (some [])), F]) := List.perm_append_comm (l₁ := [blk w.heap.size (.deferred (some [])), F]) (l₂ := hsI ++ rest)
    refine p1.trans ?_
    have p2 : (hsI ++ rest).Perm (rest ++ hsI) := List.perm_append_comm
    simpa [List.append_assoc] using p2.append_right [blk w.heap.size (.deferred (some [])), F]
  let lr : Loop → Heap := fun r => blk L (.loop r)
  let JJ : Nat → Heap → Prop := fun k H => ∃ own1, (lr rc :: own1).Pairwise Disj ∧ H = joins (lr rc :: own1) ∧ J k own1
  let JX : Heap → Prop := fun H => ∃ c own1, (lr { rc with state := .done, pending := some c } :: own1).Pairwise Disj ∧ H = joins (lr { rc with state := .done, pending := some c } :: own1) ∧ Jx c own1
  have hpn : ∀ p ∈ ps.toList, p < n := fun p hp => Nat.le_of_ble_eq_true (List.all_eq_true.1 hps p hp)
  have hT := hI L JJ JX (fun k x H hx hJ => by
    obtain ⟨own1, hdj, rfl, hJ⟩ := hJ
    exact yt_round (rc := rc) (has_tmps ha) hpn (hxs x (List.mem_of_getElem? hx)) rfl hdj (hround L k x own1 hx hJ)) _ ⟨rest, (sA.sub (List.sublist_append_left _ _)).dj, rfl, h0⟩
  refine (hT w1 [blk w.heap.size (.deferred (some [])), F] (by simpa using sA.joins)).mono ?_
  rintro e w3 ⟨own', s3, rfl, H', rfl, hJ⟩
  have done : ∀ (r3 : Loop) own1, (lr r3 :: own1).Pairwise Disj → H' = joins (lr r3 :: own1) → r3.state ≠ .busy →
      ∃ w4, (Instr.endLoop L).run P w3 = .ok r3.pending w4 ∧ Sat (F :: (blk w.heap.size (.deferred (some [])) :: (own1 ++ hk))) w4 := by
    rintro r3 own1 hdj rfl hst
    have s4 : Sat (lr r3 :: (own1 ++ (hk ++ [blk w.heap.size (.deferred (some [])), F]))) w3 := by
      have : Sat (joins (lr r3 :: own1) :: (hk ++ [blk w.heap.size (.deferred (some [])), F])) w3 := by simpa using s3
      simpa using this.unjoins hdj
    have hL3 : w3.heap[L]? = some (.loop r3) := s4.at (List.mem_cons_self ..) (blk_self _ _)
    refine ⟨_, run_endLoop hL3 hst, ?_⟩
    have s5 := (sat_put (o' := .loop { r3 with state := .exhausted }) s4 (fun _ => rfl)).tail
    refine s5.perm ?_
    have p1 : ((own1 ++ hk) ++ [blk w.heap.size (.deferred (some [])), F]).Perm ([F, blk w.heap.size (.deferred (some []))] ++ (own1 ++ hk)) :=
      List.perm_append_comm.trans ((List.Perm.swap F _ []).append_right _)
    simpa [List.append_assoc] using p1
  rcases hJ with ⟨own1, hdj, hH, hJ⟩ | ⟨c, own1, hdj, hH, hJ⟩
  · obtain ⟨w4, h1, h2⟩ := done rc own1 hdj hH (by simp [rc])
    refine ⟨none, w4, h1, ?_⟩
    exact Lift.mk (ds := SL.mark w.heap.size :: ds) (by simp) (has_tmps ha) (by simp [hd]) h2 (hdone _ _ hJ)
  · obtain ⟨w4, h1, h2⟩ := done _ own1 hdj hH (by simp)
    refine ⟨some c, w4, h1, ?_⟩
    exact hstop _ _ _ hJ _ w4 (has_tmps ha) (by simp [hd]) h2
end
end Go.SL
end
section
/- A region that draws its order, whose operations read what stays, and each turn heaps of their own (new blocks, stores, calls), in whatever order. -/
set_option linter.unusedVariables false
namespace Go.SL
def updG {α : Type} (bf : Nat → α) (i : Nat) (b : α) : Nat → α := fun k => bif Nat.beq k i then b else bf k
theorem updG_self {α : Type} (bf : Nat → α) (i : Nat) (b : α) : updG bf i b i = b := by simp [updG]
theorem updG_ne {α : Type} {bf : Nat → α} {i k : Nat} {b : α} (h : k ≠ i) : updG bf i b k = bf k := by
  have : Nat.beq k i = false := by
    cases e : Nat.beq k i with
    | false => rfl
    | true => exact absurd (Nat.eq_of_beq_eq_true e) h
  simp [updG, this]
section
variable {α : Type} (P : Program) (F : Heap) (n : Nat) (all : Array Oper) (own : List Heap) (hv : List Nat) (V : (Nat → α) → Nat → Value) (B : Nat → List Heap) (D : (Nat → α) → Nat → List Heap)
/-- What is asked of one operation, whatever the others came to. -/
def GAt (bf : Nat → α) (i : Nat) (env : Env) : Prop :=
  ∃ o, all[i]? = some o ∧ ((hv.contains i = true ∧ wantedE all env o = some true ∧ ∃ hs rest R, (B i ++ (F :: own)).Perm (hs ++ rest) ∧ HOp P hs n o env R ∧ ∀ v own', R v own' → ∃ c, (o.dst.isSome = true → V (updG bf i c) i = v) ∧ (own' ++ rest).Perm (D (updG bf i c) i ++ (F :: own))) ∨ (hv.contains i = false ∧ condAt P F n all own env o (V bf i)))
def GN (bf : Nat → α) (Q : Env → Prop) : List Nat → Env → Prop
  | [], env => Q env
  | i :: r, env => GAt P F n all own hv V B D bf i env ∧ GN bf Q r (extE all i (V bf i) env)
end
section
variable {α : Type} {P : Program} {F : Heap} {n : Nat} {all : Array Oper} {own : List Heap} {hv : List Nat} {V : (Nat → α) → Nat → Value} {B : Nat → List Heap} {D : (Nat → α) → Nat → List Heap} {bf : Nat → α} {Q : Env → Prop}
theorem gn_at : ∀ {l : List Nat} {env : Env}, GN P F n all own hv V B D bf Q l env → ∀ p i t, l = p ++ i :: t → GAt P F n all own hv V B D bf i (envL all (V bf) p env)
  | [], env, h, p, i, t, e => by simp at e
  | j :: l, env, h, [], i, t, e => by
    simp only [List.nil_append, List.cons.injEq] at e
    obtain ⟨rfl, rfl⟩ := e
    exact h.1
  | j :: l, env, h, k :: p, i, t, e => by
    simp only [List.cons_append, List.cons.injEq] at e
    obtain ⟨rfl, rfl⟩ := e
    rw [envL_cons]
    exact gn_at h.2 p i t rfl
theorem gn_end : ∀ {l : List Nat} {env : Env}, GN P F n all own hv V B D bf Q l env → Q (envL all (V bf) l env)
  | [], env, h => h
  | j :: l, env, h => gn_end (l := l) h.2
end
/-- What the operations have, so far. -/
def gOwn {α : Type} (hv : List Nat) (B : Nat → List Heap) (D : (Nat → α) → Nat → List Heap) (L : Nat → Bool) (bf : Nat → α) : List Heap := (hv.map fun i => if L i = true then D bf i else B i).flatten
theorem gOwn_split {α : Type} {hv : List Nat} {B : Nat → List Heap} {D : (Nat → α) → Nat → List Heap} {L : Nat → Bool} {bf : Nat → α} {i : Nat} (hi : i ∈ hv) : (gOwn hv B D L bf).Perm ((if L i = true then D bf i else B i) ++ gOwn (hv.erase i) B D L bf) := by
  have := (List.perm_cons_erase hi).map (fun i => if L i = true then D bf i else B i)
  have := this.flatten
  simpa [gOwn] using this
theorem gOwn_congr {α : Type} {hv : List Nat} {B : Nat → List Heap} {D : (Nat → α) → Nat → List Heap} {L L' : Nat → Bool} {bf bf' : Nat → α} (h : ∀ i ∈ hv, L i = L' i ∧ (L' i = true → D bf i = D bf' i)) : gOwn hv B D L bf = gOwn hv B D L' bf' := by
  unfold gOwn
  congr 1
  refine List.map_congr_left fun i hi => ?_
  obtain ⟨h1, h2⟩ := h i hi
  rw [h1]
  by_cases e : L' i = true
  · rw [if_pos e, if_pos e, h2 e]
  · rw [if_neg e, if_neg e]
theorem swp_drawG {α : Type} [Inhabited α] {P : Program} {r : Option Nat} {F : Heap} {n : Nat} {Q : SPost} {env : Env} {own : List Heap} {ds : List Deferred} {id : Nat} {ops : Array Oper} {rest0 : List Heap} (order hv : List Nat) (V : (Nat → α) → Nat → Value) (B : Nat → List Heap) (D : (Nat → α) → Nat → List Heap) (hsplit0 : rest0.Perm ((hv.map B).flatten ++ own))
    (hok : dok ops = true) (hac : acyOk ops = true) (hits : itsOk ops (order.map It.q) = true) (hdst : ∀ (i d : Nat), (ops[i]?).bind (·.dst) = some d → d < n) (hnw : hv.Nodup)
    (hloc : ∀ i ∈ hv, ∀ j, j < ops.size → j ≠ i → ((bits ops.toList []).getD j 0).testBit i = true ∨ ∀ bf c, V (updG bf i c) j = V bf j ∧ D (updG bf i c) j = D bf j)
    (hsub : ∀ i ∈ hv, i < ops.size)
    (h : ∀ bf, GN P F n ops own hv V B D bf (fun env => Q .normal env ((hv.map (D bf)).flatten ++ own) ds) order env) : SWP P r F n (.region id ops true) Q env rest0 ds := by
  intro a0 w0 ha0 hd0 hs0
  refine wpIn_region_draw fun t => ?_
  obtain ⟨md, t', hmd, hsch⟩ := schedule_mode (mixed := P.follows .mixedOrders) hac t
  rw [hsch]
  have ho := itsOk_spec hits
  have hcov : ∀ i, i < ops.size → i ∈ order := fun i hi => by have := ho.exMem i hi; rwa [exOf_q] at this
  let own' : Array Bool → (Nat → α) → List Heap := fun L bf => gOwn hv B D (fun i => L.getD i false) bf
  let Inv : Array Bool → Act → World → Prop := fun L a w => ∃ bf, L.size = ops.size ∧ a.tmps.size = n ∧ a.defers = ds ∧
    (∀ i o, L.getD i false = true → ops[i]? = some o → ∀ e ∈ o.after, Region.binds .any e = true → L.getD e.on false = true) ∧
    (∀ s, s < n → a.tmps[s]? = atL ops a0 (V bf) (fun i => L.getD i false) s) ∧ Sat (F :: own ++ own' L bf) w
  have hend : ∀ L a w, Inv L a w → (∀ i, i < ops.size → L.getD i false = true) → Lift F n Q .normal a w := by
    rintro L a w ⟨bf, s1, s2, s3, s4, sl, sat⟩ hall
    have e1 : own' L bf = (hv.map (D bf)).flatten := by
      show gOwn _ _ _ _ _ = _
      unfold gOwn
      congr 1
      exact List.map_congr_left fun i hi => by rw [if_pos (hall i (hsub i hi))]
    refine ⟨by simp, envL ops (V bf) order env, (hv.map (D bf)).flatten ++ own, ?_, ?_, ?_⟩
    · have := has_prefix (its := order.map It.q) ho hdst ha0 (p := order.map It.q) (t := []) (val := V bf) (by simp) s2 (fun s hs => ?_)
      · rwa [ordOf_q] at this
      · rw [sl s hs]
        simp only [atL]
        rw [lastW_congr (L := fun i => L.getD i false) (L' := fun j => (ordOf (order.map It.q)).contains j) fun j hj _ => by rw [hall j hj, ordOf_q]; symm; simpa using hcov j hj]
    · rw [← e1]
      exact sat.perm (by
        have : (own ++ own' L bf).Perm (own' L bf ++ own) := List.perm_append_comm
        exact this.cons F)
    · rw [s3]; exact gn_end (h bf)
  have key : ∀ fuel L a w, Inv L a w → fuel + cnt L ops.size = ops.size → wpAnyIn (fen r) 0 P md ops (Lift F n Q) fuel L a w := by
    intro fuel
    induction fuel with
    | zero =>
      intro L a w hI hf
      have hall := cnt_full ops.size (by omega : cnt L ops.size = ops.size)
      refine ⟨?_, hend L a w hI hall⟩
      obtain ⟨bf, s1, s2, s3, s4, sl, sat⟩ := hI
      unfold Region.ready
      rw [List.filter_eq_nil_iff]
      intro i hi
      have hi' := List.mem_range.1 hi
      have hL := hall i hi'
      have hLt : L.getD i true = true := by
        have hlt : i < L.size := by rw [s1]; exact hi'
        simp only [Array.getD, hlt, dif_pos] at hL ⊢; exact hL
      simp [hLt]
    | succ fuel ih =>
      intro L a w hI hf
      refine ⟨fun hr => hend L a w hI (by obtain ⟨bf, s1, s2, s3, s4, sl, sat⟩ := hI; exact topo_listed hmd s1 hr), fun i hi => ?_⟩
      obtain ⟨bf, s1, s2, s3, s4, sl, sat⟩ := hI
      unfold Region.ready at hi
      rw [List.mem_filter] at hi
      obtain ⟨hi1, hi2⟩ := hi
      have hi1 := List.mem_range.1 hi1
      have hilt : i < L.size := by rw [s1]; exact hi1
      have hio : ops[i]? = some ops[i] := Array.getElem?_eq_getElem hi1
      simp only [hio, Option.map_some, Option.getD_some, Bool.and_eq_true, Bool.not_eq_true', Array.all_eq_true'] at hi2
      obtain ⟨hnl0, hrd⟩ := hi2
      have hnl : L.getD i false = false := by simp only [Array.getD, hilt, dif_pos] at hnl0 ⊢; exact hnl0
      have hrd' : ∀ e ∈ ops[i].after, Region.binds .any e = true → L.getD e.on false = true := fun e he hb => by
        have := hrd e he; rw [binds_any hb] at this; simpa using this
      have hready : ∀ j, Pre ops j i → L.getD j false = true := fun j hj => hj.ready (L := fun j => L.getD j false) s4 hio hrd'
      have hlisted : ∀ j k, Pre ops j k → L.getD k false = true → L.getD j false = true := fun j k hj => hj.listed (L := fun j => L.getD j false) s4
      have hdown : ∀ j o, (L.setIfInBounds i true).getD j false = true → ops[j]? = some o → ∀ e ∈ o.after, Region.binds .any e = true → (L.setIfInBounds i true).getD e.on false = true := by
        intro j o hj ho e he hb
        rw [getD_set hilt] at hj ⊢
        by_cases e' : e.on = i
        · rw [if_pos e']
        · rw [if_neg e']
          by_cases ej : j = i
          · subst ej; rw [hio] at ho; cases ho; exact hrd' e he hb
          · rw [if_neg ej] at hj; exact s4 j o hj ho e he hb
      have hcnt : fuel + cnt (L.setIfInBounds i true) ops.size = ops.size := by rw [cnt_set hilt hnl, if_pos hi1]; omega
      have hsz2 : ∀ u, (a.put (ops[i]).dst u).tmps.size = n := fun u => by cases (ops[i]).dst <;> simp [Act.put, s2]
      have hdf2 : ∀ u, (a.put (ops[i]).dst u).defers = ds := fun u => by cases (ops[i]).dst <;> simp [Act.put, s3]
      have hLo : ∀ j, j ≠ i → (L.setIfInBounds i true).getD j false = L.getD j false := fun j hj => by rw [getD_set hilt, if_neg hj]
      have hLi : (L.setIfInBounds i true).getD i false = true := by rw [getD_set hilt, if_pos rfl]
      have hmem := hcov i hi1
      obtain ⟨p, t2, hp⟩ := List.append_of_mem hmem
      have hsplit : order.map It.q = p.map It.q ++ It.q i :: t2.map It.q := by rw [hp]; simp
      obtain ⟨a'', ha'', hlook⟩ := ci_frame hok ho hdst ha0 s2 s4 sl hsplit rfl hio hnl hready
      rw [ordOf_q] at ha''
      obtain ⟨o, h1, h2⟩ := gn_at (h bf) p i t2 hp
      rw [hio] at h1; cases h1
      rcases h2 with ⟨hn1, hg, hs1, rest, R, hp1, hop, hR⟩ | ⟨hn1, hc⟩
      · -- one that turns memory
        have hin : i ∈ hv := by simpa using hn1
        have hsp := gOwn_split (B := B) (D := D) (L := fun i => L.getD i false) (bf := bf) hin
        simp only [hnl, Bool.false_eq_true, if_false] at hsp
        have pp : (F :: own ++ own' L bf).Perm (hs1 ++ (rest ++ gOwn (hv.erase i) B D (fun i => L.getD i false) bf)) := by
          refine (hsp.append_left (F :: own)).trans ?_
          have q1 : (F :: own ++ (B i ++ gOwn (hv.erase i) B D (fun i => L.getD i false) bf)).Perm ((B i ++ (F :: own)) ++ gOwn (hv.erase i) B D (fun i => L.getD i false) bf) := by
            rw [← List.append_assoc]
            exact List.perm_append_comm.append_right _
          refine q1.trans ?_
          rw [← List.append_assoc]
          exact hp1.append_right _
        refine hop_wp hop hio ((wanted_looks hlook).trans (wanted_of ha'' hg)) ha'' (eval_looks hlook (dok_plain hok hio)) (sat.perm pp) fun v own1 w' hRv s2w => ?_
        obtain ⟨c, hv1, hv2⟩ := hR v own1 hRv
        let bf' := updG bf i c
        have hkeep : ∀ j, j < ops.size → L.getD j false = true → V bf' j = V bf j ∧ D bf' j = D bf j := fun j hj hjl => by
          have hji : j ≠ i := fun e => by rw [e, hnl] at hjl; cases hjl
          rcases hloc i hin j hj hji with hb | hb
          · have := hlisted i j (bits_pre hb) hjl
            rw [hnl] at this; cases this
          · exact hb bf _
        have hlt : ∀ j, L.getD j false = true → j < ops.size := fun j hj => by
          by_cases hjs : j < L.size
          · omega
          · simp only [Array.getD, hjs, dif_neg, not_false_eq_true] at hj; cases hj
        have hput : a.put (ops[i]).dst v = a.put (ops[i]).dst (V bf' i) := by
          cases hd : (ops[i]).dst with
          | none => rfl
          | some d => rw [hv1 (by rw [hd]; rfl)]
        rw [hput]
        refine ih _ _ _ ⟨bf', by simpa using s1, hsz2 _, hdf2 _, hdown, ci_slots hok s2 s4 sl hio hilt s1 hnl (V bf') _ rfl (fun j hj => (hkeep j (hlt j hj) hj).1), ?_⟩ hcnt
        have hsp2 := gOwn_split (B := B) (D := D) (L := fun k => (L.setIfInBounds i true).getD k false) (bf := bf') hin
        simp only [hLi, if_true] at hsp2
        have e2 : gOwn (hv.erase i) B D (fun k => (L.setIfInBounds i true).getD k false) bf' = gOwn (hv.erase i) B D (fun i => L.getD i false) bf := by
          refine gOwn_congr fun k hk => ?_
          have hki : k ≠ i := fun e => by subst e; exact (List.Nodup.not_mem_erase hnw) hk
          refine ⟨hLo k hki, fun hl => (hkeep k (hlt k hl) hl).2⟩
        rw [e2] at hsp2
        refine s2w.perm ?_
        have q3 : (own1 ++ (rest ++ gOwn (hv.erase i) B D (fun i => L.getD i false) bf)).Perm ((D bf' i ++ (F :: own)) ++ gOwn (hv.erase i) B D (fun i => L.getD i false) bf) := by
          rw [← List.append_assoc]
          exact hv2.append_right _
        refine q3.trans ?_
        have q4 : ((D bf' i ++ (F :: own)) ++ gOwn (hv.erase i) B D (fun i => L.getD i false) bf).Perm (F :: own ++ (D bf' i ++ gOwn (hv.erase i) B D (fun i => L.getD i false) bf)) := by
          rw [← List.append_assoc]
          exact List.perm_append_comm.append_right _
        exact q4.trans (hsp2.symm.append_left (F :: own))
      · -- a quiet one
        have hcon : hv.contains i = false := hn1
        have hni : i ∉ hv := by simpa using hcon
        have e1 : own' (L.setIfInBounds i true) bf = own' L bf := by
          exact gOwn_congr fun k hk => ⟨hLo k fun e => hni (e ▸ hk), fun _ => rfl⟩
        have next : ∀ w', Sat (F :: own ++ own' L bf) w' → wpAnyIn (fen r) 0 P md ops (Lift F n Q) fuel (L.setIfInBounds i true) (a.put (ops[i]).dst (V bf i)) w' := fun w' hs' =>
          ih _ _ _ ⟨bf, by simpa using s1, hsz2 _, hdf2 _, hdown, ci_slots hok s2 s4 sl hio hilt s1 hnl (V bf) _ rfl (fun _ _ => rfl), by rw [e1]; exact hs'⟩ hcnt
        rcases hc.1 with ⟨hg, hvv⟩ | ⟨hg, hu, hpl⟩
        · simp only [wpOpIn, hio, (wanted_looks hlook).trans (wanted_of ha'' hg), if_true]
          refine ⟨fun f _ => by simp, ?_⟩
          rw [fen_round, semAt_plain hvv.1, eval_looks hlook (dok_plain hok hio)]
          obtain ⟨w', s', g1 | ⟨g1, g2⟩ | ⟨f, args, g1, g2⟩⟩ := hvv.2 a'' w (own' L bf) ha'' sat
          · rw [g1]; exact next w' s'
          · rw [g1]
            have := next w' s'
            rw [g2] at this; exact this
          · rw [g1]
            refine ⟨fun hx => by simp at hx, (callsIn_fen _ g2).mono ?_⟩
            rintro e w'' ⟨rfl, s2⟩
            exact next w'' s2
        · simp only [wpOpIn, hio, (wanted_looks hlook).trans (wanted_of ha'' hg)]
          refine ⟨fun f _ => by simp, ?_⟩
          have := next w sat
          rw [hu] at this; exact this
  have hrep : ∀ j, (Array.replicate ops.size false).getD j false = false := fun j => by
    rw [Array.getD_eq_getD_getElem?, Array.getElem?_replicate]; split <;> rfl
  refine wpAnyIn_sound ops.size t' (Array.replicate ops.size false) a0 _ (key ops.size _ a0 _ ⟨fun _ => default, by simp, ha0.size, hd0, fun i o hi => ?_, fun s hs => ?_, ?_⟩ ?_)
  · rw [hrep] at hi; cases hi
  · have hz : ∀ k, lastW ops (fun j => (Array.replicate ops.size false).getD j false) s k = none := by
      intro k
      induction k with
      | zero => rfl
      | succ k ih =>
        simp only [hrep] at ih
        simp only [lastW, hrep, Bool.false_and, Bool.false_eq_true, if_false]
        exact ih
    simp only [atL, hz]
  · have e1 : own' (Array.replicate ops.size false) (fun _ => default) = (hv.map B).flatten := by
      show gOwn _ _ _ _ _ = _
      unfold gOwn
      congr 1
      exact List.map_congr_left fun i _ => if_neg (by simp [hrep])
    rw [e1]
    refine (hs0.heap (w' := { w0 with drawn := w0.drawn + 1 }) rfl rfl rfl).perm ?_
    exact (hsplit0.trans List.perm_append_comm).cons F
  · have : ∀ k, cnt (Array.replicate ops.size false) k = 0 := by
      intro k
      unfold cnt
      rw [List.length_eq_zero_iff, List.filter_eq_nil_iff]
      intro i _
      simp [hrep]
    rw [this]; omega
section
variable {α : Type} {P : Program} {F : Heap} {n : Nat} {all : Array Oper} {own : List Heap} {hv : List Nat} {V : (Nat → α) → Nat → Value} {B : Nat → List Heap} {D : (Nat → α) → Nat → List Heap} {bf : Nat → α} {Q : Env → Prop} {env : Env} {l : List Nat} {o : Oper}
theorem gn_q {i d : Nat} {v : Value} (hi : all[i]? = some o) (hd : o.dst = some d) (hn : Nat.blt d n = true) (hw : hv.contains i = false) (hg : wantedE all env o = some true) (hop : OpV P (F :: own) n o env v) (hv1 : V bf i = v)
    (h : GN P F n all own hv V B D bf Q l ((d, v) :: env)) : GN P F n all own hv V B D bf Q (i :: l) env := by
  refine ⟨⟨o, hi, .inr ⟨hw, .inl ⟨hg, hv1 ▸ hop⟩, fun d' hd' => ?_⟩⟩, ?_⟩
  · rw [hd] at hd'; cases hd'; simpa [Nat.blt_eq] using hn
  · have : extE all i (V bf i) env = (d, v) :: env := by simp only [extE, hi, Option.bind_some, hd, hv1]
    rw [this]; exact h
/-- A new block. -/
theorem gn_n {i d : Nat} {vf : Nat → Value} {ob : Obj} (hi : all[i]? = some o) (hd : o.dst = some d) (hw : hv.contains i = true) (hg : wantedE all env o = some true) (hop : NewOp P n o env vf ob) (hB : B i = [])
    (hc : ∀ b, ∃ c, V (updG bf i c) i = vf b ∧ D (updG bf i c) i = [blk b ob])
    (h : GN P F n all own hv V B D bf Q l ((d, V bf i) :: env)) : GN P F n all own hv V B D bf Q (i :: l) env := by
  refine ⟨⟨o, hi, .inl ⟨hw, hg, [], F :: own, fun v own' => ∃ b, v = vf b ∧ own' = [blk b ob], by rw [hB], ⟨hop.1, fun a w X ha s => ⟨_, .inl ⟨vf w.heap.size, [blk w.heap.size ob], hop.2.2 a w ha, ?_, w.heap.size, rfl, rfl⟩⟩⟩, ?_⟩⟩, ?_⟩
  · exact sat_alloc (by simpa using s) ob hop.2.1
  · rintro v own' ⟨b, rfl, rfl⟩
    obtain ⟨c, h1, h2⟩ := hc b
    exact ⟨c, fun _ => h1, by rw [h2]⟩
  · have : extE all i (V bf i) env = (d, V bf i) :: env := by simp only [extE, hi, Option.bind_some, hd]
    rw [this]; exact h
/-- One that turns memory, and lays no value. -/
theorem gn_s {i : Nat} {d1 : List Heap} (hi : all[i]? = some o) (hd : o.dst = none) (hw : hv.contains i = true) (hg : wantedE all env o = some true) (hop : HOp P (B i) n o env fun _ own' => own' = d1)
    (hc : ∃ c, D (updG bf i c) i = d1)
    (h : GN P F n all own hv V B D bf Q l env) : GN P F n all own hv V B D bf Q (i :: l) env := by
  refine ⟨⟨o, hi, .inl ⟨hw, hg, B i, F :: own, _, List.Perm.refl _, hop, ?_⟩⟩, ?_⟩
  · rintro v own' rfl
    obtain ⟨c, h1⟩ := hc
    exact ⟨c, (fun hx => by rw [hd] at hx; cases hx), by rw [h1]⟩
  · have : extE all i (V bf i) env = env := by simp only [extE, hi, Option.bind_some, hd]
    rw [this]; exact h
/-- One that turns memory, and lays a value (a call). -/
theorem gn_h {i d : Nat} {hs rest : List Heap} {R : Value → List Heap → Prop} (hi : all[i]? = some o) (hd : o.dst = some d) (hw : hv.contains i = true) (hg : wantedE all env o = some true) (hp : (B i ++ (F :: own)).Perm (hs ++ rest)) (hop : HOp P hs n o env R)
    (hc : ∀ v own', R v own' → ∃ c, V (updG bf i c) i = v ∧ (own' ++ rest).Perm (D (updG bf i c) i ++ (F :: own)))
    (h : GN P F n all own hv V B D bf Q l ((d, V bf i) :: env)) : GN P F n all own hv V B D bf Q (i :: l) env := by
  refine ⟨⟨o, hi, .inl ⟨hw, hg, hs, rest, R, hp, hop, fun v own' hR => ?_⟩⟩, ?_⟩
  · obtain ⟨c, h1, h2⟩ := hc v own' hR
    exact ⟨c, fun _ => h1, h2⟩
  · have : extE all i (V bf i) env = (d, V bf i) :: env := by simp only [extE, hi, Option.bind_some, hd]
    rw [this]; exact h
/-- Settled by a list of what the operations have, and what they have behind it. -/
theorem sl_drawG [Inhabited α] {r : Option Nat} {Q : SPost} {ds : List Deferred} {id : Nat} {ops : Array Oper} {own0 : List Heap} (order hv : List Nat) (V : (Nat → α) → Nat → Value) (B : Nat → List Heap) (D : (Nat → α) → Nat → List Heap) (hs : List Heap) [tp : TakeL own0 hs own] (hB : (hv.map B).flatten = hs)
    (hok : dok ops = true) (hac : acyOk ops = true) (hits : itsOk ops (order.map It.q) = true) (hdst : dstB ops n = true) (hnw : hv.Nodup)
    (hloc : ∀ i ∈ hv, ∀ j, j < ops.size → j ≠ i → ((bits ops.toList []).getD j 0).testBit i = true ∨ ∀ bf c, V (updG bf i c) j = V bf j ∧ D (updG bf i c) j = D bf j)
    (hsub : ∀ i ∈ hv, i < ops.size)
    (h : ∀ bf, GN P F n ops own hv V B D bf (fun env => Q .normal env ((hv.map (D bf)).flatten ++ own) ds) order env) : SWP P r F n (.region id ops true) Q env own0 ds :=
  swp_drawG order hv V B D (hB ▸ tp.perm) hok hac hits (dstB_spec hdst) hnw hloc hsub h
theorem gn_nil (h : Q env) : GN P F n all own hv V B D bf Q [] env := h
end
end Go.SL
end
section
/- Slices and strings cut at both ends. -/
namespace Go.SL
section
variable {P : Program} {own : List Heap} {n : Nat} {env : Env} {o : Oper}
theorem opv_sliceLH {t e : TypeId} {sz : Nat} {x y u : Operand} {base : Option Addr} {len cap : Nat} {k k2 : IntKind} {j i : Int} [h1 : TyE P t e sz] (ho : o.op = .slice t x (some y) (some u) none) (hx : ev env x = some (.slice base len cap)) (hy : ev env y = some (.int k j)) (hu : ev env u = some (.int k2 i))
    (h0 : 0 ≤ j) (hj : j ≤ i) (hi : i ≤ cap) : OpV P own n o env (.slice (sub base j.toNat cap sz) (i.toNat - j.toNat) (cap - j.toNat)) :=
  opv_run (by rw [ho]; rfl) fun a w ha => by
    have hj' : j ≤ (i.toNat : Int) := by omega
    have hi' : (0 : Int) ≤ i := by omega
    simp [execOp, ho, ha.eval hx, ha.eval hy, ha.eval hu, Instr.sliceAt, Instr.slice, Instr.sliceBounds, run_und h1.u, h1.s, run_bound h0 hj', run_bound hi' hi, sub]
theorem opv_sliceSLH {t : TypeId} {z : Value} {i : TypeInfo} {x y u : Operand} {l : List UInt8} {k k2 : IntKind} {lo hi : Int} [h1 : Ty P t .string z i] (ho : o.op = .slice t x (some y) (some u) none) (hx : ev env x = some (str l)) (hy : ev env y = some (.int k lo)) (hu : ev env u = some (.int k2 hi))
    (h0 : 0 ≤ lo) (h2 : lo ≤ hi) (h3 : hi ≤ l.length) : OpV P own n o env (str ((l.take hi.toNat).drop lo.toNat)) :=
  opv_sliceStr (lo := lo.toNat) (hi := hi.toNat) ho hx (.inr ⟨y, k, rfl, by rw [hy]; simp [Int.toNat_of_nonneg h0]⟩) (.inr ⟨u, k2, rfl, by rw [hu]; simp [Int.toNat_of_nonneg (show 0 ≤ hi by omega)]⟩) (by omega) (by omega)
end
end Go.SL
end
