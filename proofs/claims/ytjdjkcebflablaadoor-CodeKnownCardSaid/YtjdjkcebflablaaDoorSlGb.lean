/- A region that draws its order, whose operations read, reckon, and make new blocks, however these hang on one another. -/
import Derived.Test.YtjdjkcebflablaaDoorSlGa
set_option linter.unusedVariables false
set_option linter.unusedSimpArgs false
set_option linter.unusedSectionVars false
section
set_option linter.unusedVariables false
namespace Go.SL
def upd (bf : Nat → Nat) (i b : Nat) : Nat → Nat := fun k => bif Nat.beq k i then b else bf k
theorem upd_self (bf : Nat → Nat) (i b : Nat) : upd bf i b i = b := by simp [upd]
theorem upd_ne {bf : Nat → Nat} {i b k : Nat} (h : k ≠ i) : upd bf i b k = bf k := by
  have : Nat.beq k i = false := by
    cases e : Nat.beq k i with
    | false => rfl
    | true => exact absurd (Nat.eq_of_beq_eq_true e) h
  simp [upd, this]
section
variable (P : Program) (F : Heap) (n : Nat) (all : Array Oper) (own : List Heap) (nw : List Nat) (V : (Nat → Nat) → Nat → Value) (OB : (Nat → Nat) → Nat → Obj)
/-- What is asked of one operation, whatever the blocks' numbers are. -/
def WAt (bf : Nat → Nat) (i : Nat) (env : Env) : Prop :=
  ∃ o, all[i]? = some o ∧ ((nw.contains i = true ∧ wantedE all env o = some true ∧ ∃ vf, NewOp P n o env vf (OB bf i) ∧ ∀ b, V (upd bf i b) i = vf b) ∨ (nw.contains i = false ∧ condAt P F n all own env o (V bf i)))
def WN (bf : Nat → Nat) (Q : Env → Prop) : List Nat → Env → Prop
  | [], env => Q env
  | i :: r, env => WAt P F n all own nw V OB bf i env ∧ WN bf Q r (extE all i (V bf i) env)
end
section
variable {P : Program} {F : Heap} {n : Nat} {all : Array Oper} {own : List Heap} {nw : List Nat} {V : (Nat → Nat) → Nat → Value} {OB : (Nat → Nat) → Nat → Obj} {bf : Nat → Nat} {Q : Env → Prop}
theorem envL_cons {vs : Nat → Value} {i : Nat} {l : List Nat} {env : Env} : envL all vs (i :: l) env = envL all vs l (extE all i (vs i) env) := rfl
theorem wn_at : ∀ {l : List Nat} {env : Env}, WN P F n all own nw V OB bf Q l env → ∀ p i t, l = p ++ i :: t → WAt P F n all own nw V OB bf i (envL all (V bf) p env)
  | [], env, h, p, i, t, e => by simp at e
  | j :: l, env, h, [], i, t, e => by
    simp only [List.nil_append, List.cons.injEq] at e
    obtain ⟨rfl, rfl⟩ := e
    exact h.1
  | j :: l, env, h, k :: p, i, t, e => by
    simp only [List.cons_append, List.cons.injEq] at e
    obtain ⟨rfl, rfl⟩ := e
    rw [envL_cons]
    exact wn_at h.2 p i t rfl
theorem wn_end : ∀ {l : List Nat} {env : Env}, WN P F n all own nw V OB bf Q l env → Q (envL all (V bf) l env)
  | [], env, h => h
  | j :: l, env, h => wn_end (l := l) h.2
end
theorem exOf_q (l : List Nat) : exOf (l.map It.q) = l := by
  unfold exOf; induction l with
  | nil => rfl
  | cons i l ih => exact congrArg (List.cons i) ih
theorem ordOf_q (l : List Nat) : ordOf (l.map It.q) = l := by
  unfold ordOf; induction l with
  | nil => rfl
  | cons i l ih => exact congrArg (List.cons i) ih
theorem swp_drawN {P : Program} {r : Option Nat} {F : Heap} {n : Nat} {Q : SPost} {env : Env} {own : List Heap} {ds : List Deferred} {id : Nat} {ops : Array Oper} (order nw : List Nat) (V : (Nat → Nat) → Nat → Value) (OB : (Nat → Nat) → Nat → Obj)
    (hok : dok ops = true) (hac : acyOk ops = true) (hits : itsOk ops (order.map It.q) = true) (hdst : ∀ (i d : Nat), (ops[i]?).bind (·.dst) = some d → d < n) (hnw : nw.Nodup)
    (hloc : ∀ i ∈ nw, ∀ j, j < ops.size → j ≠ i → ((bits ops.toList []).getD j 0).testBit i = true ∨ ∀ bf b, V (upd bf i b) j = V bf j ∧ OB (upd bf i b) j = OB bf j)
    (hself : ∀ i ∈ nw, ∀ bf b, OB (upd bf i b) i = OB bf i) (hsub : ∀ i ∈ nw, i < ops.size)
    (h : ∀ bf, WN P F n ops own nw V OB bf (fun env => Q .normal env (nw.map (fun i => blk (bf i) (OB bf i)) ++ own) ds) order env) : SWP P r F n (.region id ops true) Q env own ds := by
  intro a0 w0 ha0 hd0 hs0
  refine wpIn_region_draw fun t => ?_
  obtain ⟨md, t', hmd, hsch⟩ := schedule_mode (mixed := P.follows .mixedOrders) hac t
  rw [hsch]
  have ho := itsOk_spec hits
  have hcov : ∀ i, i < ops.size → i ∈ order := fun i hi => by have := ho.exMem i hi; rwa [exOf_q] at this
  let own' : Array Bool → (Nat → Nat) → List Heap := fun L bf => (nw.filter fun i => L.getD i false).map (fun i => blk (bf i) (OB bf i))
  let Inv : Array Bool → Act → World → Prop := fun L a w => ∃ bf, L.size = ops.size ∧ a.tmps.size = n ∧ a.defers = ds ∧
    (∀ i o, L.getD i false = true → ops[i]? = some o → ∀ e ∈ o.after, Region.binds .any e = true → L.getD e.on false = true) ∧
    (∀ s, s < n → a.tmps[s]? = atL ops a0 (V bf) (fun i => L.getD i false) s) ∧ Sat (F :: own ++ own' L bf) w
  have hend : ∀ L a w, Inv L a w → (∀ i, i < ops.size → L.getD i false = true) → Lift F n Q .normal a w := by
    rintro L a w ⟨bf, s1, s2, s3, s4, sl, sat⟩ hall
    have e1 : own' L bf = nw.map (fun i => blk (bf i) (OB bf i)) := by
      show (nw.filter _).map _ = _
      rw [List.filter_eq_self.2 fun i hi => hall i (hsub i hi)]
    refine ⟨by simp, envL ops (V bf) order env, nw.map (fun i => blk (bf i) (OB bf i)) ++ own, ?_, ?_, ?_⟩
    · have := has_prefix (its := order.map It.q) ho hdst ha0 (p := order.map It.q) (t := []) (val := V bf) (by simp) s2 (fun s hs => ?_)
      · rwa [ordOf_q] at this
      · rw [sl s hs]
        simp only [atL]
        rw [lastW_congr (L := fun i => L.getD i false) (L' := fun j => (ordOf (order.map It.q)).contains j) fun j hj _ => by rw [hall j hj, ordOf_q]; symm; simpa using hcov j hj]
    · rw [← e1]
      exact sat.perm (by
        have : (own ++ own' L bf).Perm (own' L bf ++ own) := List.perm_append_comm
        exact this.cons F)
    · rw [s3]; exact wn_end (h bf)
  have key : ∀ fuel L a w, Inv L a w → fuel + cnt L ops.size = ops.size → wpAnyIn (fen r) 0 P md ops (Lift F n Q) fuel L a w := by
    intro fuel
    induction fuel with
    | zero =>
      intro L a w hI hf
      have hall := cnt_full ops.size (by omega : cnt L ops.size = ops.size)
      refine ⟨?_, hend L a w hI hall⟩
      obtain ⟨bf, s1, s2, s3, s4, sl, sat⟩ := hI
      unfold Region.ready
      rw [List.filter_eq_nil_iff]
      intro i hi
      have hi' := List.mem_range.1 hi
      have hL := hall i hi'
      have hLt : L.getD i true = true := by
        have hlt : i < L.size := by rw [s1]; exact hi'
        simp only [Array.getD, hlt, dif_pos] at hL ⊢; exact hL
      simp [hLt]
    | succ fuel ih =>
      intro L a w hI hf
      refine ⟨fun hr => hend L a w hI (by obtain ⟨bf, s1, s2, s3, s4, sl, sat⟩ := hI; exact topo_listed hmd s1 hr), fun i hi => ?_⟩
      obtain ⟨bf, s1, s2, s3, s4, sl, sat⟩ := hI
      unfold Region.ready at hi
      rw [List.mem_filter] at hi
      obtain ⟨hi1, hi2⟩ := hi
      have hi1 := List.mem_range.1 hi1
      have hilt : i < L.size := by rw [s1]; exact hi1
      have hio : ops[i]? = some ops[i] := Array.getElem?_eq_getElem hi1
      simp only [hio, Option.map_some, Option.getD_some, Bool.and_eq_true, Bool.not_eq_true', Array.all_eq_true'] at hi2
      obtain ⟨hnl0, hrd⟩ := hi2
      have hnl : L.getD i false = false := by simp only [Array.getD, hilt, dif_pos] at hnl0 ⊢; exact hnl0
      have hrd' : ∀ e ∈ ops[i].after, Region.binds .any e = true → L.getD e.on false = true := fun e he hb => by
        have := hrd e he; rw [binds_any hb] at this; simpa using this
      have hready : ∀ j, Pre ops j i → L.getD j false = true := fun j hj => hj.ready (L := fun j => L.getD j false) s4 hio hrd'
      have hlisted : ∀ j k, Pre ops j k → L.getD k false = true → L.getD j false = true := fun j k hj => hj.listed (L := fun j => L.getD j false) s4
      have hdown : ∀ j o, (L.setIfInBounds i true).getD j false = true → ops[j]? = some o → ∀ e ∈ o.after, Region.binds .any e = true → (L.setIfInBounds i true).getD e.on false = true := by
        intro j o hj ho e he hb
        rw [getD_set hilt] at hj ⊢
        by_cases e' : e.on = i
        · rw [if_pos e']
        · rw [if_neg e']
          by_cases ej : j = i
          · subst ej; rw [hio] at ho; cases ho; exact hrd' e he hb
          · rw [if_neg ej] at hj; exact s4 j o hj ho e he hb
      have hcnt : fuel + cnt (L.setIfInBounds i true) ops.size = ops.size := by rw [cnt_set hilt hnl, if_pos hi1]; omega
      have hsz2 : ∀ u, (a.put (ops[i]).dst u).tmps.size = n := fun u => by cases (ops[i]).dst <;> simp [Act.put, s2]
      have hdf2 : ∀ u, (a.put (ops[i]).dst u).defers = ds := fun u => by cases (ops[i]).dst <;> simp [Act.put, s3]
      have hLo : ∀ j, j ≠ i → (L.setIfInBounds i true).getD j false = L.getD j false := fun j hj => by rw [getD_set hilt, if_neg hj]
      have hLi : (L.setIfInBounds i true).getD i false = true := by rw [getD_set hilt, if_pos rfl]
      have hmem := hcov i hi1
      obtain ⟨p, t2, hp⟩ := List.append_of_mem hmem
      have hsplit : order.map It.q = p.map It.q ++ It.q i :: t2.map It.q := by rw [hp]; simp
      obtain ⟨a'', ha'', hlook⟩ := ci_frame hok ho hdst ha0 s2 s4 sl hsplit rfl hio hnl hready
      rw [ordOf_q] at ha''
      obtain ⟨o, h1, h2⟩ := wn_at (h bf) p i t2 hp
      rw [hio] at h1; cases h1
      rcases h2 with ⟨hn1, hg, vf, hn2, hn3⟩ | ⟨hn1, hc⟩
      · -- a new block
        have hin : i ∈ nw := by simpa using hn1
        simp only [wpOpIn, hio, (wanted_looks hlook).trans (wanted_of ha'' hg), if_true]
        refine ⟨fun f _ => by simp, ?_⟩
        rw [fen_round, semAt_plain hn2.1, eval_looks hlook (dok_plain hok hio), hn2.2.2 a'' w ha'']
        show wpAnyIn (fen r) 0 P md ops (Lift F n Q) fuel (L.setIfInBounds i true) (a.put (ops[i]).dst (vf w.heap.size)) _
        let bf' := upd bf i w.heap.size
        have hkeep : ∀ j, j < ops.size → L.getD j false = true → V bf' j = V bf j ∧ OB bf' j = OB bf j := fun j hj hjl => by
          have hji : j ≠ i := fun e => by rw [e, hnl] at hjl; cases hjl
          rcases hloc i hin j hj hji with hb | hb
          · have := hlisted i j (bits_pre hb) hjl
            rw [hnl] at this; cases this
          · exact hb bf _
        have hlt : ∀ j, L.getD j false = true → j < ops.size := fun j hj => by
          by_cases hjs : j < L.size
          · omega
          · simp only [Array.getD, hjs, dif_neg, not_false_eq_true] at hj; cases hj
        refine ih _ _ _ ⟨bf', by simpa using s1, hsz2 _, hdf2 _, hdown, ci_slots hok s2 s4 sl hio hilt s1 hnl (V bf') _ (hn3 _) (fun j hj => (hkeep j (hlt j hj) hj).1), ?_⟩ hcnt
        have e1 : own' (L.setIfInBounds i true) bf' = (nw.filter fun k => (L.setIfInBounds i true).getD k false).map (fun k => blk (bf' k) (OB bf' k)) := rfl
        have hper : (own' (L.setIfInBounds i true) bf').Perm (blk w.heap.size (OB bf i) :: own' L bf) := by
          have hmemf : i ∈ nw.filter fun k => (L.setIfInBounds i true).getD k false := List.mem_filter.2 ⟨hin, hLi⟩
          have hpe := List.perm_cons_erase hmemf
          have e2 : (nw.filter fun k => (L.setIfInBounds i true).getD k false).erase i = nw.filter fun k => L.getD k false := by
            rw [List.Nodup.erase_eq_filter (hnw.filter _), List.filter_filter]
            refine List.filter_congr fun k hk => ?_
            by_cases e : k = i
            · subst e; simp [hnl]
            · simp [hLo k e, e]
          rw [e2] at hpe
          have := hpe.map (fun k => blk (bf' k) (OB bf' k))
          rw [e1]
          refine this.trans ?_
          rw [List.map_cons]
          have e3 : blk (bf' i) (OB bf' i) = blk w.heap.size (OB bf i) := by
            rw [show bf' i = w.heap.size from upd_self _ _ _, hself i hin]
          have e4 : (nw.filter fun k => L.getD k false).map (fun k => blk (bf' k) (OB bf' k)) = own' L bf := by
            refine List.map_congr_left fun k hk => ?_
            obtain ⟨hk1, hk2⟩ := List.mem_filter.1 hk
            have hki : k ≠ i := fun e => by rw [e, hnl] at hk2; cases hk2
            rw [show bf' k = bf k from upd_ne hki, (hkeep k (hlt k hk2) hk2).2]
          rw [e3, e4]
        have s5 := sat_alloc sat (OB bf i) hn2.2.1
        refine s5.perm ?_
        have : (F :: own ++ own' (L.setIfInBounds i true) bf').Perm (F :: own ++ (blk w.heap.size (OB bf i) :: own' L bf)) := hper.append_left _
        exact (this.trans List.perm_middle).symm
      · -- a quiet one
        have hcon : nw.contains i = false := hn1
        have hni : i ∉ nw := by simpa using hcon
        have e1 : own' (L.setIfInBounds i true) bf = own' L bf := by
          show (nw.filter _).map _ = (nw.filter _).map _
          rw [List.filter_congr fun k hk => hLo k fun e => hni (e ▸ hk)]
        have next : ∀ w', Sat (F :: own ++ own' L bf) w' → wpAnyIn (fen r) 0 P md ops (Lift F n Q) fuel (L.setIfInBounds i true) (a.put (ops[i]).dst (V bf i)) w' := fun w' hs' =>
          ih _ _ _ ⟨bf, by simpa using s1, hsz2 _, hdf2 _, hdown, ci_slots hok s2 s4 sl hio hilt s1 hnl (V bf) _ rfl (fun _ _ => rfl), by rw [e1]; exact hs'⟩ hcnt
        rcases hc.1 with ⟨hg, hvv⟩ | ⟨hg, hu, hpl⟩
        · simp only [wpOpIn, hio, (wanted_looks hlook).trans (wanted_of ha'' hg), if_true]
          refine ⟨fun f _ => by simp, ?_⟩
          rw [fen_round, semAt_plain hvv.1, eval_looks hlook (dok_plain hok hio)]
          obtain ⟨w', s', g1 | ⟨g1, g2⟩ | ⟨f, args, g1, g2⟩⟩ := hvv.2 a'' w (own' L bf) ha'' sat
          · rw [g1]; exact next w' s'
          · rw [g1]
            have := next w' s'
            rw [g2] at this; exact this
          · rw [g1]
            refine ⟨fun hx => by simp at hx, (callsIn_fen _ g2).mono ?_⟩
            rintro e w'' ⟨rfl, s2⟩
            exact next w'' s2
        · simp only [wpOpIn, hio, (wanted_looks hlook).trans (wanted_of ha'' hg)]
          refine ⟨fun f _ => by simp, ?_⟩
          have := next w sat
          rw [hu] at this; exact this
  have hrep : ∀ j, (Array.replicate ops.size false).getD j false = false := fun j => by
    rw [Array.getD_eq_getD_getElem?, Array.getElem?_replicate]; split <;> rfl
  refine wpAnyIn_sound ops.size t' (Array.replicate ops.size false) a0 _ (key ops.size _ a0 _ ⟨fun _ => 0, by simp, ha0.size, hd0, fun i o hi => ?_, fun s hs => ?_, ?_⟩ ?_)
  · rw [hrep] at hi; cases hi
  · have hz : ∀ k, lastW ops (fun j => (Array.replicate ops.size false).getD j false) s k = none := by
      intro k
      induction k with
      | zero => rfl
      | succ k ih =>
        simp only [hrep] at ih
        simp only [lastW, hrep, Bool.false_and, Bool.false_eq_true, if_false]
        exact ih
    simp only [atL, hz]
  · have e1 : own' (Array.replicate ops.size false) (fun _ => 0) = [] := by
      show (nw.filter _).map _ = []
      rw [List.filter_eq_nil_iff.2 fun i _ => by simp [hrep], List.map_nil]
    rw [e1, List.append_nil]
    exact hs0.heap (w' := { w0 with drawn := w0.drawn + 1 }) rfl rfl rfl
  · have : ∀ k, cnt (Array.replicate ops.size false) k = 0 := by
      intro k
      unfold cnt
      rw [List.length_eq_zero_iff, List.filter_eq_nil_iff]
      intro i _
      simp [hrep]
    rw [this]; omega
section
variable {P : Program} {F : Heap} {n : Nat} {all : Array Oper} {own : List Heap} {nw : List Nat} {V : (Nat → Nat) → Nat → Value} {OB : (Nat → Nat) → Nat → Obj} {bf : Nat → Nat} {Q : Env → Prop} {env : Env} {l : List Nat} {o : Oper}
theorem wn_q {i d : Nat} {v : Value} (hi : all[i]? = some o) (hd : o.dst = some d) (hn : Nat.blt d n = true) (hw : nw.contains i = false) (hg : wantedE all env o = some true) (hop : OpV P (F :: own) n o env v) (hv : V bf i = v)
    (h : WN P F n all own nw V OB bf Q l ((d, v) :: env)) : WN P F n all own nw V OB bf Q (i :: l) env := by
  refine ⟨⟨o, hi, .inr ⟨hw, .inl ⟨hg, hv ▸ hop⟩, fun d' hd' => ?_⟩⟩, ?_⟩
  · rw [hd] at hd'; cases hd'; simpa [Nat.blt_eq] using hn
  · have : extE all i (V bf i) env = (d, v) :: env := by simp only [extE, hi, Option.bind_some, hd, hv]
    rw [this]; exact h
theorem wn_n {i d : Nat} {vf : Nat → Value} {ob : Obj} (hi : all[i]? = some o) (hd : o.dst = some d) (hw : nw.contains i = true) (hg : wantedE all env o = some true) (hop : NewOp P n o env vf ob) (hob : OB bf i = ob) (hv : ∀ b, V (upd bf i b) i = vf b) (hv2 : V bf i = vf (bf i))
    (h : WN P F n all own nw V OB bf Q l ((d, vf (bf i)) :: env)) : WN P F n all own nw V OB bf Q (i :: l) env := by
  refine ⟨⟨o, hi, .inl ⟨hw, hg, vf, hob ▸ hop, hv⟩⟩, ?_⟩
  have : extE all i (V bf i) env = (d, vf (bf i)) :: env := by simp only [extE, hi, Option.bind_some, hd, hv2]
  rw [this]; exact h
theorem wn_nil (h : Q env) : WN P F n all own nw V OB bf Q [] env := h
end
end Go.SL
end
