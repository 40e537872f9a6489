/- A region that draws its order, with entries put into new maps. -/
import Derived.Test.YtnfepffmlhmmhaaSlR2B
set_option linter.unusedVariables false
namespace Go.SL.DM
open Go.SL
section
theorem back_listed {all : Array Oper} (h : dok all = true) {L : Array Bool} (hsz : L.size = all.size) (hr : Region.ready .any all L = []) : ∀ i, i < all.size → L.getD i false = true := by
  intro i
  induction i using Nat.strongRecOn with
  | _ i ih =>
    intro hi
    cases hL : L.getD i false with
    | true => rfl
    | false =>
      exfalso
      have ho : all[i]? = some all[i] := Array.getElem?_eq_getElem hi
      have : i ∈ Region.ready .any all L := by
        unfold Region.ready
        rw [List.mem_filter]
        refine ⟨List.mem_range.2 hi, ?_⟩
        have hLt : L.getD i true = false := by
          have hlt : i < L.size := by omega
          simp only [Array.getD, hlt, dif_pos] at hL ⊢; exact hL
        simp only [hLt, Bool.not_false, Bool.true_and, ho, Option.map_some, Option.getD_some]
        rw [Array.all_eq_true']
        intro e he
        cases hb : Region.binds .any e with
        | false => rfl
        | true =>
          have hlt : e.on < i := dok_low h ho he hb
          simpa using ih e.on hlt (by omega)
      rw [hr] at this; cases this
theorem lastW_some {all : Array Oper} {L : Nat → Bool} {s j : Nat} : ∀ {m : Nat}, j < m → L j = true → (all[j]?).bind (·.dst) = some s → ∃ k, lastW all L s m = some k := by
  intro m
  induction m with
  | zero => intro h; omega
  | succ m ih =>
    intro hj hL hd
    simp only [lastW]
    by_cases e : j = m
    · subst e; rw [hL, hd]; simp
    · split
      · exact ⟨m, rfl⟩
      · exact ih (by omega) hL hd
theorem findNow_none {d : TypeDesc} {k : Value} : ∀ {l : List MapEntry} {i : Nat}, (∀ e ∈ l, Instr.sameNow d k e.key = some false) → Instr.findNow d k l i = some none
  | [], i, _ => rfl
  | e :: l, i, h => by
    simp only [Instr.findNow, h e (List.mem_cons_self ..)]
    exact findNow_none fun e' he => h e' (List.mem_cons_of_mem _ he)
theorem swp_drawM {P : Program} {r : Option Nat} {F : Heap} {n : Nat} {Q : SPost} {env : Env} {own : List Heap} {ds : List Deferred} {id : Nat} {ops : Array Oper} {its : List It} (prot : List Heap) (hpr : ∃ Y, own.Perm (prot ++ Y))
    (hok : dok ops = true) (hmx : P.follows .mixedOrders = true) (hits : itsOk ops its = true) (hdst : ∀ (i d : Nat), (ops[i]?).bind (·.dst) = some d → d < n)
    (h : Chain P F n ops prot (fun env own => Q .normal env own ds) its env own (fun _ => none) (fun _ => none)) : SWP P r F n (.region id ops true) Q env own ds := by
  intro a0 w0 ha0 hd0 hs0
  refine wpIn_region_draw fun t => ?_
  obtain ⟨md, t', hsch⟩ : ∃ md t', Region.schedule (P.follows .mixedOrders) ops t = Region.linearise md ops t' ∧ md = .any := ⟨.any, t, by unfold Region.schedule; rw [hmx]; rfl, rfl⟩
  obtain ⟨hsch, hmd⟩ := hsch
  rw [hsch]
  have ho := itsOk_spec hits
  let Inv : Array Bool → Act → World → Prop := fun L a w => ∃ pre post val own an en cur bf pl, CI P F n ops prot (fun env own => Q .normal env own ds) its env a0 ds pre post val own an en cur bf pl L a w ∧ Stuck en L post
  have hend : ∀ L a w, Inv L a w → (∀ i, i < ops.size → L.getD i false = true) → Lift F n Q .normal a w := by
    rintro L a w ⟨pre, post, val, own, an, en, cur, bf, pl, h, hst⟩ hall
    have hpost : post = [] := by
      cases post with
      | nil => rfl
      | cons it r =>
        exfalso
        have hlt : it.exec = true → False := fun hx => by
          have h1 := h.un it (List.mem_cons_self ..) hx
          have hs : it.sets = true ∨ it.sets = false := by cases it.sets <;> simp
          have : it.ix < ops.size := by
            have hm : it.ix ∈ exOf its := by rw [h.e]; exact mem_exOf (by simp) hx
            cases it with
            | an i =>
              -- it is shown somewhere
              by_cases hb : i < ops.size
              · exact hb
              · exfalso; cases hst
            | q i => exact ho.ordLt i (by rw [h.e]; exact mem_ordOf (it := .q i) (by simp) rfl)
            | f i => exact ho.ordLt i (by rw [h.e]; exact mem_ordOf (it := .f i) (by simp) rfl)
            | r i => exact ho.ordLt i (by rw [h.e]; exact mem_ordOf (it := .r i) (by simp) rfl)
            | rv i => cases hx
            | h c i => exact ho.ordLt i (by rw [h.e]; exact mem_ordOf (it := .h c i) (by simp) rfl)
            | fi i j => exact ho.ordLt i (by rw [h.e]; exact mem_ordOf (it := .fi i j) (by simp) rfl)
          rw [hall _ this] at h1; cases h1
        cases it with
        | rv i =>
          have : i < ops.size := ho.ordLt i (by rw [h.e]; exact mem_ordOf (it := .rv i) (by simp) rfl)
          have hst' : L.getD i false = false ∨ ∃ k x, en k = some x ∧ x.1 = i ∧ L.getD k false = false := hst
          rcases hst' with hst' | ⟨k, x, hk, -, hst'⟩
          · rw [hall _ this] at hst'; cases hst'
          · have hlt : k < ops.size := ho.ordLt k (by rw [h.e]; exact mem_ordOf (it := .fi k x.1) (List.mem_append.2 (.inl (h.ei k x hk))) rfl)
            rw [hall _ hlt] at hst'; cases hst'
        | _ => exact hlt rfl
    subst hpost
    have hpre : its = pre := by rw [h.e, List.append_nil]
    have hpl : pl = [] := by
      cases pl with
      | nil => rfl
      | cons i l => have := ((h.pm i).1 (List.mem_cons_self ..)).2.2; cases this
    have hsat := h.sat
    rw [hpl] at hsat
    refine ⟨by simp, _, _, has_prefix ho hdst ha0 (p := its) (t := []) (val := val) (by simp) h.s2 (fun s hs => ?_), by simpa [plH] using hsat, ?_⟩
    · rw [h.sl s hs]
      simp only [atL]
      rw [lastW_congr (L := fun i => L.getD i false) (L' := fun j => (ordOf its).contains j) fun j hj _ => by rw [hall j hj]; simpa using ho.ordMem j hj]
    · rw [h.s3, hpre]; exact h.ch
  have key : ∀ fuel L a w, Inv L a w → fuel + cnt L ops.size = ops.size → wpAnyIn (fen r) 0 P md ops (Lift F n Q) fuel L a w := by
    intro fuel
    induction fuel with
    | zero =>
      intro L a w hI hf
      have hall := cnt_full ops.size (by omega : cnt L ops.size = ops.size)
      refine ⟨?_, hend L a w hI hall⟩
      obtain ⟨pre, post, val, own, an, en, cur, bf, pl, h, hst⟩ := hI
      unfold Region.ready
      rw [List.filter_eq_nil_iff]
      intro i hi
      have hi' := List.mem_range.1 hi
      have hL := hall i hi'
      have hLt : L.getD i true = true := by
        have hlt : i < L.size := by rw [h.s1]; exact hi'
        simp only [Array.getD, hlt, dif_pos] at hL ⊢; exact hL
      simp [hLt]
    | succ fuel ih =>
      intro L a w hI hf
      refine ⟨fun hr => hend L a w hI (by obtain ⟨pre, post, val, own, an, en, cur, bf, pl, h, hst⟩ := hI; exact back_listed hok h.s1 (hmd ▸ hr)), fun i hi => ?_⟩
      obtain ⟨pre, post, val, own, an, en, cur, bf, pl, h, hst⟩ := hI
      unfold Region.ready at hi
      rw [List.mem_filter] at hi
      obtain ⟨hi1, hi2⟩ := hi
      have hi1 := List.mem_range.1 hi1
      have hilt : i < L.size := by rw [h.s1]; exact hi1
      have hio : ops[i]? = some ops[i] := Array.getElem?_eq_getElem hi1
      simp only [hio, Option.map_some, Option.getD_some, Bool.and_eq_true, Bool.not_eq_true', Array.all_eq_true'] at hi2
      obtain ⟨hnl0, hrd⟩ := hi2
      have hnl : L.getD i false = false := by simp only [Array.getD, hilt, dif_pos] at hnl0 ⊢; exact hnl0
      have hrd' : ∀ e ∈ ops[i].after, Region.binds .any e = true → L.getD e.on false = true := fun e he hb => by
        have := hrd e he; rw [binds_any hb] at this; simpa using this
      have hready : ∀ j, Pre ops j i → L.getD j false = true := fun j hj => hj.ready (L := fun j => L.getD j false) h.s4 hio hrd'
      have hdown : ∀ j o, (L.setIfInBounds i true).getD j false = true → ops[j]? = some o → ∀ e ∈ o.after, Region.binds .any e = true → (L.setIfInBounds i true).getD e.on false = true := by
        intro j o hj ho e he hb
        rw [getD_set hilt] at hj ⊢
        by_cases e' : e.on = i
        · rw [if_pos e']
        · rw [if_neg e']
          by_cases ej : j = i
          · subst ej; rw [hio] at ho; cases ho; exact hrd' e he hb
          · rw [if_neg ej] at hj; exact h.s4 j o hj ho e he hb
      have hcnt : fuel + cnt (L.setIfInBounds i true) ops.size = ops.size := by rw [cnt_set hilt hnl, if_pos hi1]; omega
      have hsz2 : ∀ u, (a.put (ops[i]).dst u).tmps.size = n := fun u => by cases (ops[i]).dst <;> simp [Act.put, h.s2]
      have hdf2 : ∀ u, (a.put (ops[i]).dst u).defers = ds := fun u => by cases (ops[i]).dst <;> simp [Act.put, h.s3]
      have hLo : ∀ j, j ≠ i → (L.setIfInBounds i true).getD j false = L.getD j false := fun j hj => by rw [getD_set hilt, if_neg hj]
      have hLi : (L.setIfInBounds i true).getD i false = true := by rw [getD_set hilt, if_pos rfl]
      have fin : ∀ {pre' post' val' own' an' en' cur' bf' pl' a' w'}, CI P F n ops prot (fun env own => Q .normal env own ds) its env a0 ds pre' post' val' own' an' en' cur' bf' pl' (L.setIfInBounds i true) a' w' → wpAnyIn (fen r) 0 P md ops (Lift F n Q) fuel (L.setIfInBounds i true) a' w' := fun hc => by
        obtain ⟨pre', post', val', own', an', en', pl', hc', hst'⟩ := advance ho hc
        exact ih _ _ _ ⟨pre', post', val', own', an', en', _, _, pl', hc', hst'⟩ hcnt
      have hrq : ∀ j, .rv j ∈ pre → ∀ k x, en k = some x → x.1 = j → (L.setIfInBounds i true).getD k false = true := fun j hj k x hk hx => by
        by_cases ek : k = i
        · subst ek; exact hLi
        · rw [hLo k ek]; exact h.rq j hj k x hk hx
      -- what is put into maps, behind it
      have cu2 : en i = none → ∀ l ∈ pl, ∀ vf ob, an l = some (vf, ob) → FinO (entsOf en (fun k => (L.setIfInBounds i true).getD k false) ops.size l) ob (cur l) := fun hen l hl vf ob ha => by
        refine (h.cu l hl vf ob ha).perm ?_
        have := entsOf_set (en := en) (j := l) hi1 hilt hnl
        rw [hen, List.append_nil] at this
        exact this.symm
      -- where it stands
      have hmem := ho.exMem i hi1
      rw [h.e, exOf_append] at hmem
      rcases List.mem_append.1 hmem with hmem | hmem
      · obtain ⟨p, it, t2, hp, hx, hix⟩ := exOf_mem hmem
        have hsplit : its = p ++ it :: (t2 ++ post) := by rw [h.e, hp]; simp
        have hio' : ops[it.ix]? = some ops[i] := by rw [hix]; exact hio
        obtain ⟨a'', ha'', hlook⟩ := ci_frame hok ho hdst ha0 h.s2 h.s4 h.sl hsplit hx hio' (by rw [hix]; exact hnl) (by rw [hix]; exact hready)
        have hkn := h.kn p it t2 hp
        have hen : (∀ i' j', it ≠ .fi i' j') → en i = none := fun hnf => by
          cases e : en i with
          | none => rfl
          | some x =>
            exfalso
            have hin := h.ei i x e
            have q1 := ex_notin ho hsplit hx
            rw [hp] at hin
            rcases List.mem_append.1 hin with hin | hin
            · exact q1.1 (by rw [hix]; exact mem_exOf (it := .fi i x.1) hin rfl)
            · rcases List.mem_cons.1 hin with hin | hin
              · exact hnf _ _ hin.symm
              · exact q1.2 (by rw [exOf_append, hix]; exact List.mem_append.2 (.inl (mem_exOf (it := .fi i x.1) hin rfl)))
        -- the state behind one whose value was known
        have next : ∀ w' cur2, val i = val i → Sat (F :: own ++ plH cur2 bf pl) w' → (∀ j, it ≠ .an j) → (∀ l ∈ pl, ∀ vf ob, an l = some (vf, ob) → FinO (entsOf en (fun k => (L.setIfInBounds i true).getD k false) ops.size l) ob (cur2 l)) → wpAnyIn (fen r) 0 P md ops (Lift F n Q) fuel (L.setIfInBounds i true) (a.put (ops[i]).dst (val i)) w' := fun w' cur2 _ hs' hna hcu2 => by
          refine fin (pre' := pre) (post' := post) (val' := val) (own' := own) (an' := an) (en' := en) (cur' := cur2) (bf' := bf) (pl' := pl) ⟨by simpa using h.s1, hsz2 _, hdf2 _, hdown, h.e, ci_slots hok h.s2 h.s4 h.sl hio hilt h.s1 hnl val _ rfl (fun _ _ => rfl), h.ch, hs', fun p' jt t' hp' => ?_, fun x hx' hxe => ?_, h.pr, h.pn, fun j => ?_, hcu2, h.ei, h.ed, hrq⟩
          · have hk := h.kn p' jt t' hp'
            cases jt with
            | q j =>
              obtain ⟨o, hsub, h1, h2, h3⟩ := hk
              refine ⟨o, hsub, h1, h2, fun hl => h3 ?_⟩
              by_cases ej : j = i
              · subst ej; rw [hLi] at hl; cases hl
              · rwa [hLo j ej] at hl
            | f j => exact hk
            | r j => exact hk
            | an j =>
              obtain ⟨o, vf, ob, h1, h2, h3, h4, h5⟩ := hk
              refine ⟨o, vf, ob, h1, h2, h3, h4, fun hl => h5 ?_⟩
              by_cases ej : j = i
              · exfalso
                subst ej
                have hj2 : its = p' ++ .an j :: (t' ++ post) := by rw [h.e, hp']; simp
                have q1 := ex_notin ho hj2 rfl
                have hin : it ∈ pre := by rw [hp]; simp
                rw [hp'] at hin
                rcases List.mem_append.1 hin with hin | hin
                · exact q1.1 (by rw [show (It.an j).ix = it.ix from hix.symm]; exact mem_exOf hin hx)
                · rcases List.mem_cons.1 hin with hin | hin
                  · exact hna j hin
                  · exact q1.2 (by rw [exOf_append, show (It.an j).ix = it.ix from hix.symm]; exact List.mem_append.2 (.inl (mem_exOf hin hx)))
              · rwa [hLo j ej] at hl
            | rv j =>
              show (L.setIfInBounds i true).getD j false = true
              by_cases ej : j = i
              · subst ej; exact hLi
              · rw [hLo j ej]; exact hk
            | h c j =>
              show (L.setIfInBounds i true).getD j false = true
              by_cases ej : j = i
              · subst ej; exact hLi
              · rw [hLo j ej]; exact hk
            | fi i2 j => exact hk
          · rw [hLo]
            · exact h.un x hx' hxe
            · intro e
              have q2 := (ex_notin ho hsplit hx).2
              rw [hix, ← e, exOf_append] at q2
              exact q2 (List.mem_append.2 (.inr (mem_exOf hx' hxe)))
          · rw [h.pm j]
            by_cases ej : j = i
            · subst ej
              rw [hnl, hLi]
              refine ⟨fun g => by simp at g, fun ⟨g1, _, g3⟩ => ?_⟩
              exfalso
              obtain ⟨q1, q2, hq⟩ := List.append_of_mem g1
              have hj2 : its = q1 ++ .an j :: (q2 ++ post) := by rw [h.e, hq]; simp
              have hn := ex_notin ho hj2 rfl
              have hin : it ∈ pre := by rw [hp]; simp
              rw [hq] at hin
              rcases List.mem_append.1 hin with hin | hin
              · exact hn.1 (by rw [show (It.an j).ix = it.ix from hix.symm]; exact mem_exOf hin hx)
              · rcases List.mem_cons.1 hin with hin | hin
                · exact hna j hin
                · exact hn.2 (by rw [exOf_append, show (It.an j).ix = it.ix from hix.symm]; exact List.mem_append.2 (.inl (mem_exOf hin hx)))
            · rw [hLo j ej]
        -- one that is quiet
        have quiet : ∀ {F1 : Heap} {own1 Y : List Heap} , condAt P F1 n ops own1 (envL ops val (ordOf p) env) ops[i] (val i) → Sat (F1 :: own1 ++ Y) w →
            (∀ w', Sat (F1 :: own1 ++ Y) w' → Sat (F :: own ++ plH cur bf pl) w') → (∀ j, it ≠ .an j) → (∀ i' j', it ≠ .fi i' j') →
            wpOpIn (fen r) 0 P ops (Lift F n Q) i (wpAnyIn (fen r) 0 P md ops (Lift F n Q) fuel (L.setIfInBounds i true)) a w := by
          intro F1 own1 Y hc hs hk hna hnf
          have hlook := fun s hs => hlook s hs (fun i' j' e => (hnf i' j' e).elim)
          rcases hc.1 with ⟨hg, hvv⟩ | ⟨hg, hu, hpl⟩
          · simp only [wpOpIn, hio, (wanted_looks hlook).trans (wanted_of ha'' hg), if_true]
            refine ⟨fun f _ => by simp, ?_⟩
            rw [fen_round, semAt_plain hvv.1, eval_looks hlook (dok_plain hok hio)]
            obtain ⟨w', s', g1 | ⟨g1, g2⟩ | ⟨f, args, g1, g2⟩⟩ := hvv.2 a'' w Y ha'' hs
            · rw [g1]; exact next w' cur rfl (hk w' s') hna (cu2 (hen hnf))
            · rw [g1]
              have := next w' cur rfl (hk w' s') hna (cu2 (hen hnf))
              rw [g2] at this; exact this
            · rw [g1]
              refine ⟨fun hx => by simp at hx, (callsIn_fen _ g2).mono ?_⟩
              rintro e w'' ⟨rfl, s2⟩
              exact next w'' cur rfl (hk w'' s2) hna (cu2 (hen hnf))
          · simp only [wpOpIn, hio, (wanted_looks hlook).trans (wanted_of ha'' hg)]
            refine ⟨fun f _ => by simp, ?_⟩
            have := next w cur rfl (hk w hs) hna (cu2 (hen hnf))
            rw [hu] at this; exact this
        cases it with
        | q j =>
          obtain rfl : j = i := hix
          obtain ⟨o, hsub, h1, h2, h3⟩ := hkn
          rw [hio] at h1; cases h1
          obtain ⟨Y, hY⟩ := h3 hnl
          have pp : (F :: own ++ plH cur bf pl).Perm (F :: hsub ++ (Y ++ plH cur bf pl)) := by
            have := (hY.append_right (plH cur bf pl)).cons F
            simpa [List.append_assoc] using this
          exact quiet h2 (h.sat.perm pp) (fun w' s' => s'.perm pp.symm) (fun _ e => by cases e) (fun _ _ e => by cases e)
        | f j =>
          obtain rfl : j = i := hix
          obtain ⟨o, h1, h2⟩ := hkn
          rw [hio] at h1; cases h1
          have hemp : Sat (emp :: (F :: own ++ plH cur bf pl)) w := ⟨fun k hk => by
            rcases List.mem_cons.1 hk with rfl | hk
            · intro b o e; cases e
            · exact h.sat.le k hk, List.pairwise_cons.2 ⟨fun _ _ _ _ _ e _ => (by cases e), h.sat.dj⟩⟩
          exact quiet (Y := F :: own ++ plH cur bf pl) h2 (by simpa using hemp) (fun w' s' => s'.tail) (fun _ e => by cases e) (fun _ _ e => by cases e)
        | r j =>
          obtain rfl : j = i := hix
          obtain ⟨o, h1, h2⟩ := hkn
          rw [hio] at h1; cases h1
          obtain ⟨Y, hY⟩ := h.pr
          have pp : (F :: own ++ plH cur bf pl).Perm (F :: prot ++ (Y ++ plH cur bf pl)) := by
            have := (hY.append_right (plH cur bf pl)).cons F
            simpa [List.append_assoc] using this
          exact quiet h2 (h.sat.perm pp) (fun w' s' => s'.perm pp.symm) (fun _ e => by cases e) (fun _ _ e => by cases e)
        | rv j => cases hx
        | h c j =>
          obtain rfl : j = i := hix
          rw [show L.getD j false = true from hkn] at hnl; cases hnl
        | fi i2 j =>
          obtain rfl : i2 = i := hix
          obtain ⟨dd, kv, xv, en0, hins, heni⟩ := hkn
          obtain ⟨o, t, d, k, x, kt, et, vf, g1, g2, g3, g4, g5, g6, g7, g8, g9, g10, g11, g12, g13, g14, g15, -⟩ := hins.ex
          rw [hio] at g1; cases g1
          obtain ⟨c51, c52⟩ := ho.c5 p i2 j (t2 ++ post) hsplit
          have hLj : L.getD j false = true := hready j c52
          have hjlt : j < ops.size := by
            cases e : ops[j]? with
            | none => rw [e] at g5; cases g5
            | some _ => exact (Array.getElem?_eq_some_iff.1 e).1
          have hanpre : .an j ∈ pre := by rw [hp]; exact List.mem_append.2 (.inl c51)
          -- it is not shown yet
          have hrv : .rv j ∈ post := by
            have h1 := ho.ordMem j hjlt
            obtain ⟨p1, it', p2, hp12, hs', hx'⟩ := ordOf_mem h1
            have excl : it'.exec = true → (∀ k, it' ≠ .an k) → False := fun hx8 hna8 => by
              obtain ⟨q1, q2, hq12⟩ := List.append_of_mem hanpre
              have hn := ex_notin ho (p := q1) (t := q2 ++ post) (it := .an j) (by rw [h.e, hq12]; simp) rfl
              have hin : (p1 ++ it' :: p2) = (q1 ++ .an j :: (q2 ++ post)) := by rw [← hp12, h.e, hq12]; simp
              have hmem : it' ∈ q1 ++ .an j :: (q2 ++ post) := hin ▸ List.mem_append.2 (.inr (List.mem_cons_self ..))
              rcases List.mem_append.1 hmem with hm | hm
              · exact hn.1 (by have := mem_exOf hm hx8; rw [hx'] at this; exact this)
              · rcases List.mem_cons.1 hm with hm | hm
                · exact hna8 j hm
                · exact hn.2 (by have := mem_exOf hm hx8; rw [hx'] at this; exact this)
            have hrvits : it' = .rv j := by
              cases it' with
              | rv k => rw [show k = j from hx']
              | an k => cases hs'
              | _ => exact (excl rfl fun _ e => by cases e).elim
            have hits : .rv j ∈ its := by rw [hp12, hrvits]; simp
            rw [h.e] at hits
            rcases List.mem_append.1 hits with hm | hm
            · have := h.rq j hm i2 _ heni rfl
              rw [hnl] at this; cases this
            · exact hm
          have hjpl : j ∈ pl := (h.pm j).2 ⟨hanpre, hLj, hrv⟩
          -- where it lies
          have hval : val j = .map (some (bf j)) := by
            obtain ⟨q1, q2, hq12⟩ := List.append_of_mem hanpre
            obtain ⟨o3, vf3, ob3, k1, k2, k3, k4, k5⟩ := h.kn q1 (.an j) q2 hq12
            rw [g14] at k4; cases k4
            rw [k5 hLj, g15]
          obtain ⟨es, clk, hcur, hes⟩ := h.cu j hjpl vf _ g14
          have hes' : (es.toList.map fun e => (e.key, e.val)).Perm (entsOf en (fun k => L.getD k false) ops.size j) := by simpa using hes
          have hper : (F :: own ++ plH cur bf pl).Perm (blk (bf j) (.map es clk) :: (F :: own ++ plH cur bf (pl.erase j))) := by
            have h8 := (List.perm_cons_erase hjpl).map (fun i => blk (bf i) (cur i))
            simp only [List.map_cons, hcur] at h8
            exact (h8.append_left (F :: own)).trans (List.perm_middle (a := blk (bf j) (.map es clk)) (l₁ := F :: own) (l₂ := plH cur bf (pl.erase j)))
          have s1 := h.sat.perm hper
          have hb : w.heap[bf j]? = some (.map es clk) := s1.at (List.mem_cons_self ..) (blk_self _ _)
          -- what it looks at
          have hslot : a.tmps[d]? = some (.map (some (bf j))) := by
            rw [h.sl d (hdst j d g5)]
            obtain ⟨k8, hk8⟩ := lastW_some (all := ops) (L := fun i => L.getD i false) (s := d) hjlt hLj g5
            simp only [atL, hk8]
            rw [g6 k8 (lastW_isW hk8).2.1, hval]
          have hev : ∀ {y : Operand} {v : Value}, y ∈ [k, x] → y ≠ .tmp d → ev (envL ops val (ordOf p) env) y = some v → a.eval y = v := fun {y v} hy hne he => by
            rw [← ha''.eval he]
            cases y with
            | tmp s =>
              have hs8 : s ∈ (ops[i2]).looksAt ops := by
                unfold Oper.looksAt
                refine List.mem_append.2 (.inl ?_)
                rw [List.mem_filterMap]
                refine ⟨.tmp s, ?_, rfl⟩
                rw [g2]
                simp only [Op.operands]
                rcases List.mem_cons.1 hy with rfl | hy
                · simp
                · have := List.mem_singleton.1 hy; subst this; simp
              have := hlook s hs8 fun i' j' e => by
                cases e
                rw [g5]
                intro e; cases e; exact hne rfl
              simp only [Act.eval, Array.getD_eq_getD_getElem?, this]
            | _ => rfl
          have hem : a.eval (.tmp d) = .map (some (bf j)) := by simp only [Act.eval, Array.getD_eq_getD_getElem?, hslot]; rfl
          have hek := hev (by simp) g7 g9
          have hex := hev (by simp) g8 g10
          have hfind : Instr.findNow dd kv es.toList 0 = some none := by
            refine findNow_none fun e he => ?_
            have hm : (e.key, e.val) ∈ entsOf en (fun k => L.getD k false) ops.size j := hes'.mem_iff.1 (List.mem_map.2 ⟨e, he, rfl⟩)
            rw [entsOf_eq, List.mem_filterMap] at hm
            obtain ⟨k9, -, hk9⟩ := hm
            simp only [entAt] at hk9
            split at hk9
            · rename_i j' dl kv' xv' hL9 he9
              split at hk9
              · rename_i ej
                subst ej
                cases hk9
                exact h.ed i2 k9 j' dd kv xv dl _ _ heni he9 fun e2 => by subst e2; rw [hnl] at hL9; cases hL9
              · cases hk9
            · cases hk9
          let w2 : World := { w with heap := w.heap.setIfInBounds (bf j) (.map (es.push { key := kv, val := xv, born := clk }) (clk + 1)) }
          have hlt := (Array.getElem?_eq_some_iff.1 hb).1
          have hrun : (execOp a.eval ops[i2]).run P w = .ok .skip w2 := by
            simp [execOp, g2, hem, hek, hex, Instr.mapUpdate, run_und g11, getObj, setObj, Sem.run, hb, g13, Instr.findKey, run_und g12, hfind, w2]
          have hwant : Region.wanted ops[i2] (yielded ops a.tmps) = true := by unfold Region.wanted; rw [g4]
          simp only [wpOpIn, hio, hwant, if_true]
          refine ⟨fun f _ => by simp, ?_⟩
          rw [fen_round, semAt_plain (by rw [g2]; rfl), hrun, Oper.uponIn_skip]
          let cur2 : Nat → Obj := fun l => if l = j then .map (es.push { key := kv, val := xv, born := clk }) (clk + 1) else cur l
          have u1 : cur2 j = .map (es.push { key := kv, val := xv, born := clk }) (clk + 1) := by simp [cur2]
          have u2 : ∀ l, l ≠ j → cur2 l = cur l := fun l hl => by simp only [cur2]; rw [if_neg hl]
          have s2 : Sat (blk (bf j) (.map (es.push { key := kv, val := xv, born := clk }) (clk + 1)) :: (F :: own ++ plH cur bf (pl.erase j))) w2 :=
            s1.put (by simp [w2, hlt]) rfl rfl (fun l hl => by simp only [w2]; rw [Array.getElem?_setIfInBounds_ne (Ne.symm hl)]) (fun _ => rfl)
          have hsat2 : Sat (F :: own ++ plH cur2 bf pl) w2 := by
            refine s2.perm ?_
            have h8 := (List.perm_cons_erase hjpl).map (fun i => blk (bf i) (cur2 i))
            simp only [List.map_cons, u1] at h8
            have h9 : plH cur2 bf (pl.erase j) = plH cur bf (pl.erase j) := plH_congr fun l hl => ⟨u2 l fun e => by subst e; exact (List.Nodup.not_mem_erase h.pn) hl, rfl⟩
            have h10 : (pl.erase j).map (fun i => blk (bf i) (cur2 i)) = plH cur bf (pl.erase j) := h9
            rw [h10] at h8
            exact ((h8.append_left (F :: own)).trans (List.perm_middle (a := blk (bf j) (.map (es.push { key := kv, val := xv, born := clk }) (clk + 1))) (l₁ := F :: own) (l₂ := plH cur bf (pl.erase j)))).symm
          have hgo := next w2 cur2 rfl hsat2 (fun _ e => by cases e) fun l hl vf2 ob2 ha2 => by
            have hset := entsOf_set (en := en) (j := l) hi1 hilt hnl
            rw [heni] at hset
            by_cases el : l = j
            · subst el
              rw [g14] at ha2; cases ha2
              rw [u1]
              refine ⟨_, _, rfl, ?_⟩
              simp only [if_true] at hset
              have : (es.push { key := kv, val := xv, born := clk }).toList.map (fun e => (e.key, e.val)) = es.toList.map (fun e => (e.key, e.val)) ++ [(kv, xv)] := by simp
              rw [this]
              simpa using (hes'.append_right [(kv, xv)]).trans hset.symm
            · rw [u2 l el]
              have hne : ¬ j = l := fun e => el e.symm
              simp only [hne, if_false, List.append_nil] at hset
              exact (h.cu l hl vf2 ob2 ha2).perm hset.symm
          rw [g3] at hgo ⊢
          exact hgo
        | an j =>
          obtain rfl : j = i := hix
          obtain ⟨o, vf, ob, h1, h2, h3, h4, h5⟩ := hkn
          rw [hio] at h1; cases h1
          have hlook := fun s hs => hlook s hs (fun i' j' e => by cases e)
          simp only [wpOpIn, hio, (wanted_looks hlook).trans (wanted_of ha'' h2), if_true]
          refine ⟨fun f _ => by simp, ?_⟩
          rw [fen_round, semAt_plain h3.1, eval_looks hlook (dok_plain hok hio), h3.2.2 a'' w ha'']
          show wpAnyIn (fen r) 0 P md ops (Lift F n Q) fuel (L.setIfInBounds j true) (a.put (ops[j]).dst (vf w.heap.size)) _
          let val' : Nat → Value := fun k => if k = j then vf w.heap.size else val k
          let bf' : Nat → Nat := fun k => if k = j then w.heap.size else bf k
          let cur' : Nat → Obj := fun k => if k = j then ob else cur k
          have u1 : cur' j = ob := by simp [cur']
          have u2 : ∀ k, k ≠ j → cur' k = cur k := fun k hk => by simp only [cur']; rw [if_neg hk]
          have v1 : val' j = vf w.heap.size := by simp [val']
          have v2 : ∀ k, k ≠ j → val' k = val k := fun k hk => by simp only [val']; rw [if_neg hk]
          have b1 : bf' j = w.heap.size := by simp [bf']
          have b2 : ∀ k, k ≠ j → bf' k = bf k := fun k hk => by simp only [bf']; rw [if_neg hk]
          have hjo : j ∉ ordOf pre := fun hj => by
            obtain ⟨p1, it', p2, hp12, hs', hx'⟩ := ordOf_mem hj
            have := h.kn p1 it' p2 hp12
            cases it' with
            | rv k => obtain rfl : k = j := hx'; rw [show L.getD k false = true from this] at hnl; cases hnl
            | h c k => obtain rfl : k = j := hx'; rw [show L.getD k false = true from this] at hnl; cases hnl
            | an k => cases hs'
            | fi k l =>
              obtain rfl : k = j := hx'
              have hin : It.fi k l ∈ pre := by rw [hp12]; simp
              have hn := ex_notin ho hsplit rfl
              rw [hp] at hin
              rcases List.mem_append.1 hin with hin | hin
              · exact hn.1 (mem_exOf (it := .fi k l) hin rfl)
              · rcases List.mem_cons.1 hin with hin | hin
                · cases hin
                · exact hn.2 (by rw [exOf_append]; exact List.mem_append.2 (.inl (mem_exOf (it := .fi k l) hin rfl)))
            | q k =>
              obtain rfl : k = j := hx'
              have hin : It.q k ∈ pre := by rw [hp12]; simp
              have hn := ex_notin ho hsplit rfl
              rw [hp] at hin
              rcases List.mem_append.1 hin with hin | hin
              · exact hn.1 (mem_exOf (it := .q k) hin rfl)
              · rcases List.mem_cons.1 hin with hin | hin
                · cases hin
                · exact hn.2 (by rw [exOf_append]; exact List.mem_append.2 (.inl (mem_exOf (it := .q k) hin rfl)))
            | f k =>
              obtain rfl : k = j := hx'
              have hin : It.f k ∈ pre := by rw [hp12]; simp
              have hn := ex_notin ho hsplit rfl
              rw [hp] at hin
              rcases List.mem_append.1 hin with hin | hin
              · exact hn.1 (mem_exOf (it := .f k) hin rfl)
              · rcases List.mem_cons.1 hin with hin | hin
                · cases hin
                · exact hn.2 (by rw [exOf_append]; exact List.mem_append.2 (.inl (mem_exOf (it := .f k) hin rfl)))
            | r k =>
              obtain rfl : k = j := hx'
              have hin : It.r k ∈ pre := by rw [hp12]; simp
              have hn := ex_notin ho hsplit rfl
              rw [hp] at hin
              rcases List.mem_append.1 hin with hin | hin
              · exact hn.1 (mem_exOf (it := .r k) hin rfl)
              · rcases List.mem_cons.1 hin with hin | hin
                · cases hin
                · exact hn.2 (by rw [exOf_append]; exact List.mem_append.2 (.inl (mem_exOf (it := .r k) hin rfl)))
          have hjp : j ∉ pl := fun hj => by have := ((h.pm j).1 hj).2.1; rw [hnl] at this; cases this
          have hrvpost : .rv j ∈ post := by
            have h1 := ho.ordMem j hi1
            rw [h.e, ordOf_append] at h1
            rcases List.mem_append.1 h1 with h1 | h1
            · exact absurd h1 hjo
            · obtain ⟨p1, it', p2, hp12, hs', hx'⟩ := ordOf_mem h1
              cases it' with
              | rv k => obtain rfl : k = j := hx'; rw [hp12]; simp
              | an k => cases hs'
              | fi k l =>
                exfalso
                obtain rfl : k = j := hx'
                exact (ex_notin ho hsplit rfl).2 (by rw [exOf_append]; exact List.mem_append.2 (.inr (mem_exOf (it := .fi k l) (by rw [hp12]; simp) rfl)))
              | q k =>
                exfalso
                obtain rfl : k = j := hx'
                exact (ex_notin ho hsplit rfl).2 (by rw [exOf_append]; exact List.mem_append.2 (.inr (mem_exOf (it := .q k) (by rw [hp12]; simp) rfl)))
              | f k =>
                exfalso
                obtain rfl : k = j := hx'
                exact (ex_notin ho hsplit rfl).2 (by rw [exOf_append]; exact List.mem_append.2 (.inr (mem_exOf (it := .f k) (by rw [hp12]; simp) rfl)))
              | r k =>
                exfalso
                obtain rfl : k = j := hx'
                exact (ex_notin ho hsplit rfl).2 (by rw [exOf_append]; exact List.mem_append.2 (.inr (mem_exOf (it := .r k) (by rw [hp12]; simp) rfl)))
              | h c k =>
                exfalso
                obtain rfl : k = j := hx'
                exact (ex_notin ho hsplit rfl).2 (by rw [exOf_append]; exact List.mem_append.2 (.inr (mem_exOf (it := .h c k) (by rw [hp12]; simp) rfl)))
          have vL : ∀ k, L.getD k false = true → val' k = val k := fun k hk => v2 k fun e => by rw [e, hnl] at hk; cases hk
          have vp : ∀ k ∈ ordOf pre, val' k = val k := fun k hk => v2 k fun e => hjo (e ▸ hk)
          have henj := hen (fun _ _ e => by cases e)
          refine fin (pre' := pre) (post' := post) (val' := val') (own' := own) (an' := an) (en' := en) (cur' := cur') (bf' := bf') (pl' := j :: pl) ⟨by simpa using h.s1, hsz2 _, hdf2 _, hdown, h.e, ci_slots hok h.s2 h.s4 h.sl hio hilt h.s1 hnl val' _ v1 vL, ?_, ?_, fun p' jt t' hp' => ?_, fun x hx' hxe => ?_, h.pr, List.nodup_cons.2 ⟨hjp, h.pn⟩, fun k => ?_, fun l hl vf2 ob2 ha2 => ?_, h.ei, h.ed, hrq⟩
          · rw [envL_congr vp]; exact h.ch
          · have e1 : plH cur' bf' (j :: pl) = blk w.heap.size ob :: plH cur bf pl := by
              have := plH_congr (cur := cur) (cur' := cur') (bf := bf) (bf' := bf') (pl := pl) fun k hk => ⟨u2 k fun e => hjp (e ▸ hk), b2 k fun e => hjp (e ▸ hk)⟩
              simp only [plH, List.map_cons, u1, b1] at this ⊢
              rw [this]
            rw [e1]
            have := sat_alloc h.sat ob h3.2.1
            exact this.perm (List.perm_middle (a := blk w.heap.size ob) (l₁ := F :: own) (l₂ := plH cur bf pl)).symm
          · have hk := h.kn p' jt t' hp'
            have hpo : ∀ k ∈ ordOf p', val' k = val k := fun k hk => vp k (by rw [hp', ordOf_append]; exact List.mem_append.2 (.inl hk))
            have he' : envL ops val' (ordOf p') env = envL ops val (ordOf p') env := envL_congr hpo
            have hne : jt.sets = true → jt.ix ≠ j := fun hs e => hjo (e ▸ mem_ordOf (by rw [hp']; simp) hs)
            cases jt with
            | q k =>
              obtain ⟨o, hsub, g1, g2, g3⟩ := hk
              exact ⟨o, hsub, g1, by rw [he', v2 k (hne rfl)]; exact g2, fun hl => g3 (by rwa [hLo k (hne rfl)] at hl)⟩
            | f k =>
              obtain ⟨o, g1, g2⟩ := hk
              exact ⟨o, g1, by rw [he', v2 k (hne rfl)]; exact g2⟩
            | r k =>
              obtain ⟨o, g1, g2⟩ := hk
              exact ⟨o, g1, by rw [he', v2 k (hne rfl)]; exact g2⟩
            | an k =>
              obtain ⟨o, vf2, ob2, g1, g2, g3, g4, g5⟩ := hk
              refine ⟨o, vf2, ob2, g1, by rw [he']; exact g2, by rw [he']; exact g3, g4, fun hl => ?_⟩
              by_cases ek : k = j
              · subst ek; rw [h4] at g4; cases g4; rw [v1, b1]
              · rw [v2 k ek, b2 k ek]; exact g5 (by rwa [hLo k ek] at hl)
            | rv k => show (L.setIfInBounds j true).getD k false = true; rw [hLo k (hne rfl)]; exact hk
            | h c k => show (L.setIfInBounds j true).getD k false = true; rw [hLo k (hne rfl)]; exact hk
            | fi k l =>
              obtain ⟨dd, kv, xv, en0, g1, g2⟩ := hk
              exact ⟨dd, kv, xv, en0, by rw [he']; exact g1, g2⟩
          · rw [hLo]
            · exact h.un x hx' hxe
            · intro e
              have q2 := (ex_notin ho hsplit hx).2
              rw [show (It.an j).ix = j from rfl, ← e, exOf_append] at q2
              exact q2 (List.mem_append.2 (.inr (mem_exOf hx' hxe)))
          · by_cases ek : k = j
            · subst ek
              exact ⟨fun _ => ⟨by rw [hp]; simp, hLi, hrvpost⟩, fun _ => List.mem_cons_self ..⟩
            · rw [hLo k ek, List.mem_cons, h.pm k]
              exact ⟨fun hh => hh.resolve_left ek, .inr⟩
          · by_cases el : l = j
            · subst el
              rw [h4] at ha2; cases ha2
              rw [u1, entsOf_nil fun k => ?_]
              · cases ob with
                | map es0 c0 => exact ⟨es0, c0, rfl, by simp⟩
                | _ => rfl
              · simp only [entAt]
                cases e : en k with
                | none => cases (L.setIfInBounds l true).getD k false <;> rfl
                | some x =>
                  obtain ⟨l', dd, kv, xv⟩ := x
                  by_cases ex : l' = l
                  · subst ex
                    have hkl : k ≠ l' := fun e2 => by rw [e2, henj] at e; cases e
                    rw [hLo k hkl]
                    cases hLk : L.getD k false with
                    | false => rfl
                    | true =>
                      exfalso
                      obtain ⟨p5, p6, hp56⟩ := List.append_of_mem (h.ei k _ e)
                      have h5 := (ho.c5 p5 k l' (p6 ++ post) (by rw [h.e, hp56]; simp)).2
                      have := h5.listed (L := fun j => L.getD j false) h.s4 hLk
                      rw [hnl] at this; cases this
                  · cases (L.setIfInBounds l true).getD k false <;> simp [ex]
            · rw [u2 l el]
              exact cu2 henj l ((List.mem_cons.1 hl).resolve_left el) vf2 ob2 ha2
      · -- it stands behind: it is the one that is waited for
        cases post with
        | nil => cases hmem
        | cons it rest =>
          have hwait : ∀ m, (∀ x ∈ exOf rest, Pre ops m x) → L.getD m false = false → i ∈ exOf rest → False := fun m hm hLm hir => by
            have := hready m (hm i hir); rw [hLm] at this; cases this
          cases it with
          | q _ => cases hst
          | f _ => cases hst
          | r _ => cases hst
          | an _ => cases hst
          | fi _ _ => cases hst
          | rv m =>
            have hir : i ∈ exOf rest := by simpa [exOf, It.exec] using hmem
            rcases (show L.getD m false = false ∨ ∃ k x, en k = some x ∧ x.1 = m ∧ L.getD k false = false from hst) with hst2 | ⟨k, x, hk, rfl, hst2⟩
            · exact (hwait m (ho.c2 pre m rest h.e).1 hst2 hir).elim
            · exact (hwait k ((ho.c4 pre x.1 rest h.e).1 k (h.ei k x hk)) hst2 hir).elim
          | h c m =>
            have hLm : L.getD m false = false := h.un (.h c m) (List.mem_cons_self ..) rfl
            have him : i = m := by
              have e1 : exOf (.h c m :: rest) = m :: exOf rest := rfl
              rw [e1] at hmem
              rcases List.mem_cons.1 hmem with hm | hm
              · exact hm
              · exact (hwait m (ho.c1 pre c m rest h.e) hLm hm).elim
            subst him
            obtain ⟨a'', ha'', hlook⟩ := ci_frame hok ho hdst ha0 h.s2 h.s4 h.sl h.e rfl (by exact hio) (by exact hnl) (by exact hready)
            have hlook := fun s hs => hlook s hs (fun i' j' e => by cases e)
            obtain ⟨o, ownM, ownC, R, k1, k2, k34, k5, k7, k6⟩ := h.ch
            rw [hio] at k1; cases k1
            have pp : (F :: own ++ plH cur bf pl).Perm (ownM ++ (ownC ++ (F :: plH cur bf pl))) := by
              have e1 : (F :: own ++ plH cur bf pl).Perm (own ++ (F :: plH cur bf pl)) := (List.perm_middle (a := F) (l₁ := own) (l₂ := plH cur bf pl)).symm
              refine e1.trans ?_
              have := k2.append_right (F :: plH cur bf pl)
              simpa [List.append_assoc] using this
            have cont : ∀ v own' w', R v own' → Sat (own' ++ (ownC ++ (F :: plH cur bf pl))) w' → wpAnyIn (fen r) 0 P md ops (Lift F n Q) fuel (L.setIfInBounds i true) (a.put (ops[i]).dst v) w' := ?_
            · rcases k34 with ⟨k3, k4⟩ | ⟨k3, -, k4⟩
              · exact hop_wp (X := ownC ++ (F :: plH cur bf pl)) k4 hio ((wanted_looks hlook).trans (wanted_of ha'' k3)) ha'' (eval_looks hlook (dok_plain hok hio)) (h.sat.perm pp) cont
              · simp only [wpOpIn, hio, (wanted_looks hlook).trans (wanted_of ha'' k3)]
                exact ⟨fun f _ => by simp, cont undef ownM w k4 (h.sat.perm pp)⟩
            intro v own' w' hR s2
            let val' : Nat → Value := fun k => if k = i then v else val k
            have v1 : val' i = v := by simp [val']
            have v2 : ∀ k, k ≠ i → val' k = val k := fun k hk => by simp only [val']; rw [if_neg hk]
            have vL : ∀ k, L.getD k false = true → val' k = val k := fun k hk => v2 k fun e => by rw [e, hnl] at hk; cases hk
            have hjo : i ∉ ordOf pre := ord_notin ho h.e rfl
            have vp : ∀ k ∈ ordOf pre, val' k = val k := fun k hk => v2 k fun e => hjo (e ▸ hk)
            have hnx := ex_notin ho h.e rfl
            have he2 : its = (pre ++ [.h c i]) ++ rest := by rw [h.e]; simp
            have heni : en i = none := by
              cases e : en i with
              | none => rfl
              | some x => exact (hnx.1 (mem_exOf (it := .fi i x.1) (h.ei i x e) rfl)).elim
            refine fin (pre' := pre ++ [.h c i]) (post' := rest) (val' := val') (own' := own' ++ ownC) (an' := an) (en' := en) (cur' := cur) (bf' := bf) (pl' := pl) ⟨by simpa using h.s1, hsz2 _, hdf2 _, hdown, he2, ci_slots hok h.s2 h.s4 h.sl hio hilt h.s1 hnl val' _ v1 vL, ?_, ?_, fun p' jt t' hp' => ?_, fun x hx' hxe => ?_, ?_, h.pn, fun k => ?_, cu2 heni, fun k x hk => List.mem_append.2 (.inl (h.ei k x hk)), h.ed, fun j hj => hrq j ((List.mem_append.1 hj).resolve_right fun e => by cases List.mem_singleton.1 e)⟩
            · have e1 : ordOf (pre ++ [.h c i]) = ordOf pre ++ [i] := by rw [ordOf_append]; rfl
              rw [e1, envL_one, v1, envL_congr vp]; exact k6 v own' hR
            · refine s2.perm ?_
              have e1 : (own' ++ (ownC ++ (F :: plH cur bf pl))).Perm (F :: (own' ++ ownC) ++ plH cur bf pl) := by
                rw [← List.append_assoc]; exact List.perm_middle (a := F) (l₁ := own' ++ ownC) (l₂ := plH cur bf pl)
              exact e1
            · rcases snoc_split hp' with ⟨t2, rfl⟩ | ⟨rfl, rfl, -⟩
              · have hk := h.kn p' jt t2 rfl
                have hne : jt.exec = true → jt.ix ≠ i := fun hx e => hnx.1 (by rw [show (It.h c i).ix = jt.ix from e.symm]; exact mem_exOf (by simp) hx)
                have hpo : ∀ k ∈ ordOf p', val' k = val k := fun k hk => vp k (by rw [ordOf_append]; exact List.mem_append.2 (.inl hk))
                have he' : envL ops val' (ordOf p') env = envL ops val (ordOf p') env := envL_congr hpo
                cases jt with
                | q k =>
                  obtain ⟨o, hsub, g1, g2, g3⟩ := hk
                  refine ⟨o, hsub, g1, by rw [he', v2 k (hne rfl)]; exact g2, fun hl => ?_⟩
                  rw [hLo k (hne rfl)] at hl
                  cases c with
                  | true =>
                    have := hready k (ho.c3 _ i rest h.e k (by simp))
                    rw [hl] at this; cases this
                  | false =>
                    obtain ⟨Y, hY⟩ := g3 hl
                    obtain ⟨N, hN⟩ := k5 rfl v own' hR
                    refine ⟨Y ++ N, ?_⟩
                    have q1 : (own' ++ ownC).Perm (own ++ N) := by
                      refine (hN.append_right ownC).trans ?_
                      have : ((ownM ++ N) ++ ownC).Perm ((ownM ++ ownC) ++ N) := by
                        rw [List.append_assoc, List.append_assoc]
                        exact (List.perm_append_comm (l₁ := N) (l₂ := ownC)).append_left ownM
                      exact this.trans (k2.symm.append_right N)
                    refine q1.trans ?_
                    rw [← List.append_assoc]; exact hY.append_right N
                | f k =>
                  obtain ⟨o, g1, g2⟩ := hk
                  exact ⟨o, g1, by rw [he', v2 k (hne rfl)]; exact g2⟩
                | r k =>
                  obtain ⟨o, g1, g2⟩ := hk
                  exact ⟨o, g1, by rw [he', v2 k (hne rfl)]; exact g2⟩
                | an k =>
                  obtain ⟨o, vf2, ob2, g1, g2, g3, g4, g5⟩ := hk
                  exact ⟨o, vf2, ob2, g1, by rw [he']; exact g2, by rw [he']; exact g3, g4, fun hl => by
                    rw [v2 k (hne rfl)]; exact g5 (by rwa [hLo k (hne rfl)] at hl)⟩
                | rv k =>
                  show (L.setIfInBounds i true).getD k false = true
                  by_cases ek : k = i
                  · subst ek; exact hLi
                  · rw [hLo k ek]; exact hk
                | h c' k => show (L.setIfInBounds i true).getD k false = true; rw [hLo k (hne rfl)]; exact hk
                | fi k l =>
                  obtain ⟨dd, kv, xv, en0, g1, g2⟩ := hk
                  exact ⟨dd, kv, xv, en0, by rw [he']; exact g1, g2⟩
              · exact hLi
            · rw [hLo]
              · exact h.un x (List.mem_cons_of_mem _ hx') hxe
              · intro e
                exact hnx.2 (by rw [show (It.h c i).ix = x.ix from e.symm]; exact mem_exOf hx' hxe)
            · cases c with
              | true =>
                obtain ⟨Y, hY⟩ := k7 rfl
                exact ⟨Y ++ own', (List.perm_append_comm (l₁ := own') (l₂ := ownC)).trans (by rw [← List.append_assoc]; exact hY.append_right own')⟩
              | false =>
                obtain ⟨N, hN⟩ := k5 rfl v own' hR
                obtain ⟨Y, hY⟩ := h.pr
                have q1 : (own' ++ ownC).Perm (own ++ N) := by
                  refine (hN.append_right ownC).trans ?_
                  have : ((ownM ++ N) ++ ownC).Perm ((ownM ++ ownC) ++ N) := by
                    rw [List.append_assoc, List.append_assoc]
                    exact (List.perm_append_comm (l₁ := N) (l₂ := ownC)).append_left ownM
                  exact this.trans (k2.symm.append_right N)
                exact ⟨Y ++ N, q1.trans (by rw [← List.append_assoc]; exact hY.append_right N)⟩
            · rw [h.pm k]
              constructor
              · rintro ⟨g1, g2, g3⟩
                refine ⟨List.mem_append.2 (.inl g1), ?_, ?_⟩
                · rw [hLo k fun e => by rw [e, hnl] at g2; cases g2]; exact g2
                · rcases List.mem_cons.1 g3 with g3 | g3
                  · cases g3
                  · exact g3
              · rintro ⟨g1, g2, g3⟩
                have g1' : .an k ∈ pre := by
                  rcases List.mem_append.1 g1 with g1 | g1
                  · exact g1
                  · cases List.mem_singleton.1 g1
                have hk : k ≠ i := fun e => hnx.1 (by rw [show (It.h c i).ix = (It.an k).ix from e.symm]; exact mem_exOf g1' rfl)
                exact ⟨g1', by rwa [hLo k hk] at g2, List.mem_cons_of_mem _ g3⟩
  have hrep : ∀ j, (Array.replicate ops.size false).getD j false = false := fun j => by
    rw [Array.getD_eq_getD_getElem?, Array.getElem?_replicate]; split <;> rfl
  have h0 : CI P F n ops prot (fun env own => Q .normal env own ds) its env a0 ds [] its (fun _ => undef) own (fun _ => none) (fun _ => none) (fun _ => .map #[] 0) (fun _ => 0) [] (Array.replicate ops.size false) a0 { w0 with drawn := w0.drawn + 1 } := by
    refine ⟨by simp, ha0.size, hd0, fun i o hi => ?_, rfl, fun s hs => ?_, h, ?_, fun p it t hp => ?_, fun x _ _ => hrep _, hpr, List.nodup_nil, fun i => ?_, fun l hl => (by cases hl), fun k x hk => (by cases hk), fun k l j dk kv xv dl kv' xv' hk => (by cases hk), fun j hj => (by cases hj)⟩
    · rw [hrep] at hi; cases hi
    · have hz : ∀ k, lastW ops (fun j => (Array.replicate ops.size false).getD j false) s k = none := by
        intro k
        induction k with
        | zero => rfl
        | succ k ih =>
          simp only [hrep] at ih
          simp only [lastW, hrep, Bool.false_and, Bool.false_eq_true, if_false]
          exact ih
      simp only [atL, hz]
    · exact (hs0.heap (w' := { w0 with drawn := w0.drawn + 1 }) rfl rfl rfl).perm (by simp [plH])
    · simp at hp
    · simp
  obtain ⟨pre', post', val', own', an', en', pl', hc', hst'⟩ := advance ho h0
  refine wpAnyIn_sound ops.size t' (Array.replicate ops.size false) a0 _ (key ops.size _ a0 _ ⟨pre', post', val', own', an', en', _, _, pl', hc', hst'⟩ ?_)
  have : ∀ k, cnt (Array.replicate ops.size false) k = 0 := by
    intro k
    unfold cnt
    rw [List.length_eq_zero_iff, List.filter_eq_nil_iff]
    intro i _
    simp [hrep]
  rw [this]; omega
end
end Go.SL.DM
