/- A region that draws its order, in which calls may panic (made by mkZ.py out of R). -/
import Derived.Test.YtobcmglbdmaceaaGreatDoorSlG9
import Derived.Laws.Strings
import Derived.Laws.Concat
import Derived.Laws.IdiomStrings
import Derived.Lib.SlBytesConst
import Derived.RecoverIn
set_option linter.unusedVariables false
set_option linter.unusedSimpArgs false
set_option linter.unusedSectionVars false
section
set_option linter.unusedVariables false
namespace Go.SL.DZ
open Go.SL
/-- An operation that turns the heaps 'hs', or panics. -/
def HOpZ (P : Program) (hs : List Heap) (n : Nat) (o : Oper) (env : Env) (R : Value → List Heap → Prop) (Z : List PanicEntry → List Heap → Prop) : Prop :=
  plainOp o.op = true ∧ ∀ a w X, Has n env a → Sat (hs ++ X) w → ∃ w',
    (∃ v own, (execOp a.eval o).run P w = .ok (.value v) w' ∧ Sat (own ++ X) w' ∧ R v own) ∨
    (∃ own, (execOp a.eval o).run P w = .ok .skip w' ∧ Sat (own ++ X) w' ∧ R undef own) ∨
    (∃ f args, (execOp a.eval o).run P w = .ok (.enter f args) w' ∧ Calls P f args w' fun e w'' => (∃ v own, e = .returned v ∧ Sat (own ++ X) w'' ∧ R v own) ∨ (∃ ch own, e = .panicked ch ∧ Sat (own ++ X) w'' ∧ Z ch own)) ∨
    (∃ L f tmps assign body, (execOp a.eval o).run P w = .ok (.round L f tmps assign body) w' ∧ ∀ r, RoundIn (fen r) 0 P L f tmps assign body w' fun e w'' => ∃ v own, e = .returned v ∧ Sat (own ++ X) w'' ∧ R v own)
theorem HOp.z {P : Program} {hs : List Heap} {n : Nat} {o : Oper} {env : Env} {R : Value → List Heap → Prop} (h : HOp P hs n o env R) : HOpZ P hs n o env R (fun _ _ => False) :=
  ⟨h.1, fun a w X ha hS => by
    obtain ⟨w', h1 | h1 | ⟨f, args, h1, h2⟩ | h1⟩ := h.2 a w X ha hS
    · exact ⟨w', .inl h1⟩
    · exact ⟨w', .inr (.inl h1)⟩
    · exact ⟨w', .inr (.inr (.inl ⟨f, args, h1, h2.mono fun _ _ h => .inl h⟩))⟩
    · exact ⟨w', .inr (.inr (.inr h1))⟩⟩
theorem hopz_wp {P : Program} {r : Option Nat} {hs X : List Heap} {n : Nat} {o : Oper} {env : Env} {R : Value → List Heap → Prop} {Z : List PanicEntry → List Heap → Prop} (h : HOpZ P hs n o env R Z)
    {all : Array Oper} {Q : Exit → Act → World → Prop} {i : Nat} {K : Act → World → Prop} {a : Act} {w : World} (hi : all[i]? = some o)
    (hw : Region.wanted o (yielded all a.tmps) = true) {a' : Act} (ha : Has n env a') (he : execOp a.eval o = execOp a'.eval o) (hs' : Sat (hs ++ X) w)
    (hk : ∀ v own w', R v own → Sat (own ++ X) w' → K (a.put o.dst v) w') (hz : ∀ ch own w', Z ch own → Sat (own ++ X) w' → Q (.panic ch) a w') : wpOpIn (fen r) 0 P all Q i K a w := by
  simp only [wpOpIn, hi, hw, if_true]
  refine ⟨fun f _ => by simp, ?_⟩
  rw [fen_round, semAt_plain h.1, he]
  obtain ⟨w', ⟨v, own, h1, h2, h3⟩ | ⟨own, h1, h2, h3⟩ | ⟨f, args, h1, h2⟩ | ⟨L, f, tmps, as, body, h1, h2⟩⟩ := h.2 a' w X ha hs'
  · rw [h1]; exact hk v own w' h3 h2
  · rw [h1]; exact hk undef own w' h3 h2
  · rw [h1]
    refine ⟨fun hx => by simp at hx, (callsIn_fen _ h2).mono ?_⟩
    rintro e w'' (⟨v, own, rfl, s2, hR⟩ | ⟨ch, own, rfl, s2, hZ⟩)
    · exact hk v own w'' hR s2
    · exact hz ch own w'' hZ s2
  · rw [h1]
    refine ⟨fun hx => by simp at hx, (h2 r).mono ?_⟩
    rintro e w'' ⟨v, own, rfl, s2, hR⟩
    exact hk v own w'' hR s2
def Chain (P : Program) (F : Heap) (n : Nat) (all : Array Oper) (prot : List Heap) (K : Env → List Heap → Prop) (Kz : List PanicEntry → List Heap → Prop) : List It → Env → List Heap → An → Prop
  | [], env, own, _ => K env own
  | .q i :: r, env, own, an => ∃ o v, all[i]? = some o ∧ condAt P F n all own env o v ∧ Chain P F n all prot K Kz r (extE all i v env) own an
  | .f i :: r, env, own, an => ∃ o v, all[i]? = some o ∧ condAt P emp n all [] env o v ∧ Chain P F n all prot K Kz r (extE all i v env) own an
  | .r i :: r, env, own, an => ∃ o v, all[i]? = some o ∧ condAt P F n all prot env o v ∧ Chain P F n all prot K Kz r (extE all i v env) own an
  | .an i :: r, env, own, an => ∃ o vf ob, all[i]? = some o ∧ wantedE all env o = some true ∧ NewOp P n o env vf ob ∧ Chain P F n all prot K Kz r env own (putA an i (vf, ob))
  | .rv i :: r, env, own, an => ∃ vf ob, an i = some (vf, ob) ∧ ∀ b, Chain P F n all prot K Kz r (extE all i (vf b) env) (blk b ob :: own) an
  | .h c m :: r, env, own, an => ∃ o ownM ownC R Z, all[m]? = some o ∧ own.Perm (ownM ++ ownC) ∧ ((wantedE all env o = some true ∧ HOpZ P ownM n o env R Z) ∨ (wantedE all env o = some false ∧ plainOp o.op = true ∧ R undef ownM)) ∧
      (c = false → ∀ v own', R v own' → ∃ N, own'.Perm (ownM ++ N)) ∧ (c = true → (∃ Y, ownC.Perm (prot ++ Y)) ∨ lastB all m = true) ∧ (∀ v own', R v own' → Chain P F n all prot K Kz r (extE all m v env) (own' ++ ownC) an) ∧ ∀ ch own', Z ch own' → Kz ch (own' ++ ownC)
section
variable (P : Program) (F : Heap) (n : Nat) (all : Array Oper) (prot : List Heap) (K : Env → List Heap → Prop) (Kz : List PanicEntry → List Heap → Prop) (its : List It) (env0 : Env) (a0 : Act) (ds : List Deferred)
structure CI (pre post : List It) (val : Nat → Value) (own : List Heap) (an : An) (bf : Nat → Nat) (pl : List Nat) (L : Array Bool) (a : Act) (w : World) : Prop where
  s1 : L.size = all.size
  s2 : a.tmps.size = n
  s3 : a.defers = ds
  s4 : ∀ i o, L.getD i false = true → all[i]? = some o → ∀ e ∈ o.after, Region.binds .any e = true → L.getD e.on false = true
  e : its = pre ++ post
  sl : ∀ s, s < n → a.tmps[s]? = atL all a0 val (fun i => L.getD i false) s
  ch : Chain P F n all prot K Kz post (envL all val (ordOf pre) env0) own an
  sat : Sat (F :: own ++ plH an bf pl) w
  kn : ∀ p it t, pre = p ++ it :: t → Kn P F n all prot env0 val an own L bf p it
  un : ∀ it ∈ post, it.exec = true → L.getD it.ix false = false
  pr : ∀ i, i < all.size → L.getD i false = false → ∃ Y, own.Perm (prot ++ Y)
  pn : pl.Nodup
  pm : ∀ i, i ∈ pl ↔ (.an i ∈ pre ∧ L.getD i false = true ∧ .rv i ∈ post)
end
section
variable {P : Program} {F : Heap} {n : Nat} {all : Array Oper} {prot : List Heap} {K : Env → List Heap → Prop} {Kz : List PanicEntry → List Heap → Prop} {its : List It} {env0 : Env} {a0 : Act} {ds : List Deferred}
theorem advance (ho : ItsOk all its) {L : Array Bool} {a : Act} {w : World} {bf : Nat → Nat} : ∀ {post pre : List It} {val : Nat → Value} {own : List Heap} {an : An} {pl : List Nat}, CI P F n all prot K Kz its env0 a0 ds pre post val own an bf pl L a w →
    ∃ pre' post' val' own' an' pl', CI P F n all prot K Kz its env0 a0 ds pre' post' val' own' an' bf pl' L a w ∧ Stuck L post' := by
  intro post
  induction post with
  | nil => intro pre val own an pl h; exact ⟨_, _, _, _, _, _, h, trivial⟩
  | cons it r ih =>
    intro pre val own an pl h
    have hu := h.un it (List.mem_cons_self ..)
    have hun : ∀ x ∈ r, x.exec = true → L.getD x.ix false = false := fun x hx => h.un x (List.mem_cons_of_mem _ hx)
    have he : its = (pre ++ [it]) ++ r := by rw [h.e]; simp
    have hi : it.sets = true → it.ix ∉ ordOf pre := fun hs hm => by
      have := ho.ordNodup
      rw [h.e, ordOf_append] at this
      refine (List.nodup_append.1 this).2.2 _ hm it.ix ?_ rfl
      simp [ordOf, hs]
    -- a quiet one
    have quiet : ∀ (i : Nat) (o : Oper) (v : Value) (hx : it.exec = true) (hix : it.ix = i) (hs : it.sets = true), (∀ i, it ≠ .rv i) → (∀ i, it ≠ .an i) → Chain P F n all prot K Kz r (extE all i v (envL all val (ordOf pre) env0)) own an →
        (∀ val' : Nat → Value, val' i = v → (∀ j, j ≠ i → val' j = val j) → Kn P F n all prot env0 val' an own L bf pre it) →
        ∃ pre' post' val' own' an' pl', CI P F n all prot K Kz its env0 a0 ds pre' post' val' own' an' bf pl' L a w ∧ Stuck L post' := by
      intro i o v hx hix hs hnr hna hch hkn
      have hnl : L.getD i false = false := hix ▸ hu hx
      have hi' : i ∉ ordOf pre := hix ▸ hi hs
      let val' : Nat → Value := fun j => if j = i then v else val j
      have v1 : val' i = v := by simp [val']
      have v2 : ∀ j, j ≠ i → val' j = val j := fun j hj => by simp only [val']; rw [if_neg hj]
      have vL : ∀ j, L.getD j false = true → val' j = val j := fun j hj => v2 j fun e => by rw [e, hnl] at hj; cases hj
      have vp : ∀ j ∈ ordOf pre, val' j = val j := fun j hj => v2 j fun e => hi' (e ▸ hj)
      refine ih (pre := pre ++ [it]) (val := val') (own := own) (an := an) (pl := pl) ⟨h.s1, h.s2, h.s3, h.s4, he, fun s hs => ?_, ?_, h.sat, fun p jt t hp => ?_, hun, h.pr, h.pn, fun j => ?_⟩
      · rw [h.sl s hs, atL_congr vL]
      · have e1 : ordOf (pre ++ [it]) = ordOf pre ++ [i] := by rw [ordOf_append]; simp [ordOf, hs, hix]
        rw [e1, envL_one, v1, envL_congr vp]; exact hch
      · rcases snoc_split hp with ⟨t', rfl⟩ | ⟨rfl, rfl, -⟩
        · refine (h.kn p jt t' rfl).congr (fun j hj => vp j (by rw [ordOf_append]; exact List.mem_append.2 (.inl hj))) (v2 _ fun e => ?_) rfl ⟨[], by simp⟩
          by_cases hjx : jt.exec = true
          · refine (ex_notin ho (p := p ++ jt :: t') (t := r) (it := it) (by rw [h.e]) hx).1 ?_
            rw [hix, ← e]; exact mem_exOf (by simp) hjx
          · cases jt with
            | rv k => exact hi' (by rw [← e]; exact mem_ordOf (it := .rv k) (by simp) rfl)
            | _ => exact absurd rfl hjx
        · exact hkn val' v1 v2
      · rw [h.pm j]
        refine ⟨fun ⟨g1, g2, g3⟩ => ⟨List.mem_append.2 (.inl g1), g2, ?_⟩, fun ⟨g1, g2, g3⟩ => ⟨?_, g2, List.mem_cons_of_mem _ g3⟩⟩
        · rcases List.mem_cons.1 g3 with g3 | g3
          · exact absurd g3.symm (hnr j)
          · exact g3
        · rcases List.mem_append.1 g1 with g1 | g1
          · exact g1
          · exact absurd (List.mem_singleton.1 g1).symm (hna j)
    cases it with
    | q i =>
      obtain ⟨o, v, h1, h2, h3⟩ := h.ch
      refine quiet i o v rfl rfl rfl (fun _ e => by cases e) (fun _ e => by cases e) h3 fun val' v1 v2 => ⟨o, own, h1, ?_, fun _ => ⟨[], by simp⟩⟩
      rw [v1, envL_congr fun j hj => v2 j fun e => hi rfl (e ▸ hj)]; exact h2
    | f i =>
      obtain ⟨o, v, h1, h2, h3⟩ := h.ch
      refine quiet i o v rfl rfl rfl (fun _ e => by cases e) (fun _ e => by cases e) h3 fun val' v1 v2 => ⟨o, h1, ?_⟩
      rw [v1, envL_congr fun j hj => v2 j fun e => hi rfl (e ▸ hj)]; exact h2
    | r i =>
      obtain ⟨o, v, h1, h2, h3⟩ := h.ch
      refine quiet i o v rfl rfl rfl (fun _ e => by cases e) (fun _ e => by cases e) h3 fun val' v1 v2 => ⟨o, h1, ?_⟩
      rw [v1, envL_congr fun j hj => v2 j fun e => hi rfl (e ▸ hj)]; exact h2
    | an i =>
      obtain ⟨o, vf, ob, h1, h2, h3, h4⟩ := h.ch
      have hnl : L.getD i false = false := hu rfl
      have ha : ∀ j, j ≠ i → putA an i (vf, ob) j = an j := fun j hj => by simp only [putA]; rw [if_neg hj]
      have hpl : ∀ j ∈ pl, j ≠ i := fun j hj e => by have := ((h.pm j).1 hj).2.1; rw [e, hnl] at this; cases this
      refine ih (pre := pre ++ [.an i]) (val := val) (own := own) (an := putA an i (vf, ob)) (pl := pl) ⟨h.s1, h.s2, h.s3, h.s4, he, h.sl, ?_, ?_, fun p jt t hp => ?_, hun, h.pr, h.pn, fun j => ?_⟩
      · have e1 : ordOf (pre ++ [.an i]) = ordOf pre := by rw [ordOf_append]; simp [ordOf, It.sets]
        rw [e1]; exact h4
      · rw [plH_congr (an := an) (bf := bf) fun j hj => ⟨ha j (hpl j hj), rfl⟩]; exact h.sat
      · rcases snoc_split hp with ⟨t', rfl⟩ | ⟨rfl, rfl, -⟩
        · by_cases ej : jt.ix = i
          · by_cases hjx : jt.exec = true
            · exfalso
              refine (ex_notin ho (p := p ++ jt :: t') (t := r) (it := .an i) (by rw [h.e]) rfl).1 ?_
              rw [show (It.an i).ix = i from rfl, ← ej]; exact mem_exOf (by simp) hjx
            · cases jt with
              | rv k => exact h.kn p (.rv k) t' rfl
              | _ => exact absurd rfl hjx
          · exact (h.kn p jt t' rfl).congr (fun _ _ => rfl) rfl (ha _ ej) ⟨[], by simp⟩
        · exact ⟨o, vf, ob, h1, h2, h3, by simp [putA], fun hl => by rw [hnl] at hl; cases hl⟩
      · rw [h.pm j]
        refine ⟨fun ⟨g1, g2, g3⟩ => ⟨List.mem_append.2 (.inl g1), g2, ?_⟩, fun ⟨g1, g2, g3⟩ => ⟨?_, g2, List.mem_cons_of_mem _ g3⟩⟩
        · rcases List.mem_cons.1 g3 with g3 | g3
          · cases g3
          · exact g3
        · rcases List.mem_append.1 g1 with g1 | g1
          · exact g1
          · have := List.mem_singleton.1 g1
            cases this; rw [hnl] at g2; cases g2
    | rv i =>
      cases hL : L.getD i false with
      | false => exact ⟨_, _, _, _, _, _, h, hL⟩
      | true =>
        obtain ⟨vf, ob, h1, h2⟩ := h.ch
        have hc := ho.c2 pre i r h.e
        obtain ⟨p3, p4, hp34⟩ := List.append_of_mem hc.2
        obtain ⟨o, vf', ob', k1, k2, k3, k4, k5⟩ := h.kn p3 (.an i) p4 hp34
        rw [h1] at k4; cases k4
        have hpi : i ∈ pl := (h.pm i).2 ⟨hc.2, hL, List.mem_cons_self ..⟩
        have hper : (plH an bf pl).Perm (blk (bf i) ob :: plH an bf (pl.erase i)) := by
          have := (List.perm_cons_erase hpi).map (fun i => match an i with | some (_, ob) => blk (bf i) ob | none => emp)
          simp only [List.map_cons, h1] at this
          exact this
        refine ih (pre := pre ++ [.rv i]) (val := val) (own := blk (bf i) ob :: own) (an := an) (pl := pl.erase i) ⟨h.s1, h.s2, h.s3, h.s4, he, h.sl, ?_, ?_, fun p jt t hp => ?_, hun, (fun k hk hkl => by obtain ⟨Y, hY⟩ := h.pr k hk hkl; exact ⟨blk (bf i) ob :: Y, (hY.cons _).trans (List.perm_middle (a := blk (bf i) ob) (l₁ := prot) (l₂ := Y)).symm⟩), h.pn.erase _, fun j => ?_⟩
        · have e1 : ordOf (pre ++ [.rv i]) = ordOf pre ++ [i] := by rw [ordOf_append]; rfl
          rw [e1, envL_one, k5 hL]; exact h2 (bf i)
        · refine h.sat.perm ?_
          have := (hper.append_left (F :: own)).trans (List.perm_middle (a := blk (bf i) ob) (l₁ := F :: own) (l₂ := plH an bf (pl.erase i)))
          refine this.trans ?_
          simpa using List.Perm.swap F (blk (bf i) ob) (own ++ plH an bf (pl.erase i))
        · rcases snoc_split hp with ⟨t', rfl⟩ | ⟨rfl, rfl, -⟩
          · exact (h.kn p jt t' rfl).congr (fun _ _ => rfl) rfl rfl ⟨[blk (bf i) ob], by simpa using (List.perm_append_comm (l₁ := [blk (bf i) ob]) (l₂ := own))⟩
          · exact hL
        · rw [List.Nodup.mem_erase_iff h.pn, h.pm j]
          constructor
          · rintro ⟨g0, g1, g2, g3⟩
            refine ⟨List.mem_append.2 (.inl g1), g2, ?_⟩
            rcases List.mem_cons.1 g3 with g3 | g3
            · cases g3; exact absurd rfl g0
            · exact g3
          · rintro ⟨g1, g2, g3⟩
            refine ⟨fun e => ?_, ?_, g2, List.mem_cons_of_mem _ g3⟩
            · subst e
              have := ho.ordNodup
              rw [he, ordOf_append] at this
              refine (List.nodup_append.1 this).2.2 j ?_ j (mem_ordOf (it := .rv j) g3 rfl) rfl
              exact mem_ordOf (it := .rv j) (by simp) rfl
            · rcases List.mem_append.1 g1 with g1 | g1
              · exact g1
              · cases List.mem_singleton.1 g1
    | h c m => exact ⟨_, _, _, _, _, _, h, trivial⟩
theorem swp_drawC {P : Program} {r : Option Nat} {F : Heap} {n : Nat} {Q : SPost} {env : Env} {own : List Heap} {ds : List Deferred} {id : Nat} {ops : Array Oper} {its : List It} (prot : List Heap) (hpr : ∃ Y, own.Perm (prot ++ Y))
    (hok : dok ops = true) (hac : acyOk ops = true) (hits : itsOk ops its = true) (hdst : ∀ (i d : Nat), (ops[i]?).bind (·.dst) = some d → d < n)
    (h : Chain P F n ops prot (fun env own => Q .normal env own ds) (fun ch own => Q (.panic ch) [] own ds) its env own (fun _ => none)) : SWP P r F n (.region id ops true) Q env own ds := by
  intro a0 w0 ha0 hd0 hs0
  refine wpIn_region_draw fun t => ?_
  obtain ⟨md, t', hmd, hsch⟩ := schedule_mode (mixed := P.follows .mixedOrders) hac t
  rw [hsch]
  have ho := itsOk_spec hits
  let Inv : Array Bool → Act → World → Prop := fun L a w => ∃ pre post val own an bf pl, CI P F n ops prot (fun env own => Q .normal env own ds) (fun ch own => Q (.panic ch) [] own ds) its env a0 ds pre post val own an bf pl L a w ∧ Stuck L post
  have hend : ∀ L a w, Inv L a w → (∀ i, i < ops.size → L.getD i false = true) → Lift F n Q .normal a w := by
    rintro L a w ⟨pre, post, val, own, an, bf, pl, h, hst⟩ hall
    have hpost : post = [] := by
      cases post with
      | nil => rfl
      | cons it r =>
        exfalso
        have hlt : it.exec = true → False := fun hx => by
          have h1 := h.un it (List.mem_cons_self ..) hx
          have hs : it.sets = true ∨ it.sets = false := by cases it.sets <;> simp
          have : it.ix < ops.size := by
            have hm : it.ix ∈ exOf its := by rw [h.e]; exact mem_exOf (by simp) hx
            cases it with
            | an i =>
              -- it is shown somewhere
              by_cases hb : i < ops.size
              · exact hb
              · exfalso; cases hst
            | q i => exact ho.ordLt i (by rw [h.e]; exact mem_ordOf (it := .q i) (by simp) rfl)
            | f i => exact ho.ordLt i (by rw [h.e]; exact mem_ordOf (it := .f i) (by simp) rfl)
            | r i => exact ho.ordLt i (by rw [h.e]; exact mem_ordOf (it := .r i) (by simp) rfl)
            | rv i => cases hx
            | h c i => exact ho.ordLt i (by rw [h.e]; exact mem_ordOf (it := .h c i) (by simp) rfl)
          rw [hall _ this] at h1; cases h1
        cases it with
        | rv i =>
          have : i < ops.size := ho.ordLt i (by rw [h.e]; exact mem_ordOf (it := .rv i) (by simp) rfl)
          have hst' : L.getD i false = false := hst
          rw [hall _ this] at hst'; cases hst'
        | _ => exact hlt rfl
    subst hpost
    have hpre : its = pre := by rw [h.e, List.append_nil]
    have hpl : pl = [] := by
      cases pl with
      | nil => rfl
      | cons i l => have := ((h.pm i).1 (List.mem_cons_self ..)).2.2; cases this
    have hsat := h.sat
    rw [hpl] at hsat
    refine ⟨by simp, _, _, has_prefix ho hdst ha0 (p := its) (t := []) (val := val) (by simp) h.s2 (fun s hs => ?_), by simpa [plH] using hsat, ?_⟩
    · rw [h.sl s hs]
      simp only [atL]
      rw [lastW_congr (L := fun i => L.getD i false) (L' := fun j => (ordOf its).contains j) fun j hj _ => by rw [hall j hj]; simpa using ho.ordMem j hj]
    · rw [h.s3, hpre]; exact h.ch
  have key : ∀ fuel L a w, Inv L a w → fuel + cnt L ops.size = ops.size → wpAnyIn (fen r) 0 P md ops (Lift F n Q) fuel L a w := by
    intro fuel
    induction fuel with
    | zero =>
      intro L a w hI hf
      have hall := cnt_full ops.size (by omega : cnt L ops.size = ops.size)
      refine ⟨?_, hend L a w hI hall⟩
      obtain ⟨pre, post, val, own, an, bf, pl, h, hst⟩ := hI
      unfold Region.ready
      rw [List.filter_eq_nil_iff]
      intro i hi
      have hi' := List.mem_range.1 hi
      have hL := hall i hi'
      have hLt : L.getD i true = true := by
        have hlt : i < L.size := by rw [h.s1]; exact hi'
        simp only [Array.getD, hlt, dif_pos] at hL ⊢; exact hL
      simp [hLt]
    | succ fuel ih =>
      intro L a w hI hf
      refine ⟨fun hr => hend L a w hI (by obtain ⟨pre, post, val, own, an, bf, pl, h, hst⟩ := hI; exact topo_listed hmd h.s1 hr), fun i hi => ?_⟩
      obtain ⟨pre, post, val, own, an, bf, pl, h, hst⟩ := hI
      unfold Region.ready at hi
      rw [List.mem_filter] at hi
      obtain ⟨hi1, hi2⟩ := hi
      have hi1 := List.mem_range.1 hi1
      have hilt : i < L.size := by rw [h.s1]; exact hi1
      have hio : ops[i]? = some ops[i] := Array.getElem?_eq_getElem hi1
      simp only [hio, Option.map_some, Option.getD_some, Bool.and_eq_true, Bool.not_eq_true', Array.all_eq_true'] at hi2
      obtain ⟨hnl0, hrd⟩ := hi2
      have hnl : L.getD i false = false := by simp only [Array.getD, hilt, dif_pos] at hnl0 ⊢; exact hnl0
      have hrd' : ∀ e ∈ ops[i].after, Region.binds .any e = true → L.getD e.on false = true := fun e he hb => by
        have := hrd e he; rw [binds_any hb] at this; simpa using this
      have hready : ∀ j, Pre ops j i → L.getD j false = true := fun j hj => hj.ready (L := fun j => L.getD j false) h.s4 hio hrd'
      have hdown : ∀ j o, (L.setIfInBounds i true).getD j false = true → ops[j]? = some o → ∀ e ∈ o.after, Region.binds .any e = true → (L.setIfInBounds i true).getD e.on false = true := by
        intro j o hj ho e he hb
        rw [getD_set hilt] at hj ⊢
        by_cases e' : e.on = i
        · rw [if_pos e']
        · rw [if_neg e']
          by_cases ej : j = i
          · subst ej; rw [hio] at ho; cases ho; exact hrd' e he hb
          · rw [if_neg ej] at hj; exact h.s4 j o hj ho e he hb
      have hcnt : fuel + cnt (L.setIfInBounds i true) ops.size = ops.size := by rw [cnt_set hilt hnl, if_pos hi1]; omega
      have hsz2 : ∀ u, (a.put (ops[i]).dst u).tmps.size = n := fun u => by cases (ops[i]).dst <;> simp [Act.put, h.s2]
      have hdf2 : ∀ u, (a.put (ops[i]).dst u).defers = ds := fun u => by cases (ops[i]).dst <;> simp [Act.put, h.s3]
      have hLo : ∀ j, j ≠ i → (L.setIfInBounds i true).getD j false = L.getD j false := fun j hj => by rw [getD_set hilt, if_neg hj]
      have hLi : (L.setIfInBounds i true).getD i false = true := by rw [getD_set hilt, if_pos rfl]
      have hold : ∀ k, (L.setIfInBounds i true).getD k false = false → L.getD k false = false := fun k hk => by
        by_cases e : k = i
        · rw [e, hLi] at hk; cases hk
        · rwa [hLo k e] at hk
      have fin : ∀ {pre' post' val' own' an' bf' pl' a' w'}, CI P F n ops prot (fun env own => Q .normal env own ds) (fun ch own => Q (.panic ch) [] own ds) its env a0 ds pre' post' val' own' an' bf' pl' (L.setIfInBounds i true) a' w' → wpAnyIn (fen r) 0 P md ops (Lift F n Q) fuel (L.setIfInBounds i true) a' w' := fun hc => by
        obtain ⟨pre', post', val', own', an', pl', hc', hst'⟩ := advance ho hc
        exact ih _ _ _ ⟨pre', post', val', own', an', _, pl', hc', hst'⟩ hcnt
      -- where it stands
      have hmem := ho.exMem i hi1
      rw [h.e, exOf_append] at hmem
      rcases List.mem_append.1 hmem with hmem | hmem
      · obtain ⟨p, it, t2, hp, hx, hix⟩ := exOf_mem hmem
        have hsplit : its = p ++ it :: (t2 ++ post) := by rw [h.e, hp]; simp
        have hio' : ops[it.ix]? = some ops[i] := by rw [hix]; exact hio
        obtain ⟨a'', ha'', hlook⟩ := ci_frame hok ho hdst ha0 h.s2 h.s4 h.sl hsplit hx hio' (by rw [hix]; exact hnl) (by rw [hix]; exact hready)
        have hkn := h.kn p it t2 hp
        -- the state behind one whose value was known
        have next : ∀ w', val i = val i → Sat (F :: own ++ plH an bf pl) w' → (∀ j, it ≠ .an j) → wpAnyIn (fen r) 0 P md ops (Lift F n Q) fuel (L.setIfInBounds i true) (a.put (ops[i]).dst (val i)) w' := fun w' _ hs' hna => by
          refine fin (pre' := pre) (post' := post) (val' := val) (own' := own) (an' := an) (bf' := bf) (pl' := pl) ⟨by simpa using h.s1, hsz2 _, hdf2 _, hdown, h.e, ci_slots hok h.s2 h.s4 h.sl hio hilt h.s1 hnl val _ rfl (fun _ _ => rfl), h.ch, hs', fun p' jt t' hp' => ?_, fun x hx' hxe => ?_, (fun k hk hkl => h.pr k hk (hold k hkl)), h.pn, fun j => ?_⟩
          · have hk := h.kn p' jt t' hp'
            cases jt with
            | q j =>
              obtain ⟨o, hsub, h1, h2, h3⟩ := hk
              refine ⟨o, hsub, h1, h2, fun hl => h3 ?_⟩
              by_cases ej : j = i
              · subst ej; rw [hLi] at hl; cases hl
              · rwa [hLo j ej] at hl
            | f j => exact hk
            | r j => exact hk
            | an j =>
              obtain ⟨o, vf, ob, h1, h2, h3, h4, h5⟩ := hk
              refine ⟨o, vf, ob, h1, h2, h3, h4, fun hl => h5 ?_⟩
              by_cases ej : j = i
              · exfalso
                subst ej
                have hj2 : its = p' ++ .an j :: (t' ++ post) := by rw [h.e, hp']; simp
                have q1 := ex_notin ho hj2 rfl
                have hin : it ∈ pre := by rw [hp]; simp
                rw [hp'] at hin
                rcases List.mem_append.1 hin with hin | hin
                · exact q1.1 (by rw [show (It.an j).ix = it.ix from hix.symm]; exact mem_exOf hin hx)
                · rcases List.mem_cons.1 hin with hin | hin
                  · exact hna j hin
                  · exact q1.2 (by rw [exOf_append, show (It.an j).ix = it.ix from hix.symm]; exact List.mem_append.2 (.inl (mem_exOf hin hx)))
              · rwa [hLo j ej] at hl
            | rv j =>
              show (L.setIfInBounds i true).getD j false = true
              by_cases ej : j = i
              · subst ej; exact hLi
              · rw [hLo j ej]; exact hk
            | h c j =>
              show (L.setIfInBounds i true).getD j false = true
              by_cases ej : j = i
              · subst ej; exact hLi
              · rw [hLo j ej]; exact hk
          · rw [hLo]
            · exact h.un x hx' hxe
            · intro e
              have q2 := (ex_notin ho hsplit hx).2
              rw [hix, ← e, exOf_append] at q2
              exact q2 (List.mem_append.2 (.inr (mem_exOf hx' hxe)))
          · rw [h.pm j]
            by_cases ej : j = i
            · subst ej
              rw [hnl, hLi]
              refine ⟨fun g => by simp at g, fun ⟨g1, _, g3⟩ => ?_⟩
              exfalso
              obtain ⟨q1, q2, hq⟩ := List.append_of_mem g1
              have hj2 : its = q1 ++ .an j :: (q2 ++ post) := by rw [h.e, hq]; simp
              have hn := ex_notin ho hj2 rfl
              have hin : it ∈ pre := by rw [hp]; simp
              rw [hq] at hin
              rcases List.mem_append.1 hin with hin | hin
              · exact hn.1 (by rw [show (It.an j).ix = it.ix from hix.symm]; exact mem_exOf hin hx)
              · rcases List.mem_cons.1 hin with hin | hin
                · exact hna j hin
                · exact hn.2 (by rw [exOf_append, show (It.an j).ix = it.ix from hix.symm]; exact List.mem_append.2 (.inl (mem_exOf hin hx)))
            · rw [hLo j ej]
        -- one that is quiet
        have quiet : ∀ {F1 : Heap} {own1 Y : List Heap} , condAt P F1 n ops own1 (envL ops val (ordOf p) env) ops[i] (val i) → Sat (F1 :: own1 ++ Y) w →
            (∀ w', Sat (F1 :: own1 ++ Y) w' → Sat (F :: own ++ plH an bf pl) w') → (∀ j, it ≠ .an j) →
            wpOpIn (fen r) 0 P ops (Lift F n Q) i (wpAnyIn (fen r) 0 P md ops (Lift F n Q) fuel (L.setIfInBounds i true)) a w := by
          intro F1 own1 Y hc hs hk hna
          rcases hc.1 with ⟨hg, hvv⟩ | ⟨hg, hu, hpl⟩
          · simp only [wpOpIn, hio, (wanted_looks hlook).trans (wanted_of ha'' hg), if_true]
            refine ⟨fun f _ => by simp, ?_⟩
            rw [fen_round, semAt_plain hvv.1, eval_looks hlook (dok_plain hok hio)]
            obtain ⟨w', s', g1 | ⟨g1, g2⟩ | ⟨f, args, g1, g2⟩⟩ := hvv.2 a'' w Y ha'' hs
            · rw [g1]; exact next w' rfl (hk w' s') hna
            · rw [g1]
              have := next w' rfl (hk w' s') hna
              rw [g2] at this; exact this
            · rw [g1]
              refine ⟨fun hx => by simp at hx, (callsIn_fen _ g2).mono ?_⟩
              rintro e w'' ⟨rfl, s2⟩
              exact next w'' rfl (hk w'' s2) hna
          · simp only [wpOpIn, hio, (wanted_looks hlook).trans (wanted_of ha'' hg)]
            refine ⟨fun f _ => by simp, ?_⟩
            have := next w rfl (hk w hs) hna
            rw [hu] at this; exact this
        cases it with
        | q j =>
          obtain rfl : j = i := hix
          obtain ⟨o, hsub, h1, h2, h3⟩ := hkn
          rw [hio] at h1; cases h1
          obtain ⟨Y, hY⟩ := h3 hnl
          have pp : (F :: own ++ plH an bf pl).Perm (F :: hsub ++ (Y ++ plH an bf pl)) := by
            have := (hY.append_right (plH an bf pl)).cons F
            simpa [List.append_assoc] using this
          exact quiet h2 (h.sat.perm pp) (fun w' s' => s'.perm pp.symm) (fun _ e => by cases e)
        | f j =>
          obtain rfl : j = i := hix
          obtain ⟨o, h1, h2⟩ := hkn
          rw [hio] at h1; cases h1
          have hemp : Sat (emp :: (F :: own ++ plH an bf pl)) w := ⟨fun k hk => by
            rcases List.mem_cons.1 hk with rfl | hk
            · intro b o e; cases e
            · exact h.sat.le k hk, List.pairwise_cons.2 ⟨fun _ _ _ _ _ e _ => (by cases e), h.sat.dj⟩⟩
          exact quiet (Y := F :: own ++ plH an bf pl) h2 (by simpa using hemp) (fun w' s' => s'.tail) (fun _ e => by cases e)
        | r j =>
          obtain rfl : j = i := hix
          obtain ⟨o, h1, h2⟩ := hkn
          rw [hio] at h1; cases h1
          obtain ⟨Y, hY⟩ := h.pr j (by simpa using hi1) hnl
          have pp : (F :: own ++ plH an bf pl).Perm (F :: prot ++ (Y ++ plH an bf pl)) := by
            have := (hY.append_right (plH an bf pl)).cons F
            simpa [List.append_assoc] using this
          exact quiet h2 (h.sat.perm pp) (fun w' s' => s'.perm pp.symm) (fun _ e => by cases e)
        | rv j => cases hx
        | h c j =>
          obtain rfl : j = i := hix
          rw [show L.getD j false = true from hkn] at hnl; cases hnl
        | an j =>
          obtain rfl : j = i := hix
          obtain ⟨o, vf, ob, h1, h2, h3, h4, h5⟩ := hkn
          rw [hio] at h1; cases h1
          simp only [wpOpIn, hio, (wanted_looks hlook).trans (wanted_of ha'' h2), if_true]
          refine ⟨fun f _ => by simp, ?_⟩
          rw [fen_round, semAt_plain h3.1, eval_looks hlook (dok_plain hok hio), h3.2.2 a'' w ha'']
          show wpAnyIn (fen r) 0 P md ops (Lift F n Q) fuel (L.setIfInBounds j true) (a.put (ops[j]).dst (vf w.heap.size)) _
          let val' : Nat → Value := fun k => if k = j then vf w.heap.size else val k
          let bf' : Nat → Nat := fun k => if k = j then w.heap.size else bf k
          have v1 : val' j = vf w.heap.size := by simp [val']
          have v2 : ∀ k, k ≠ j → val' k = val k := fun k hk => by simp only [val']; rw [if_neg hk]
          have b1 : bf' j = w.heap.size := by simp [bf']
          have b2 : ∀ k, k ≠ j → bf' k = bf k := fun k hk => by simp only [bf']; rw [if_neg hk]
          have hjo : j ∉ ordOf pre := fun hj => by
            obtain ⟨p1, it', p2, hp12, hs', hx'⟩ := ordOf_mem hj
            have := h.kn p1 it' p2 hp12
            cases it' with
            | rv k => obtain rfl : k = j := hx'; rw [show L.getD k false = true from this] at hnl; cases hnl
            | h c k => obtain rfl : k = j := hx'; rw [show L.getD k false = true from this] at hnl; cases hnl
            | an k => cases hs'
            | q k =>
              obtain rfl : k = j := hx'
              have hin : It.q k ∈ pre := by rw [hp12]; simp
              have hn := ex_notin ho hsplit rfl
              rw [hp] at hin
              rcases List.mem_append.1 hin with hin | hin
              · exact hn.1 (mem_exOf (it := .q k) hin rfl)
              · rcases List.mem_cons.1 hin with hin | hin
                · cases hin
                · exact hn.2 (by rw [exOf_append]; exact List.mem_append.2 (.inl (mem_exOf (it := .q k) hin rfl)))
            | f k =>
              obtain rfl : k = j := hx'
              have hin : It.f k ∈ pre := by rw [hp12]; simp
              have hn := ex_notin ho hsplit rfl
              rw [hp] at hin
              rcases List.mem_append.1 hin with hin | hin
              · exact hn.1 (mem_exOf (it := .f k) hin rfl)
              · rcases List.mem_cons.1 hin with hin | hin
                · cases hin
                · exact hn.2 (by rw [exOf_append]; exact List.mem_append.2 (.inl (mem_exOf (it := .f k) hin rfl)))
            | r k =>
              obtain rfl : k = j := hx'
              have hin : It.r k ∈ pre := by rw [hp12]; simp
              have hn := ex_notin ho hsplit rfl
              rw [hp] at hin
              rcases List.mem_append.1 hin with hin | hin
              · exact hn.1 (mem_exOf (it := .r k) hin rfl)
              · rcases List.mem_cons.1 hin with hin | hin
                · cases hin
                · exact hn.2 (by rw [exOf_append]; exact List.mem_append.2 (.inl (mem_exOf (it := .r k) hin rfl)))
          have hjp : j ∉ pl := fun hj => by have := ((h.pm j).1 hj).2.1; rw [hnl] at this; cases this
          have hrvpost : .rv j ∈ post := by
            have h1 := ho.ordMem j hi1
            rw [h.e, ordOf_append] at h1
            rcases List.mem_append.1 h1 with h1 | h1
            · exact absurd h1 hjo
            · obtain ⟨p1, it', p2, hp12, hs', hx'⟩ := ordOf_mem h1
              cases it' with
              | rv k => obtain rfl : k = j := hx'; rw [hp12]; simp
              | an k => cases hs'
              | q k =>
                exfalso
                obtain rfl : k = j := hx'
                exact (ex_notin ho hsplit rfl).2 (by rw [exOf_append]; exact List.mem_append.2 (.inr (mem_exOf (it := .q k) (by rw [hp12]; simp) rfl)))
              | f k =>
                exfalso
                obtain rfl : k = j := hx'
                exact (ex_notin ho hsplit rfl).2 (by rw [exOf_append]; exact List.mem_append.2 (.inr (mem_exOf (it := .f k) (by rw [hp12]; simp) rfl)))
              | r k =>
                exfalso
                obtain rfl : k = j := hx'
                exact (ex_notin ho hsplit rfl).2 (by rw [exOf_append]; exact List.mem_append.2 (.inr (mem_exOf (it := .r k) (by rw [hp12]; simp) rfl)))
              | h c k =>
                exfalso
                obtain rfl : k = j := hx'
                exact (ex_notin ho hsplit rfl).2 (by rw [exOf_append]; exact List.mem_append.2 (.inr (mem_exOf (it := .h c k) (by rw [hp12]; simp) rfl)))
          have vL : ∀ k, L.getD k false = true → val' k = val k := fun k hk => v2 k fun e => by rw [e, hnl] at hk; cases hk
          have vp : ∀ k ∈ ordOf pre, val' k = val k := fun k hk => v2 k fun e => hjo (e ▸ hk)
          refine fin (pre' := pre) (post' := post) (val' := val') (own' := own) (an' := an) (bf' := bf') (pl' := j :: pl) ⟨by simpa using h.s1, hsz2 _, hdf2 _, hdown, h.e, ci_slots hok h.s2 h.s4 h.sl hio hilt h.s1 hnl val' _ v1 vL, ?_, ?_, fun p' jt t' hp' => ?_, fun x hx' hxe => ?_, (fun k hk hkl => h.pr k hk (hold k hkl)), List.nodup_cons.2 ⟨hjp, h.pn⟩, fun k => ?_⟩
          · rw [envL_congr vp]; exact h.ch
          · have e1 : plH an bf' (j :: pl) = blk w.heap.size ob :: plH an bf pl := by
              have := plH_congr (an := an) (an' := an) (bf := bf) (bf' := bf') (pl := pl) fun k hk => ⟨rfl, b2 k fun e => hjp (e ▸ hk)⟩
              simp only [plH, List.map_cons, h4, b1] at this ⊢
              rw [this]
            rw [e1]
            have := sat_alloc h.sat ob h3.2.1
            exact this.perm (List.perm_middle (a := blk w.heap.size ob) (l₁ := F :: own) (l₂ := plH an bf pl)).symm
          · have hk := h.kn p' jt t' hp'
            have hpo : ∀ k ∈ ordOf p', val' k = val k := fun k hk => vp k (by rw [hp', ordOf_append]; exact List.mem_append.2 (.inl hk))
            have he' : envL ops val' (ordOf p') env = envL ops val (ordOf p') env := envL_congr hpo
            have hne : jt.sets = true → jt.ix ≠ j := fun hs e => hjo (e ▸ mem_ordOf (by rw [hp']; simp) hs)
            cases jt with
            | q k =>
              obtain ⟨o, hsub, g1, g2, g3⟩ := hk
              exact ⟨o, hsub, g1, by rw [he', v2 k (hne rfl)]; exact g2, fun hl => g3 (by rwa [hLo k (hne rfl)] at hl)⟩
            | f k =>
              obtain ⟨o, g1, g2⟩ := hk
              exact ⟨o, g1, by rw [he', v2 k (hne rfl)]; exact g2⟩
            | r k =>
              obtain ⟨o, g1, g2⟩ := hk
              exact ⟨o, g1, by rw [he', v2 k (hne rfl)]; exact g2⟩
            | an k =>
              obtain ⟨o, vf2, ob2, g1, g2, g3, g4, g5⟩ := hk
              refine ⟨o, vf2, ob2, g1, by rw [he']; exact g2, by rw [he']; exact g3, g4, fun hl => ?_⟩
              by_cases ek : k = j
              · subst ek; rw [h4] at g4; cases g4; rw [v1, b1]
              · rw [v2 k ek, b2 k ek]; exact g5 (by rwa [hLo k ek] at hl)
            | rv k => show (L.setIfInBounds j true).getD k false = true; rw [hLo k (hne rfl)]; exact hk
            | h c k => show (L.setIfInBounds j true).getD k false = true; rw [hLo k (hne rfl)]; exact hk
          · rw [hLo]
            · exact h.un x hx' hxe
            · intro e
              have q2 := (ex_notin ho hsplit hx).2
              rw [show (It.an j).ix = j from rfl, ← e, exOf_append] at q2
              exact q2 (List.mem_append.2 (.inr (mem_exOf hx' hxe)))
          · by_cases ek : k = j
            · subst ek
              exact ⟨fun _ => ⟨by rw [hp]; simp, hLi, hrvpost⟩, fun _ => List.mem_cons_self ..⟩
            · rw [hLo k ek, List.mem_cons, h.pm k]
              exact ⟨fun hh => hh.resolve_left ek, .inr⟩
      · -- it stands behind: it is the one that is waited for
        cases post with
        | nil => cases hmem
        | cons it rest =>
          have hwait : ∀ m, (∀ x ∈ exOf rest, Pre ops m x) → L.getD m false = false → i ∈ exOf rest → False := fun m hm hLm hir => by
            have := hready m (hm i hir); rw [hLm] at this; cases this
          cases it with
          | q _ => cases hst
          | f _ => cases hst
          | r _ => cases hst
          | an _ => cases hst
          | rv m => exact (hwait m (ho.c2 pre m rest h.e).1 hst (by simpa [exOf, It.exec] using hmem)).elim
          | h c m =>
            have hLm : L.getD m false = false := h.un (.h c m) (List.mem_cons_self ..) rfl
            have him : i = m := by
              have e1 : exOf (.h c m :: rest) = m :: exOf rest := rfl
              rw [e1] at hmem
              rcases List.mem_cons.1 hmem with hm | hm
              · exact hm
              · exact (hwait m (ho.c1 pre c m rest h.e) hLm hm).elim
            subst him
            obtain ⟨a'', ha'', hlook⟩ := ci_frame hok ho hdst ha0 h.s2 h.s4 h.sl h.e rfl (by exact hio) (by exact hnl) (by exact hready)
            obtain ⟨o, ownM, ownC, R, Z, k1, k2, k34, k5, k7, k6, k8⟩ := h.ch
            rw [hio] at k1; cases k1
            have pp : (F :: own ++ plH an bf pl).Perm (ownM ++ (ownC ++ (F :: plH an bf pl))) := by
              have e1 : (F :: own ++ plH an bf pl).Perm (own ++ (F :: plH an bf pl)) := (List.perm_middle (a := F) (l₁ := own) (l₂ := plH an bf pl)).symm
              refine e1.trans ?_
              have := k2.append_right (F :: plH an bf pl)
              simpa [List.append_assoc] using this
            have cont : ∀ v own' w', R v own' → Sat (own' ++ (ownC ++ (F :: plH an bf pl))) w' → wpAnyIn (fen r) 0 P md ops (Lift F n Q) fuel (L.setIfInBounds i true) (a.put (ops[i]).dst v) w' := ?_
            have zont : ∀ ch own' w', Z ch own' → Sat (own' ++ (ownC ++ (F :: plH an bf pl))) w' → Lift F n Q (.panic ch) a w' := fun ch own' w' hZ s2 =>
              ⟨by simp, [], own' ++ ownC, ⟨h.s2, fun i v hi => by cases hi⟩, (s2.perm (show (own' ++ (ownC ++ (F :: plH an bf pl))).Perm (F :: (own' ++ ownC) ++ plH an bf pl) by rw [← List.append_assoc]; exact List.perm_middle (a := F) (l₁ := own' ++ ownC) (l₂ := plH an bf pl))).sub (List.sublist_append_left _ _), by rw [h.s3]; exact k8 ch own' hZ⟩
            · rcases k34 with ⟨k3, k4⟩ | ⟨k3, -, k4⟩
              · exact hopz_wp (X := ownC ++ (F :: plH an bf pl)) k4 hio ((wanted_looks hlook).trans (wanted_of ha'' k3)) ha'' (eval_looks hlook (dok_plain hok hio)) (h.sat.perm pp) cont zont
              · simp only [wpOpIn, hio, (wanted_looks hlook).trans (wanted_of ha'' k3)]
                exact ⟨fun f _ => by simp, cont undef ownM w k4 (h.sat.perm pp)⟩
            intro v own' w' hR s2
            let val' : Nat → Value := fun k => if k = i then v else val k
            have v1 : val' i = v := by simp [val']
            have v2 : ∀ k, k ≠ i → val' k = val k := fun k hk => by simp only [val']; rw [if_neg hk]
            have vL : ∀ k, L.getD k false = true → val' k = val k := fun k hk => v2 k fun e => by rw [e, hnl] at hk; cases hk
            have hjo : i ∉ ordOf pre := ord_notin ho h.e rfl
            have vp : ∀ k ∈ ordOf pre, val' k = val k := fun k hk => v2 k fun e => hjo (e ▸ hk)
            have hnx := ex_notin ho h.e rfl
            have he2 : its = (pre ++ [.h c i]) ++ rest := by rw [h.e]; simp
            refine fin (pre' := pre ++ [.h c i]) (post' := rest) (val' := val') (own' := own' ++ ownC) (an' := an) (bf' := bf) (pl' := pl) ⟨by simpa using h.s1, hsz2 _, hdf2 _, hdown, he2, ci_slots hok h.s2 h.s4 h.sl hio hilt h.s1 hnl val' _ v1 vL, ?_, ?_, fun p' jt t' hp' => ?_, fun x hx' hxe => ?_, ?_, h.pn, fun k => ?_⟩
            · have e1 : ordOf (pre ++ [.h c i]) = ordOf pre ++ [i] := by rw [ordOf_append]; rfl
              rw [e1, envL_one, v1, envL_congr vp]; exact k6 v own' hR
            · refine s2.perm ?_
              have e1 : (own' ++ (ownC ++ (F :: plH an bf pl))).Perm (F :: (own' ++ ownC) ++ plH an bf pl) := by
                rw [← List.append_assoc]; exact List.perm_middle (a := F) (l₁ := own' ++ ownC) (l₂ := plH an bf pl)
              exact e1
            · rcases snoc_split hp' with ⟨t2, rfl⟩ | ⟨rfl, rfl, -⟩
              · have hk := h.kn p' jt t2 rfl
                have hne : jt.exec = true → jt.ix ≠ i := fun hx e => hnx.1 (by rw [show (It.h c i).ix = jt.ix from e.symm]; exact mem_exOf (by simp) hx)
                have hpo : ∀ k ∈ ordOf p', val' k = val k := fun k hk => vp k (by rw [ordOf_append]; exact List.mem_append.2 (.inl hk))
                have he' : envL ops val' (ordOf p') env = envL ops val (ordOf p') env := envL_congr hpo
                cases jt with
                | q k =>
                  obtain ⟨o, hsub, g1, g2, g3⟩ := hk
                  refine ⟨o, hsub, g1, by rw [he', v2 k (hne rfl)]; exact g2, fun hl => ?_⟩
                  rw [hLo k (hne rfl)] at hl
                  cases c with
                  | true =>
                    have := hready k (ho.c3 _ i rest h.e k (by simp))
                    rw [hl] at this; cases this
                  | false =>
                    obtain ⟨Y, hY⟩ := g3 hl
                    obtain ⟨N, hN⟩ := k5 rfl v own' hR
                    refine ⟨Y ++ N, ?_⟩
                    have q1 : (own' ++ ownC).Perm (own ++ N) := by
                      refine (hN.append_right ownC).trans ?_
                      have : ((ownM ++ N) ++ ownC).Perm ((ownM ++ ownC) ++ N) := by
                        rw [List.append_assoc, List.append_assoc]
                        exact (List.perm_append_comm (l₁ := N) (l₂ := ownC)).append_left ownM
                      exact this.trans (k2.symm.append_right N)
                    refine q1.trans ?_
                    rw [← List.append_assoc]; exact hY.append_right N
                | f k =>
                  obtain ⟨o, g1, g2⟩ := hk
                  exact ⟨o, g1, by rw [he', v2 k (hne rfl)]; exact g2⟩
                | r k =>
                  obtain ⟨o, g1, g2⟩ := hk
                  exact ⟨o, g1, by rw [he', v2 k (hne rfl)]; exact g2⟩
                | an k =>
                  obtain ⟨o, vf2, ob2, g1, g2, g3, g4, g5⟩ := hk
                  exact ⟨o, vf2, ob2, g1, by rw [he']; exact g2, by rw [he']; exact g3, g4, fun hl => by
                    rw [v2 k (hne rfl)]; exact g5 (by rwa [hLo k (hne rfl)] at hl)⟩
                | rv k =>
                  show (L.setIfInBounds i true).getD k false = true
                  by_cases ek : k = i
                  · subst ek; exact hLi
                  · rw [hLo k ek]; exact hk
                | h c' k => show (L.setIfInBounds i true).getD k false = true; rw [hLo k (hne rfl)]; exact hk
              · exact hLi
            · rw [hLo]
              · exact h.un x (List.mem_cons_of_mem _ hx') hxe
              · intro e
                exact hnx.2 (by rw [show (It.h c i).ix = x.ix from e.symm]; exact mem_exOf hx' hxe)
            · cases c with
              | true =>
                intro k hk hkl
                rcases k7 rfl with ⟨Y, hY⟩ | hlast
                case inr =>
                  exfalso
                  rcases lastB_spec hlast k hk with rfl | hp
                  · rw [hLi] at hkl; cases hkl
                  · have := hready k hp; rw [hold k hkl] at this; cases this
                exact ⟨Y ++ own', (List.perm_append_comm (l₁ := own') (l₂ := ownC)).trans (by rw [← List.append_assoc]; exact hY.append_right own')⟩
              | false =>
                obtain ⟨N, hN⟩ := k5 rfl v own' hR
                intro k hk hkl
                obtain ⟨Y, hY⟩ := h.pr k hk (hold k hkl)
                have q1 : (own' ++ ownC).Perm (own ++ N) := by
                  refine (hN.append_right ownC).trans ?_
                  have : ((ownM ++ N) ++ ownC).Perm ((ownM ++ ownC) ++ N) := by
                    rw [List.append_assoc, List.append_assoc]
                    exact (List.perm_append_comm (l₁ := N) (l₂ := ownC)).append_left ownM
                  exact this.trans (k2.symm.append_right N)
                exact ⟨Y ++ N, q1.trans (by rw [← List.append_assoc]; exact hY.append_right N)⟩
            · rw [h.pm k]
              constructor
              · rintro ⟨g1, g2, g3⟩
                refine ⟨List.mem_append.2 (.inl g1), ?_, ?_⟩
                · rw [hLo k fun e => by rw [e, hnl] at g2; cases g2]; exact g2
                · rcases List.mem_cons.1 g3 with g3 | g3
                  · cases g3
                  · exact g3
              · rintro ⟨g1, g2, g3⟩
                have g1' : .an k ∈ pre := by
                  rcases List.mem_append.1 g1 with g1 | g1
                  · exact g1
                  · cases List.mem_singleton.1 g1
                have hk : k ≠ i := fun e => hnx.1 (by rw [show (It.h c i).ix = (It.an k).ix from e.symm]; exact mem_exOf g1' rfl)
                exact ⟨g1', by rwa [hLo k hk] at g2, List.mem_cons_of_mem _ g3⟩
  have hrep : ∀ j, (Array.replicate ops.size false).getD j false = false := fun j => by
    rw [Array.getD_eq_getD_getElem?, Array.getElem?_replicate]; split <;> rfl
  have h0 : CI P F n ops prot (fun env own => Q .normal env own ds) (fun ch own => Q (.panic ch) [] own ds) its env a0 ds [] its (fun _ => undef) own (fun _ => none) (fun _ => 0) [] (Array.replicate ops.size false) a0 { w0 with drawn := w0.drawn + 1 } := by
    refine ⟨by simp, ha0.size, hd0, fun i o hi => ?_, rfl, fun s hs => ?_, h, ?_, fun p it t hp => ?_, fun x _ _ => hrep _, fun _ _ _ => hpr, List.nodup_nil, fun i => ?_⟩
    · rw [hrep] at hi; cases hi
    · have hz : ∀ k, lastW ops (fun j => (Array.replicate ops.size false).getD j false) s k = none := by
        intro k
        induction k with
        | zero => rfl
        | succ k ih =>
          simp only [hrep] at ih
          simp only [lastW, hrep, Bool.false_and, Bool.false_eq_true, if_false]
          exact ih
      simp only [atL, hz]
    · exact (hs0.heap (w' := { w0 with drawn := w0.drawn + 1 }) rfl rfl rfl).perm (by simp [plH])
    · simp at hp
    · simp
  obtain ⟨pre', post', val', own', an', pl', hc', hst'⟩ := advance ho h0
  refine wpAnyIn_sound ops.size t' (Array.replicate ops.size false) a0 _ (key ops.size _ a0 _ ⟨pre', post', val', own', an', _, pl', hc', hst'⟩ ?_)
  have : ∀ k, cnt (Array.replicate ops.size false) k = 0 := by
    intro k
    unfold cnt
    rw [List.length_eq_zero_iff, List.filter_eq_nil_iff]
    intro i _
    simp [hrep]
  rw [this]; omega
end
end Go.SL.DZ
end
section
/- The walk of a region that draws its order, in which calls may panic (made by mkZ.py out of S, X1, X2, X15, X22). -/
set_option linter.unusedVariables false
namespace Go.SL.DZ
open Go.SL
def ChU (P : Program) (r : Option Nat) (F : Heap) (n : Nat) (all : Array Oper) (prot : List Heap) (Q : SPost) (ds : List Deferred) : List Sg → Env → List Heap → An → Prop
  | [], env, own, _ => Q .normal env own ds
  | .q l :: s, env, own, an => QOps P F n all own (fun env' => ChU P r F n all prot Q ds s env' own an) l env
  | .f l :: s, env, own, an => QOps P emp n all [] (fun env' => ChU P r F n all prot Q ds s env' own an) l env
  | .r l :: s, env, own, an => QOps P F n all prot (fun env' => ChU P r F n all prot Q ds s env' own an) l env
  | .an i :: s, env, own, an => ∃ o vf ob, all[i]? = some o ∧ wantedE all env o = some true ∧ NewOp P n o env vf ob ∧ ChU P r F n all prot Q ds s env own (putA an i (vf, ob))
  | .rv i :: s, env, own, an => ∃ vf ob, an i = some (vf, ob) ∧ ∀ b, ChU P r F n all prot Q ds s (extE all i (vf b) env) (blk b ob :: own) an
  | .h c m :: s, env, own, an => ∃ o ownM ownC R Z, all[m]? = some o ∧ own.Perm (ownM ++ ownC) ∧ ((wantedE all env o = some true ∧ HOpZ P ownM n o env R Z) ∨ (wantedE all env o = some false ∧ plainOp o.op = true ∧ R undef ownM)) ∧
      (c = false → ∀ v own', R v own' → ∃ N, own'.Perm (ownM ++ N)) ∧ (c = true → (∃ Y, ownC.Perm (prot ++ Y)) ∨ lastB all m = true) ∧ (∀ v own', R v own' → ChU P r F n all prot Q ds s (extE all m v env) (own' ++ ownC) an) ∧ ∀ ch own', Z ch own' → Q (.panic ch) [] (own' ++ ownC) ds
section
variable {P : Program} {r : Option Nat} {F : Heap} {n : Nat} {prot : List Heap} {Q : SPost} {env : Env} {own rest hs ownM ownC : List Heap} {ds : List Deferred} {all : Array Oper} {s : List Sg} {o : Oper} {id : Nat} {an : An}
theorem chain_q {K : Env → List Heap → Prop} {Kz : List PanicEntry → List Heap → Prop} {F1 : Heap} {own1 : List Heap} {it : Nat → It} {own : List Heap} {an : An} (hit : ∀ i rr env o v, all[i]? = some o → condAt P F1 n all own1 env o v → Chain P F n all prot K Kz rr (extE all i v env) own an → Chain P F n all prot K Kz (it i :: rr) env own an)
    {rr : List It} : ∀ {l : List Nat} {env : Env}, QOps P F1 n all own1 (fun env' => Chain P F n all prot K Kz rr env' own an) l env → Chain P F n all prot K Kz (l.map it ++ rr) env own an := by
  intro l
  induction l with
  | nil => intro env h; exact h
  | cons i l ih =>
    intro env h
    simp only [QOps] at h
    obtain ⟨o, v, h1, h2, h3, h4⟩ := h
    refine hit i _ env o v h1 ⟨h2, h3⟩ (ih ?_)
    have : extE all i v env = (match o.dst with | some d => (d, v) :: env | none => env) := by simp only [extE, h1, Option.bind_some] <;> cases o.dst <;> rfl
    rw [this]; exact h4
theorem chain_of : ∀ {s : List Sg} {env : Env} {own : List Heap} {an : An}, ChU P r F n all prot Q ds s env own an → Chain P F n all prot (fun env own => Q .normal env own ds) (fun ch own => Q (.panic ch) [] own ds) (allIts s) env own an := by
  intro s
  induction s with
  | nil => intro env own an h; exact h
  | cons x s ih =>
    intro env own an h
    cases x with
    | q l => exact chain_q (it := It.q) (own1 := own) (F1 := F) (fun i rr env o v h1 h2 h3 => ⟨o, v, h1, h2, h3⟩) (qops_mono (fun env h => ih h) h)
    | f l => exact chain_q (it := It.f) (fun i rr env o v h1 h2 h3 => ⟨o, v, h1, h2, h3⟩) (qops_mono (fun env h => ih h) h)
    | r l => exact chain_q (it := It.r) (fun i rr env o v h1 h2 h3 => ⟨o, v, h1, h2, h3⟩) (qops_mono (fun env h => ih h) h)
    | an i =>
      obtain ⟨o, vf, ob, h1, h2, h3, h4⟩ := h
      exact ⟨o, vf, ob, h1, h2, h3, ih h4⟩
    | rv i =>
      obtain ⟨vf, ob, h1, h2⟩ := h
      exact ⟨vf, ob, h1, fun b => ih (h2 b)⟩
    | h c m =>
      obtain ⟨o, ownM, ownC, R, Z, h1, h2, h3, h5, h7, h6, h8⟩ := h
      exact ⟨o, ownM, ownC, R, Z, h1, h2, h3, h5, h7, fun v own' hR => ih (h6 v own' hR), h8⟩
theorem sl_drawC (s : List Sg) (prot : List Heap) [tp : TakeL own prot rest] {ops : Array Oper} (hok : dok ops = true) (hac : acyOk ops = true) (hits : itsOk ops (allIts s) = true) (hdst : dstB ops n = true)
    (h : ChU P r F n ops prot Q ds s env own (fun _ => none)) : SWP P r F n (.region id ops true) Q env own ds :=
  swp_drawC prot ⟨rest, tp.perm⟩ hok hac hits (dstB_spec hdst) (chain_of h)
theorem chu_nil (h : Q .normal env own ds) : ChU P r F n all prot Q ds [] env own an := h
theorem chu_q {l : List Nat} {A : List Oper} (hA : pickO all l = some A) (h : SOL true P r F n all A (Thn (fun env1 _ _ => ChU P r F n all prot Q ds s env1 own an) (fun _ _ _ _ => False)) env own ds) : ChU P r F n all prot Q ds (.q l :: s) env own an :=
  h l (pickO_eq hA)
theorem chu_f {l : List Nat} {A : List Oper} (hA : pickO all l = some A) (h : SOL true P r emp n all A (Thn (fun env1 _ _ => ChU P r F n all prot Q ds s env1 own an) (fun _ _ _ _ => False)) env [] ds) : ChU P r F n all prot Q ds (.f l :: s) env own an :=
  h l (pickO_eq hA)
theorem chu_r {l : List Nat} {A : List Oper} (hA : pickO all l = some A) (h : SOL true P r F n all A (Thn (fun env1 _ _ => ChU P r F n all prot Q ds s env1 own an) (fun _ _ _ _ => False)) env prot ds) : ChU P r F n all prot Q ds (.r l :: s) env own an :=
  h l (pickO_eq hA)
theorem chu_rv {i d : Nat} {vf : Nat → Value} {ob : Obj} (hi : all[i]? = some o) (hd : o.dst = some d) (ha : an i = some (vf, ob)) (h : ∀ b, ChU P r F n all prot Q ds s ((d, vf b) :: env) (blk b ob :: own) an) : ChU P r F n all prot Q ds (.rv i :: s) env own an := by
  refine ⟨vf, ob, ha, fun b => ?_⟩
  have : extE all i (vf b) env = (d, vf b) :: env := by simp only [extE, hi, Option.bind_some, hd]
  rw [this]; exact h b
theorem chu_new {i : Nat} {vf : Nat → Value} {ob : Obj} (hi : all[i]? = some o) (hg : wantedE all env o = some true) (hn : NewOp P n o env vf ob) (h : ChU P r F n all prot Q ds s env own (putA an i (vf, ob))) : ChU P r F n all prot Q ds (.an i :: s) env own an :=
  ⟨o, vf, ob, hi, hg, hn, h⟩
theorem chu_h {c : Bool} {m d : Nat} {R : Value → List Heap → Prop} (hi : all[m]? = some o) (hd : o.dst = some d) (hg : wantedE all env o = some true) [t : TakeL own hs rest] (hop : HOp P hs n o env R)
    (hgr : c = false → ∀ v own', R v own' → ∃ N, own'.Perm (hs ++ N)) (hpc : c = true → (∃ Y, rest.Perm (prot ++ Y)) ∨ lastB all m = true) (h : ∀ v own', R v own' → ∃ own2, appH own' rest = some own2 ∧ ChU P r F n all prot Q ds s ((d, v) :: env) own2 an) : ChU P r F n all prot Q ds (.h c m :: s) env own an := by
  refine ⟨o, hs, rest, R, fun _ _ => False, hi, t.perm, .inl ⟨hg, HOp.z hop⟩, hgr, hpc, fun v own' hR => ?_, fun _ _ h => h.elim⟩
  obtain ⟨own2, e2, h2⟩ := h v own' hR
  have : extE all m v env = (d, v) :: env := by simp only [extE, hi, Option.bind_some, hd]
  rw [this, ← appH_eq e2]; exact h2
theorem chu_h0 {c : Bool} {m : Nat} {R : Value → List Heap → Prop} (hi : all[m]? = some o) (hd : o.dst = none) (hg : wantedE all env o = some true) [t : TakeL own hs rest] (hop : HOp P hs n o env R)
    (hgr : c = false → ∀ v own', R v own' → ∃ N, own'.Perm (hs ++ N)) (hpc : c = true → (∃ Y, rest.Perm (prot ++ Y)) ∨ lastB all m = true) (h : ∀ v own', R v own' → ∃ own2, appH own' rest = some own2 ∧ ChU P r F n all prot Q ds s env own2 an) : ChU P r F n all prot Q ds (.h c m :: s) env own an := by
  refine ⟨o, hs, rest, R, fun _ _ => False, hi, t.perm, .inl ⟨hg, HOp.z hop⟩, hgr, hpc, fun v own' hR => ?_, fun _ _ h => h.elim⟩
  obtain ⟨own2, e2, h2⟩ := h v own' hR
  have : extE all m v env = env := by simp only [extE, hi, Option.bind_some, hd]
  rw [this, ← appH_eq e2]; exact h2
/-- A guarded operation that is not carried out, where a heavy one was looked for. -/
theorem chu_pass {c : Bool} {m d : Nat} [tp : TakeL own prot rest] (hi : all[m]? = some o) (hd : o.dst = some d) (hg : wantedE all env o = some false) (hp : plainOp o.op = true) (h : ChU P r F n all prot Q ds s ((d, undef) :: env) own an) : ChU P r F n all prot Q ds (.h c m :: s) env own an := by
  refine ⟨o, [], own, fun v own' => v = undef ∧ own' = [], fun _ _ => False, hi, List.Perm.refl _, .inr ⟨hg, hp, rfl, rfl⟩, ?_, fun _ => .inl ⟨rest, tp.perm⟩, ?_, fun _ _ h => h.elim⟩
  · rintro - v own' ⟨rfl, rfl⟩; exact ⟨[], List.Perm.refl _⟩
  · rintro v own' ⟨rfl, rfl⟩
    have : extE all m undef env = (d, undef) :: env := by simp only [extE, hi, Option.bind_some, hd]
    rw [this]; exact h
theorem chu_P {m d : Nat} {cl : Call} {x : Operand} {f : FuncId} {first captured : Array Value} {vs vall : List Value} {v : Value} [Enters P f]
    (hi : all[m]? = some o) (hd : o.dst = some d) (hg : wantedE all env o = some true) [t : TakeL own hs rest]
    (ho : o.op = .call cl) (hc : cl.callee = .value x) (hx : ev env x = some (.func (.func f) first captured)) (hvs : evs env cl.args.toList = some vs)
    (hall : appO first.toList vs captured.toList = some vall) (hp : PFn P f vall hs v) {own2 : List Heap} (h2 : appH hs rest = some own2) (h : ChU P r F n all prot Q ds s ((d, v) :: env) own2 an) : ChU P r F n all prot Q ds (.h false m :: s) env own an :=
  chu_h hi hd hg (hop_P ho hc hx hvs hall hp) (fun _ v own' hR => ⟨[], by rw [hR.2]; simp⟩) (fun h => by cases h) fun v' own' hR => by
    obtain ⟨rfl, rfl⟩ := hR; exact ⟨own2, h2, h⟩
theorem chu_Pif {m d : Nat} {cl : Call} {x : Operand} {f : FuncId} {first captured : Array Value} {vs vall : List Value} {p : Prop} [Decidable p] [Enters P f]
    (hi : all[m]? = some o) (hd : o.dst = some d) (hg : wantedE all env o = some true) [t : TakeL own hs rest]
    (ho : o.op = .call cl) (hc : cl.callee = .value x) (hx : ev env x = some (.func (.func f) first captured)) (hvs : evs env cl.args.toList = some vs)
    (hall : appO first.toList vs captured.toList = some vall) (hp : PFn P f vall hs (.bool (decide p))) {own2 : List Heap} (h2 : appH hs rest = some own2)
    (h : p → ChU P r F n all prot Q ds s ((d, .bool true) :: env) own2 an) (h' : ¬ p → ChU P r F n all prot Q ds s ((d, .bool false) :: env) own2 an) : ChU P r F n all prot Q ds (.h false m :: s) env own an := by
  by_cases hpp : p
  · exact chu_P hi hd hg ho hc hx hvs hall hp h2 (by rw [decide_eq_true hpp]; exact h hpp)
  · exact chu_P hi hd hg ho hc hx hvs hall hp h2 (by rw [decide_eq_false hpp]; exact h' hpp)
theorem chu_Py {m d : Nat} {cl : Call} {x : Operand} {f : FuncId} {first captured : Array Value} {vs vall : List Value} {p : Prop} [Decidable p] [Enters P f]
    (hi : all[m]? = some o) (hd : o.dst = some d) (hg : wantedE all env o = some true) [t : TakeL own hs rest]
    (ho : o.op = .call cl) (hc : cl.callee = .value x) (hx : ev env x = some (.func (.func f) first captured)) (hvs : evs env cl.args.toList = some vs)
    (hall : appO first.toList vs captured.toList = some vall) (hp : PFn P f vall hs (.bool (decide p))) {own2 : List Heap} (h2 : appH hs rest = some own2) (hpp : p)
    (h : ChU P r F n all prot Q ds s ((d, .bool true) :: env) own2 an) : ChU P r F n all prot Q ds (.h false m :: s) env own an :=
  chu_P hi hd hg ho hc hx hvs hall hp h2 (by rw [decide_eq_true hpp]; exact h)
theorem chu_Pn {m d : Nat} {cl : Call} {x : Operand} {f : FuncId} {first captured : Array Value} {vs vall : List Value} {p : Prop} [Decidable p] [Enters P f]
    (hi : all[m]? = some o) (hd : o.dst = some d) (hg : wantedE all env o = some true) [t : TakeL own hs rest]
    (ho : o.op = .call cl) (hc : cl.callee = .value x) (hx : ev env x = some (.func (.func f) first captured)) (hvs : evs env cl.args.toList = some vs)
    (hall : appO first.toList vs captured.toList = some vall) (hp : PFn P f vall hs (.bool (decide p))) {own2 : List Heap} (h2 : appH hs rest = some own2) (hpp : ¬ p)
    (h : ChU P r F n all prot Q ds s ((d, .bool false) :: env) own2 an) : ChU P r F n all prot Q ds (.h false m :: s) env own an :=
  chu_P hi hd hg ho hc hx hvs hall hp h2 (by rw [decide_eq_false hpp]; exact h)
theorem chu_T {m d : Nat} {cl : Call} {x : Operand} {f : FuncId} {first captured : Array Value} {vs vall : List Value} {R : Ending → List Heap → Prop} [Enters P f]
    (hi : all[m]? = some o) (hd : o.dst = some d) (hg : wantedE all env o = some true) [t : TakeL own hs rest]
    (ho : o.op = .call cl) (hc : cl.callee = .value x) (hx : ev env x = some (.func (.func f) first captured)) (hvs : evs env cl.args.toList = some vs)
    (hall : appO first.toList vs captured.toList = some vall) (hp : T P f vall hs R) (hgr : ∀ (e : Ending) (own' : List Heap), R e own' → ∃ N, own' = hs ++ N)
    (h : ∀ (e : Ending) (own' : List Heap), R e own' → ∃ v own2, e = .returned v ∧ appH own' rest = some own2 ∧ ChU P r F n all prot Q ds s ((d, v) :: env) own2 an) : ChU P r F n all prot Q ds (.h false m :: s) env own an :=
  chu_h hi hd hg (hop_T ho hc hx hvs hall hp fun e own' hR => by obtain ⟨v, _, h1, _⟩ := h e own' hR; exact ⟨v, h1⟩)
    (fun _ v own' hR => by obtain ⟨N, rfl⟩ := hgr _ _ hR; exact ⟨N, List.Perm.refl _⟩) (fun h => by cases h) fun v own' hR => by
    obtain ⟨v', own2, h1, h2, h3⟩ := h _ own' hR
    cases h1; exact ⟨own2, h2, h3⟩
theorem chu_Tc {m d : Nat} {cl : Call} {x : Operand} {f : FuncId} {first captured : Array Value} {vs vall : List Value} {R : Ending → List Heap → Prop} [Enters P f]
    (hi : all[m]? = some o) (hd : o.dst = some d) (hg : wantedE all env o = some true) [t : TakeL own hs rest]
    (ho : o.op = .call cl) (hc : cl.callee = .value x) (hx : ev env x = some (.func (.func f) first captured)) (hvs : evs env cl.args.toList = some vs)
    (hall : appO first.toList vs captured.toList = some vall) (hp : T P f vall hs R) {rest2 : List Heap} [tp : TakeL rest prot rest2]
    (h : ∀ (e : Ending) (own' : List Heap), R e own' → ∃ v own2, e = .returned v ∧ appH own' rest = some own2 ∧ ChU P r F n all prot Q ds s ((d, v) :: env) own2 an) : ChU P r F n all prot Q ds (.h true m :: s) env own an :=
  chu_h hi hd hg (hop_T ho hc hx hvs hall hp fun e own' hR => by obtain ⟨v, _, h1, _⟩ := h e own' hR; exact ⟨v, h1⟩)
    (fun h => by cases h) (fun _ => .inl ⟨rest2, tp.perm⟩) fun v own' hR => by
    obtain ⟨v', own2, h1, h2, h3⟩ := h _ _ hR
    cases h1
    exact ⟨own2, h2, h3⟩
theorem chu_store {m : Nat} {t T : TypeId} {x y : Operand} {b off : Nat} {v : Value} {cs vs cs' : List Value} {d : TypeDesc} {z : Value} {ti : TypeInfo} [ty : Ty P t d z ti]
    (hi : all[m]? = some o) (hd : o.dst = none) (hg : wantedE all env o = some true) (ho : o.op = .store t x y) (hx : ev env x = some (.pointer (some ⟨b, off, none⟩))) (hy : ev env y = some v)
    (hv : cellsO v = some vs) (hsz : vs.length = ti.size) (h1 : vs.all (·.oneCell') = true) [at_ : At own b (.cells ⟨cs⟩ T (0, 0))] (hc : spliceO cs off vs = some cs') [tk : TakeL own [blk b (.cells ⟨cs⟩ T (0, 0))] rest] {rest2 : List Heap} [tp : TakeL rest prot rest2]
    (h : ChU P r F n all prot Q ds s env (blk b (.cells ⟨cs'⟩ T (0, 0)) :: rest) an) : ChU P r F n all prot Q ds (.h true m :: s) env own an :=
  chu_h0 hi hd hg (hop_store ho hx hy hv hsz h1 hc) grow_c (fun _ => .inl ⟨rest2, tp.perm⟩) fun v' own' hR => by
    subst hR; exact ⟨_, rfl, h⟩
/-- A store behind every other operation of the region: nothing needs to stay any more. -/
theorem chu_storeL {m : Nat} {t T : TypeId} {x y : Operand} {b off : Nat} {v : Value} {cs vs cs' : List Value} {d : TypeDesc} {z : Value} {ti : TypeInfo} [ty : Ty P t d z ti]
    (hi : all[m]? = some o) (hl : lastB all m = true) (hd : o.dst = none) (hg : wantedE all env o = some true) (ho : o.op = .store t x y) (hx : ev env x = some (.pointer (some ⟨b, off, none⟩))) (hy : ev env y = some v)
    (hv : cellsO v = some vs) (hsz : vs.length = ti.size) (h1 : vs.all (·.oneCell') = true) [at_ : At own b (.cells ⟨cs⟩ T (0, 0))] (hc : spliceO cs off vs = some cs') [tk : TakeL own [blk b (.cells ⟨cs⟩ T (0, 0))] rest]
    (h : ChU P r F n all prot Q ds s env (blk b (.cells ⟨cs'⟩ T (0, 0)) :: rest) an) : ChU P r F n all prot Q ds (.h true m :: s) env own an :=
  chu_h0 hi hd hg (hop_store ho hx hy hv hsz h1 hc) grow_c (fun _ => .inr hl) fun v' own' hR => by
    subst hR; exact ⟨_, rfl, h⟩
theorem chu_append {m : Nat} {t e : TypeId} {sz bytes : Nat} {cl : Call} {x y : Operand} {hh hn : Heap} {base : Option Addr} {len cap mm mc d : Nat} {cs news : List Value} {a : Addr} [g : TyG P t e sz bytes]
    (hi : all[m]? = some o) (hd : o.dst = some d) (hg : wantedE all env o = some true)
    (ho : o.op = .call cl) (hc : cl.callee = .builtin .append) (hax : cl.args = #[x, y]) (hat : cl.argTypes = #[t, t])
    (hx : ev env x = some (.slice base len cap)) (hy : ev env y = some (.slice (some a) mm mc)) [sa : SlAt own (some a) hn news] (os : OS hh base len cap e sz cs) [tk : TakeL own [hh, hn] rest] {rest2 : List Heap} [tp : TakeL rest prot rest2]
    (hm : 0 < mm) (hnl : news.length = mm * sz) (hpos : 0 < sz) (h1 : news.all (·.oneCell') = true) (hroom : (len + mm) * bytes ≤ 70368744177664) (hlen : len + mm ≤ 70368744177664)
    (h : ∀ h' base' cap', OS h' base' (len + mm) cap' e sz (cs ++ news) → ChU P r F n all prot Q ds s ((d, .slice base' (len + mm) cap') :: env) (h' :: hn :: rest) an) : ChU P r F n all prot Q ds (.h true m :: s) env own an :=
  chu_h hi hd hg (hop_append ho hc hax hat hx hy sa.sl os hm hnl hpos h1 hroom hlen) grow_c (fun _ => .inl ⟨rest2, tp.perm⟩) fun v own' hR => by
    obtain ⟨h', b', c', rfl, rfl, os'⟩ := hR; exact ⟨_, rfl, h h' b' c' os'⟩
theorem chu_callW {m d : Nat} {cl : Call} {x : Operand} {f : FuncId} {first captured : Array Value} {vs vall : List Value} {R : Ending → List Heap → Prop} [Enters P f]
    (hi : all[m]? = some o) (hd : o.dst = some d) (hg : wantedE all env o = some true)
    (ho : o.op = .call cl) (hc : cl.callee = .value x) (hx : ev env x = some (.func (.func f) first captured)) (hvs : evs env cl.args.toList = some vs)
    (hall : appO first.toList vs captured.toList = some vall) (hp : T P f vall own fun e o => ∃ N, o = own ++ N ∧ R e N)
    (h : ∀ (e : Ending) (N : List Heap), R e N → ∃ v own2, e = .returned v ∧ appH own N = some own2 ∧ ChU P r F n all prot Q ds s ((d, v) :: env) own2 an) : ChU P r F n all prot Q ds (.h false m :: s) env own an := by
  haveI : TakeL own own [] := ⟨by simp⟩
  refine chu_T hi hd hg ho hc hx hvs hall hp (fun e o ⟨N, h1, _⟩ => ⟨N, h1⟩) fun e o hR => ?_
  obtain ⟨N, rfl, hR⟩ := hR
  obtain ⟨v, own2, h1, h2, h3⟩ := h e N hR
  exact ⟨v, own2, h1, by rw [appH_nil, appH_eq h2], h3⟩
theorem chu_storeE {m : Nat} {t T : TypeId} {x y : Operand} {base : Option Addr} {k len cap sz : Nat} {h : Heap} {v : Value} {cs vs cs' : List Value} {d : TypeDesc} {z : Value} {ti : TypeInfo} [ty : Ty P t d z ti]
    (hi : all[m]? = some o) (hd : o.dst = none) (hg : wantedE all env o = some true) (ho : o.op = .store t x y) (hx : ev env x = some (ept base k)) (hy : ev env y = some v) (os : OS h base len cap T sz cs) [tk : TakeL own [h] rest] {rest2 : List Heap} [tp : TakeL rest prot rest2]
    (hv : cellsO v = some vs) (hsz : vs.length = ti.size) (h1 : vs.all (·.oneCell') = true) (hpos : 0 < vs.length) (hk : k + vs.length ≤ cs.length) (hc : cs.take k ++ vs ++ cs.drop (k + vs.length) = cs')
    (next : ∀ h', OS h' base len cap T sz cs' → ChU P r F n all prot Q ds s env (h' :: rest) an) : ChU P r F n all prot Q ds (.h true m :: s) env own an :=
  chu_h0 hi hd hg (hop_storeE os ho hx hy hv hsz h1 hpos hk hc.symm) grow_c (fun _ => .inl ⟨rest2, tp.perm⟩) fun v' own' hR => by
    obtain ⟨h', rfl, os'⟩ := hR; exact ⟨_, rfl, next h' os'⟩
theorem chu_PW {m d : Nat} {cl : Call} {x : Operand} {f : FuncId} {first captured : Array Value} {vs vall : List Value} {v : Value} [Enters P f]
    (hi : all[m]? = some o) (hd : o.dst = some d) (hg : wantedE all env o = some true)
    (ho : o.op = .call cl) (hc : cl.callee = .value x) (hx : ev env x = some (.func (.func f) first captured)) (hvs : evs env cl.args.toList = some vs)
    (hall : appO first.toList vs captured.toList = some vall) (hp : PFn P f vall own v) (h : ChU P r F n all prot Q ds s ((d, v) :: env) own an) : ChU P r F n all prot Q ds (.h false m :: s) env own an := by
  haveI : TakeL own own [] := ⟨by simp⟩
  exact chu_P hi hd hg ho hc hx hvs hall hp appH_nil h
theorem chu_appendK {cb : Bool} {m : Nat} {t e : TypeId} {sz bytes : Nat} {cl : Call} {x y : Operand} {K : Heap} {base yb : Option Addr} {len mm mc d : Nat} {cs news : List Value} [g : TyG P t e sz bytes]
    (hi : all[m]? = some o) (hd : o.dst = some d) (hg : wantedE all env o = some true)
    (ho : o.op = .call cl) (hc : cl.callee = .builtin .append) (hax : cl.args = #[x, y]) (hat : cl.argTypes = #[t, t])
    (hx : ev env x = some (.slice base len len)) (hy : ev env y = some (.slice yb mm mc)) (sb : Sl K base cs) (sa : Sl K yb news) [tk : TakeL own [K] rest] {rest2 : List Heap} [tp : TakeL rest prot rest2]
    (hcl : cs.length = len * sz) (hnl : news.length = mm * sz) (hpos : 0 < sz) (hroom : (len + mm) * bytes ≤ 35184372088832) (hlen : len + mm ≤ 35184372088832)
    (h : ∀ h' base' cap', SlIn [h', K] base' (cs ++ news) → ChU P r F n all prot Q ds s ((d, .slice base' (len + mm) cap') :: env) (h' :: K :: rest) an) : ChU P r F n all prot Q ds (.h cb m :: s) env own an :=
  chu_h hi hd hg (hop_appendK ho hc hax hat hx hy sb sa hcl hnl hpos hroom hlen) (fun _ v own' hR => by
    obtain ⟨h', b', c', rfl, rfl, os'⟩ := hR
    exact ⟨[h'], List.Perm.swap _ _ _⟩) (fun _ => .inl ⟨rest2, tp.perm⟩) fun v own' hR => by
    obtain ⟨h', b', c', rfl, rfl, os'⟩ := hR; exact ⟨_, rfl, h h' b' c' os'⟩
theorem hopz_T {c : Call} {x : Operand} {f : FuncId} {first captured : Array Value} {vs vall : List Value} {hs : List Heap} {R : Ending → List Heap → Prop} [Enters P f]
    (ho : o.op = .call c) (hc : c.callee = .value x) (hx : ev env x = some (.func (.func f) first captured)) (hvs : evs env c.args.toList = some vs)
    (hall' : appO first.toList vs captured.toList = some vall) (h : T P f vall hs R) (hret : ∀ e own', R e own' → (∃ v, e = .returned v) ∨ ∃ ch, e = .panicked ch) :
    HOpZ P hs n o env (fun v own' => R (.returned v) own') (fun ch own' => R (.panicked ch) own') := by
  have hall := appO_eq hall'
  refine ⟨by rw [ho]; rfl, fun a w X ha hS => ⟨w, .inr (.inr (.inl ⟨f, _, run_call ha ho hc hx hvs w, ?_⟩))⟩⟩
  have e : first ++ vs.toArray ++ captured = vall.toArray := by rw [← hall]; simp
  rw [e]
  refine (h w X hS).mono ?_
  rintro e w' ⟨own', s2, hR⟩
  rcases hret e own' hR with ⟨v, rfl⟩ | ⟨ch, rfl⟩
  · exact .inl ⟨v, own', rfl, s2, hR⟩
  · exact .inr ⟨ch, own', rfl, s2, hR⟩
/-- A call that may panic. -/
theorem chu_Z {c : Bool} {m d : Nat} {cl : Call} {x : Operand} {f : FuncId} {first captured : Array Value} {vs vall : List Value} {R : Ending → List Heap → Prop} [Enters P f]
    (hi : all[m]? = some o) (hd : o.dst = some d) (hg : wantedE all env o = some true)
    (ho : o.op = .call cl) (hc : cl.callee = .value x) (hx : ev env x = some (.func (.func f) first captured)) (hvs : evs env cl.args.toList = some vs)
    (hall : appO first.toList vs captured.toList = some vall) [t : TakeL own hs rest] (hp : T P f vall hs R)
    (hgr : c = false → ∀ e own', R e own' → ∃ N, own'.Perm (hs ++ N)) (hpc : c = true → (∃ Y, rest.Perm (prot ++ Y)) ∨ lastB all m = true)
    (h : ∀ e own', R e own' → (∃ v own2, e = .returned v ∧ appH own' rest = some own2 ∧ ChU P r F n all prot Q ds s ((d, v) :: env) own2 an) ∨ (∃ ch own2, e = .panicked ch ∧ appH own' rest = some own2 ∧ Q (.panic ch) [] own2 ds)) : ChU P r F n all prot Q ds (.h c m :: s) env own an := by
  refine ⟨o, hs, rest, _, _, hi, t.perm, .inl ⟨hg, hopz_T ho hc hx hvs hall hp fun e own' hR => ?_⟩, fun hc v own' hR => hgr hc _ own' hR, hpc, fun v own' hR => ?_, fun ch own' hR => ?_⟩
  · rcases h e own' hR with ⟨v, _, h1, _⟩ | ⟨ch, _, h1, _⟩
    · exact .inl ⟨v, h1⟩
    · exact .inr ⟨ch, h1⟩
  · rcases h _ own' hR with ⟨v', own2, h1, h2, h3⟩ | ⟨ch, _, h1, _⟩
    · cases h1
      have : extE all m v env = (d, v) :: env := by simp only [extE, hi, Option.bind_some, hd]
      rw [this, ← appH_eq h2]; exact h3
    · cases h1
  · rcases h _ own' hR with ⟨v', own2, h1, h2, h3⟩ | ⟨ch', own2, h1, h2, h3⟩
    · cases h1
    · cases h1; rw [← appH_eq h2]; exact h3
end
end Go.SL.DZ
end
section
/- Strings; bytes. -/
namespace Go.SL
/-- A string of these bytes. -/
abbrev str (l : List UInt8) : Value := .string ⟨⟨l⟩⟩
/-- Bytes as cells. -/
def u8s (l : List UInt8) : List Value := l.map fun x => .int .u8 (x.toNat : Int)
@[simp] theorem u8s_length (l : List UInt8) : (u8s l).length = l.length := by simp [u8s]
theorem u8s_append (l m : List UInt8) : u8s (l ++ m) = u8s l ++ u8s m := by simp [u8s]
theorem u8s_get {l : List UInt8} {k : Nat} {x : UInt8} (h : l[k]? = some x) : (u8s l)[k]? = some (.int .u8 (x.toNat : Int)) := by simp [u8s, h]
section
variable {P : Program} {own : List Heap} {n : Nat} {env : Env} {o : Oper}
theorem opv_lenS {t : TypeId} {z : Value} {i : TypeInfo} {c : Call} {x : Operand} {l : List UInt8} [h1 : Ty P t .string z i] (ho : o.op = .call c) (hc : c.callee = .builtin .len) (hax : c.args = #[x]) (hat : c.argTypes = #[t])
    (hx : ev env x = some (str l)) : OpV P own n o env (.int .i64 (l.length : Int)) :=
  opv_run (by rw [ho]; rfl) fun a w ha => by
    have hs : (⟨⟨l⟩⟩ : ByteArray).size = l.length := rfl
    simp [execOp, ho, resolve, hc, hax, hat, invoke, builtin, Builtin.len_, ha.eval hx, run_und h1.u, goInt, hs]
theorem opv_indexS {t : TypeId} {z : Value} {i : TypeInfo} {x ix : Operand} {k : IntKind} {j : Int} {l : List UInt8} {b : UInt8} [h1 : Ty P t .string z i] (ho : o.op = .index t x ix) (hx : ev env x = some (str l)) (hi : ev env ix = some (.int k j))
    (h0 : 0 ≤ j) (hb : l[j.toNat]? = some b) : OpV P own n o env (.int .u8 (b.toNat : Int)) :=
  opv_run (by rw [ho]; rfl) fun a w ha => by
    have hlt : j.toNat < l.length := (List.getElem?_eq_some_iff.1 hb).1
    have e : (⟨⟨l⟩⟩ : ByteArray)[j.toNat]? = some b := by
      rw [ByteArray.getElem?_lt' _ _ (by simpa [ByteArray.size] using hlt)]
      rw [← hb, List.getElem?_eq_getElem hlt]; rfl
    simp [execOp, ho, ha.eval hx, ha.eval hi, Instr.index, asIntOf, run_und h1.u, h0, e]
theorem opv_addS {t u : TypeId} {x y : Operand} {l m : List UInt8} (ho : o.op = .binOp .add t x y u) (hx : ev env x = some (str l)) (hy : ev env y = some (str m)) (hb : l.length + m.length ≤ 9223372036854775807) : OpV P own n o env (str (l ++ m)) :=
  opv_run (by rw [ho]; rfl) fun c w ha => by
    have hg : ∀ w, (eqGuard .add t x y (str l) (str m)).run P w = .ok () w := fun w => by simp [eqGuard]
    have h1 := run_string_add_sum (P := P) (w := w) ⟨⟨l⟩⟩ ⟨⟨m⟩⟩ (by simpa [ByteArray.size] using hb)
    have h2 : (⟨⟨l⟩⟩ : ByteArray) ++ ⟨⟨m⟩⟩ = ⟨⟨l ++ m⟩⟩ := ByteArray.mk_append_mk l m
    rw [h2] at h1
    simp only [execOp, ho, ha.eval hx, ha.eval hy]
    simp [hg, binOp, h1]
theorem opv_eqlStr {t u : TypeId} {x y : Operand} {l m : List UInt8} (ho : o.op = .binOp .eql t x y u) (hx : ev env x = some (str l)) (hy : ev env y = some (str m)) : OpV P own n o env (.bool (decide (l = m))) :=
  opv_run (by rw [ho]; rfl) fun c w ha => by
    have hg : ∀ w, (eqGuard .eql t x y (str l) (str m)).run P w = .ok () w := fun w => by simp [eqGuard]
    have e : ((⟨⟨l⟩⟩ : ByteArray).toList == (⟨⟨m⟩⟩ : ByteArray).toList) = decide (l = m) := by rw [ByteArray.toList_eq, ByteArray.toList_eq]; rw [Bool.eq_iff_iff]; simp
    simp only [execOp, ho, ha.eval hx, ha.eval hy]
    simp only [binOp_string_eql, e]
    simp [hg]
theorem opv_neqStr {t u : TypeId} {x y : Operand} {l m : List UInt8} (ho : o.op = .binOp .neq t x y u) (hx : ev env x = some (str l)) (hy : ev env y = some (str m)) : OpV P own n o env (.bool (decide (l ≠ m))) :=
  opv_run (by rw [ho]; rfl) fun c w ha => by
    have hg : ∀ w, (eqGuard .neq t x y (str l) (str m)).run P w = .ok () w := fun w => by simp [eqGuard]
    have e : (!(⟨⟨l⟩⟩ : ByteArray).toList == (⟨⟨m⟩⟩ : ByteArray).toList) = decide (l ≠ m) := by rw [ByteArray.toList_eq, ByteArray.toList_eq]; rw [Bool.eq_iff_iff]; simp
    simp only [execOp, ho, ha.eval hx, ha.eval hy]
    simp only [binOp_string_neq, e]
    simp [hg]
theorem run_sliceStr {t : TypeId} {l : List UInt8} {lo hi : Nat} (h : P.underlying t = some .string) (h1 : lo ≤ hi) (h2 : hi ≤ l.length) (vlo vhi : Option Value) (w : World)
    (hvl : vlo = none ∧ lo = 0 ∨ ∃ k, vlo = some (.int k (lo : Int))) (hvh : vhi = none ∧ hi = l.length ∨ ∃ k, vhi = some (.int k (hi : Int))) :
    (Instr.slice t (str l) vlo vhi none).run P w = .ok (str ((l.take hi).drop lo)) w := by
  have hs : (⟨⟨l⟩⟩ : ByteArray).size = l.length := rfl
  have hb : (Instr.sliceBounds false (⟨⟨l⟩⟩ : ByteArray).size (⟨⟨l⟩⟩ : ByteArray).size vlo vhi none).run P w = .ok (lo, hi, l.length) w := by
    rcases hvl with ⟨rfl, rfl⟩ | ⟨k, rfl⟩ <;> rcases hvh with ⟨rfl, rfl⟩ | ⟨k2, rfl⟩
    · simp [Instr.sliceBounds, hs]
    · simp [Instr.sliceBounds, hs, run_bound (P := P) (k := k2) (j := (hi : Int)) (y := l.length) (by omega) (by omega)]
    · simp [Instr.sliceBounds, hs, run_bound (P := P) (k := k) (j := (lo : Int)) (y := l.length) (by omega) (by omega)]
    · have e1 : ((lo : Int)).toNat = lo := by simp
      simp [Instr.sliceBounds, hs, run_bound (P := P) (k := k2) (j := (hi : Int)) (y := l.length) (by omega) (by omega), run_bound (P := P) (k := k) (j := (lo : Int)) (y := hi) (by omega) (by omega)]
  have he : (⟨⟨l⟩⟩ : ByteArray).extract lo hi = ⟨⟨(l.take hi).drop lo⟩⟩ := by
    apply ByteArray.ext
    simp [List.drop_take]
  unfold Instr.slice
  simp [run_und h, hb, he]
theorem opv_sliceStr {t : TypeId} {z : Value} {i : TypeInfo} {x : Operand} {l : List UInt8} {lo hi : Nat} {xlo xhi : Option Operand} [h1 : Ty P t .string z i] (ho : o.op = .slice t x xlo xhi none) (hx : ev env x = some (str l))
    (hl : xlo = none ∧ lo = 0 ∨ ∃ y k, xlo = some y ∧ ev env y = some (.int k (lo : Int))) (hh : xhi = none ∧ hi = l.length ∨ ∃ y k, xhi = some y ∧ ev env y = some (.int k (hi : Int))) (h2 : lo ≤ hi) (h3 : hi ≤ l.length) :
    OpV P own n o env (str ((l.take hi).drop lo)) :=
  opv_run (by rw [ho]; rfl) fun a w ha => by
    have := run_sliceStr (P := P) (t := t) (l := l) h1.u h2 h3 (xlo.map a.eval) (xhi.map a.eval) w
      (by rcases hl with ⟨rfl, h⟩ | ⟨y, k, rfl, h⟩
          · exact .inl ⟨rfl, h⟩
          · exact .inr ⟨k, by simp [ha.eval h]⟩)
      (by rcases hh with ⟨rfl, h⟩ | ⟨y, k, rfl, h⟩
          · exact .inl ⟨rfl, h⟩
          · exact .inr ⟨k, by simp [ha.eval h]⟩)
    simp only [execOp, ho, ha.eval hx]
    simp only [Option.map_none, Instr.sliceAt]
    simp [run_und h1.u, this]
theorem opv_sliceSHi {t : TypeId} {z : Value} {i : TypeInfo} {x y : Operand} {l : List UInt8} {k : IntKind} {j : Int} [h1 : Ty P t .string z i] (ho : o.op = .slice t x none (some y) none) (hx : ev env x = some (str l)) (hy : ev env y = some (.int k j))
    (h0 : 0 ≤ j) (h3 : j ≤ l.length) : OpV P own n o env (str (l.take j.toNat)) :=
  opv_sliceStr (lo := 0) (hi := j.toNat) ho hx (.inl ⟨rfl, rfl⟩) (.inr ⟨y, k, rfl, by rw [hy]; simp [Int.toNat_of_nonneg h0]⟩) (Nat.zero_le _) (by omega)
theorem opv_sliceSLo {t : TypeId} {z : Value} {i : TypeInfo} {x y : Operand} {l : List UInt8} {k : IntKind} {j : Int} [h1 : Ty P t .string z i] (ho : o.op = .slice t x (some y) none none) (hx : ev env x = some (str l)) (hy : ev env y = some (.int k j))
    (h0 : 0 ≤ j) (h3 : j ≤ l.length) : OpV P own n o env (str (l.drop j.toNat)) :=
  (opv_sliceStr (lo := j.toNat) (hi := l.length) ho hx (.inr ⟨y, k, rfl, by rw [hy]; simp [Int.toNat_of_nonneg h0]⟩) (.inl ⟨rfl, rfl⟩) (by omega) (Nat.le_refl _)).to (by rw [List.take_length])
/-- Bytes as a string. -/
theorem opv_toStr {s t e : TypeId} {sz len cap : Nat} {x : Operand} {base : Option Addr} {l : List UInt8} {z z2 : Value} {i i2 : TypeInfo} [h1 : TyE P s e sz] [h2 : Ty P e (.int .u8) z i] [h3 : Ty P t .string z2 i2]
    (ho : o.op = .convert s t x) (hx : ev env x = some (.slice base len cap)) (m : SlIn own base (u8s l)) (hl : l.length = len) : OpV P own n o env (str l) :=
  ⟨by rw [ho]; rfl, fun a w X ha hs => ⟨w, hs, .inl (by
    subst hl
    simp only [execOp, ho, ha.eval hx]
    cases base with
    | none =>
      have hl : l = [] := by
        cases l with
        | nil => rfl
        | cons b l =>
          obtain ⟨a', e1, -⟩ := m.cell hs (k := 0) (v := .int .u8 (b.toNat : Int)) (by simp [u8s])
          cases e1
      subst hl
      simp [convert, run_und h1.u, run_und h2.u, run_und h3.u, Conv.bytesToString]
      rfl
    | some ad =>
      have hc : ∀ j (hj : j < l.length), w.cell? (ad.add j) = some (.int .u8 (l[j].toNat : Int)) := fun j hj => by
        obtain ⟨a', e1, e2, e3⟩ := m.cell hs (u8s_get (List.getElem?_eq_getElem hj))
        cases e1
        obtain ⟨b, off, sp⟩ := ad
        simp only at e2; subst e2
        rw [addr_add]; exact e3
      have := run_convert_bytes_back (P := P) w s t e ad cap l h1.u h2.u h3.u hc
      simp [this])⟩⟩
end
/-- A new block, whatever is frozen in it. -/
theorem sat_allocF {hs : List Heap} {w : World} (s : Sat hs w) (o : Obj) : Sat (blk w.heap.size o :: hs) { w with heap := w.heap.push o } := by
  have hn : ({ w with heap := w.heap.push o } : World).heap[w.heap.size]? = some o := by simp
  have ho : wh w (.b w.heap.size) = none := by simp [wh]
  refine ⟨fun h hm => ?_, List.pairwise_cons.2 ⟨fun h hm b o1 o2 h1 h2 => ?_, s.dj⟩⟩
  · rcases List.mem_cons.1 hm with rfl | hm
    · rw [hle_blk]; exact wh_b.2 hn
    · exact (s.le h hm).trans (hle_push w o)
  · obtain ⟨rfl, -⟩ := blk_eq h1
    have := s.le h hm _ o2 h2
    rw [ho] at this; cases this
section
variable {P : Program} {r : Option Nat} {F : Heap} {n : Nat} {Q : SPost} {env : Env} {own rest hs : List Heap} {ds : List Deferred} {all : Array Oper} {l : List Oper} {o : Oper}
/-- A string as bytes: a new block. -/
theorem sl_toBytes {s t e : TypeId} {sz : Nat} {x : Operand} {bs : List UInt8} {d : Nat} {z z2 : Value} {i i2 : TypeInfo} [h1 : TyE P t e sz] [h2 : Ty P e (.int .u8) z i] [h3 : Ty P s .string z2 i2]
    (hd : o.dst = some d) (hn : Nat.blt d n = true) (hg : wantedE all env o = some true) (ho : o.op = .convert s t x) (hx : ev env x = some (str bs))
    (next : ∀ b cap m, bs.length ≤ cap → bs.length + m = cap → SOL false P r F n all l Q ((d, .slice (some ⟨b, 0, none⟩) bs.length cap) :: env) (blk b (.cells ⟨u8s bs ++ List.replicate m (.int .u8 0)⟩ e (cap, cap + 1)) :: own) ds) :
    SOL false P r F n all (o :: l) Q env own ds := by
  refine sl_turn hd hn hg (by rw [ho]; rfl) fun A w hA hs => ?_
  have hrun := run_bytes_of_string (P := P) w s t e ⟨⟨bs⟩⟩ h3.u h1.u h2.u
  have hsz : (⟨⟨bs⟩⟩ : ByteArray).size = bs.length := rfl
  have hcap : bs.length ≤ grownCap w bs.length 0 e := by simp [grownCap, Question.cut]
  have hrow : bytesRow ⟨⟨bs⟩⟩ (grownCap w bs.length 0 e) = ⟨u8s bs ++ List.replicate (grownCap w bs.length 0 e - bs.length) (.int .u8 0)⟩ := by
    apply Array.ext'
    simp [bytesRow, u8s, hsz]
  have hrs : (bytesRow ⟨⟨bs⟩⟩ (grownCap w bs.length 0 e)).size = grownCap w bs.length 0 e := by rw [hrow]; simp; omega
  rw [hsz, hrs, hrow] at hrun
  refine ⟨_, w.drew.alloc (.cells ⟨u8s bs ++ List.replicate (grownCap w bs.length 0 e - bs.length) (.int .u8 0)⟩ e (grownCap w bs.length 0 e, grownCap w bs.length 0 e + 1)), blk w.heap.size (.cells ⟨u8s bs ++ List.replicate (grownCap w bs.length 0 e - bs.length) (.int .u8 0)⟩ e (grownCap w bs.length 0 e, grownCap w bs.length 0 e + 1)) :: own, ?_, ?_, next w.heap.size (grownCap w bs.length 0 e) (grownCap w bs.length 0 e - bs.length) hcap (by omega)⟩
  · simp only [execOp, ho, hA.eval hx]
    simp [hrun]
  · have s2 : Sat (F :: own) w.drew := hs.heap rfl rfl rfl
    exact (sat_allocF s2 _).swap
/-- A literal's bytes, and the mark behind them. -/
theorem sl_buildMark {o2 : Oper} {t e : TypeId} {sz bytes len : Nat} {ps : Array (Nat × Operand)} {qs : List (Nat × Value)} {zv : Value} {zc zs cs : List Value} {d d2 : Nat} {ti : TypeInfo} [g : TyG P t e sz bytes] [h2 : Ty P e (.int .u8) zv ti]
    (hd : o.dst = some d) (hn : Nat.blt d n = true) (hg : wantedE all env o = some true) (ho : o.op = .buildSlice t len ps) (hp : evps env ps.toList = some qs)
    (hzc : cellsO zv = some zc) (hzl : zc.length = sz) (hz : zrep len zc = some zs) (hb : buildO (fun i => some (i * sz, sz)) zs qs = some cs) (hbig : Nat.ble (len * sz) 16777216 = true)
    (hd2 : o2.dst = some d2) (hn2 : Nat.blt d2 n = true) (hg2 : o2.guard = none) (ho2 : o2.op = .convert t t (.tmp d))
    (next : ∀ b, SOL false P r F n all l Q ((d2, .slice (some ⟨b, 0, none⟩) len len) :: (d, .slice (some ⟨b, 0, none⟩) len len) :: env) (blk b (.cells ⟨cs⟩ e (cs.length, cs.length + 1)) :: own) ds) :
    SOL false P r F n all (o :: o2 :: l) Q env own ds := by
  intro k hk
  obtain ⟨i, k', rfl, hi, hk'⟩ := unl hk
  obtain ⟨j, k2, rfl, hj, hk2⟩ := unl hk'
  obtain ⟨hp1, -, hnew⟩ := new_buildSlice (P := P) (n := n) (env := env) (o := o) ho hp hzc hzl hz hb hbig
  intro a w ha hds hs
  have hw1 := hnew a w ha
  rw [wpOpsIn_cons]
  simp only [wpOpIn, hi, wanted_of ha hg, if_true]
  refine ⟨fun f _ => by simp, ?_⟩
  rw [fen_round, semAt_plain hp1, hw1, Oper.uponIn_value, hd]
  have ha2 := ha.put (.slice (some ⟨w.heap.size, 0, none⟩) len len) (Nat.le_of_ble_eq_true hn)
  have hw2 : wantedE all ((d, .slice (some ⟨w.heap.size, 0, none⟩) len len) :: env) o2 = some true := by simp [wantedE, hg2]
  have hx : (a.put (some d) (.slice (some ⟨w.heap.size, 0, none⟩) len len)).eval (.tmp d) = .slice (some ⟨w.heap.size, 0, none⟩) len len := ha2.eval (x := .tmp d) (look_cons_self _ _ _)
  have hrun := Lib.run_convert_bytes_const (P := P) w t e ⟨cs⟩ len len g.all.choose_spec.choose_spec.1 h2.u
  have hpl2 : plainOp o2.op = true := by rw [ho2]; rfl
  rw [wpOpsIn_cons]
  simp only [wpOpIn, hj, wanted_of ha2 hw2, if_true]
  refine ⟨fun f _ => by simp, ?_⟩
  have he : (execOp (a.put (some d) (.slice (some ⟨w.heap.size, 0, none⟩) len len)).eval o2).run P { w with heap := w.heap.push (.cells ⟨cs⟩ e (0, 0)) } = .ok (.value (.slice (some ⟨w.heap.size, 0, none⟩) len len)) (w.alloc (.cells ⟨cs⟩ e ((⟨cs⟩ : Array Value).size, (⟨cs⟩ : Array Value).size + 1))) := by
    simp only [execOp, ho2, hx]
    show (do pure (Next.value (← convert t t (.slice (some ⟨w.heap.size, 0, none⟩) len len))) : Sem Next).run P (w.alloc (.cells ⟨cs⟩ e)) = _
    simp [hrun]
  rw [fen_round, semAt_plain hpl2, he, Oper.uponIn_value, hd2]
  exact next w.heap.size k2 hk2 _ _ (ha2.put _ (Nat.le_of_ble_eq_true hn2)) hds (sat_allocF hs _).swap
end
end Go.SL
end
section
/- Deferred functions; recover. -/
namespace Go.SL
/-- A function whose body leaves deferred calls behind: what becomes of these. -/
def LvD (P : Program) (fn : Func) (n : Nat) (Q : Ending → List Heap → Prop) (u : FrameMode) (env : Env) (own : List Heap) (ds : List Deferred) : Prop :=
  ∀ a w X, Has n env a → a.defers = ds → Sat (own ++ X) w → LeavesInM Fence.wide 0 P fn a.tmps (fun e w' => ∃ own', Sat (own' ++ X) w' ∧ Q e own') ds u w
def bodyQD (P : Program) (fn : Func) (n : Nat) (Q : Ending → List Heap → Prop) : SPost
  | .normal, env, own, ds | .ret, env, own, ds => LvD P fn n Q .returning env own ds
  | .panic ch, env, own, ds => LvD P fn n Q (.panicking ch) env own ds
  | _, _, _, _ => False
theorem t_of_bodyD {P : Program} {f : FuncId} {fn : Func} {c : Code} {args : List Value} {hs : List Heap} {Q : Ending → List Heap → Prop} (hf : P.funcs[f]? = some fn) (hb : fn.body = some c)
    (hn : args.length ≤ fn.ntmps) (h : ∀ F, SWP P none F fn.ntmps c (bodyQD P fn fn.ntmps Q) (params args 0) hs []) : T P f args hs Q := by
  intro w X s
  have hX := sat_pair s
  refine (callsIn_wide (n := 0)).1 (callsIn_of_wp_marks hf hb trivial ?_)
  have ha : Has fn.ntmps (params args 0) { tmps := args.toArray ++ Array.replicate (fn.ntmps - args.toArray.size) undef, defers := [] } := by
    refine ⟨by simp; omega, fun i v hi => ?_⟩
    obtain ⟨-, h2⟩ := look_params args 0 i v hi
    simp only [Nat.sub_zero] at h2
    have hlt : i < args.length := (List.getElem?_eq_some_iff.1 h2).1
    rw [Array.getElem?_append_left (by simpa using hlt)]
    simpa using h2
  refine wpIn_mono (h (joins X) _ w ha rfl (sat_frame s)) fun e a w' ⟨he, env, own, h1, h2, h3⟩ => ?_
  have h2' : Sat (own ++ X) w' := sat_unframe hX h2
  cases e with
  | normal => exact h3 a w' X h1 rfl h2'
  | ret => exact h3 a w' X h1 rfl h2'
  | panic chain => exact h3 a w' X h1 rfl h2'
  | exit _ => exact h3.elim
  | goto _ => exact h3.elim
  | outgrown => exact absurd rfl he

/-- What a deferred function does, called so. -/
def TD (P : Program) (f : FuncId) (args : List Value) (hs : List Heap) (u : FrameMode) (R : Ending → FrameMode → List Heap → Prop) : Prop :=
  ∀ w X, Sat (hs ++ X) w → CallsDIn Fence.wide 0 P f args.toArray u w fun e u' w' => ∃ own, Sat (own ++ X) w' ∧ R e u' own

/-- One deferred function, that returns, and leaves the frame returning. -/
theorem lvd_one {P : Program} {fn : Func} {n : Nat} {Q : Ending → List Heap → Prop} {u : FrameMode} {env : Env} {own hs rest : List Heap} {g : FuncId} {dargs cap all : List Value} {R : Ending → FrameMode → List Heap → Prop} [Enters P g] [t : TakeL own hs rest]
    (hu : u ≠ .run) (hall : dargs ++ cap = all) (htd : TD P g all hs u R)
    (h : ∀ e u' own', R e u' own' → (∃ v, e = .returned v) ∧ settle u' = .returning ∧ ∃ v own2, ResOk P fn.results.toList (own' ++ rest) env n v ∧ (∀ X w, Sat ((own' ++ rest) ++ X) w → Sat (own2 ++ X) w) ∧ Q (.returned v) own2) :
    LvD P fn n Q u env own [{ target := .fn (.func g) cap.toArray, args := dargs.toArray }] := by
  intro a w X ha _ hs'
  refine ⟨hu, .inr ⟨fun hx => (by cases hx), .func g, cap.toArray, g, all.toArray, rfl, ?_, fun _ _ => trivial, ?_⟩⟩
  · have : (callFunc g (dargs.toArray ++ cap.toArray)).run P w = .ok (.enter g (dargs.toArray ++ cap.toArray)) w := Enters.run _ _
    simp only [invoke]
    rw [this, ← hall]; simp
  · have hp : (own ++ X).Perm (hs ++ (rest ++ X)) := by rw [← List.append_assoc]; exact t.perm.append_right X
    obtain ⟨h1, h2⟩ := htd w (rest ++ X) (hs'.perm hp)
    refine ⟨h1, fun c cs hc hroom => ?_⟩
    obtain ⟨e, u', w', fr, ⟨own', s2, hR⟩, hcomes, hk, hfn, hgo⟩ := h2 c cs hc hroom
    refine ⟨e, u', w', fr, ?_, hcomes, hk, hfn, hgo⟩
    obtain ⟨⟨v0, rfl⟩, hset, v, own2, hres, hsat, hq⟩ := h e u' own' hR
    show LeavesInM Fence.wide 0 P fn a.tmps _ [] (settle u') w'
    rw [hset]
    have s3 : Sat ((own' ++ rest) ++ X) w' := by rw [List.append_assoc]; exact s2
    exact ⟨v, hres fn a w' X rfl ha s3, own2, hsat X w' s3, hq⟩

/-- The end of a deferred function's body, that leaves no deferred calls. -/
def bodyQN (P : Program) (fn : Func) (n : Nat) (Q : Ending → List Heap → Prop) : SPost
  | .normal, env, own, ds | .ret, env, own, ds => ds = [] ∧ ∃ v own', ResOk P fn.results.toList own env n v ∧ (∀ X w, Sat (own ++ X) w → Sat (own' ++ X) w) ∧ Q (.returned v) own'
  | .panic ch, _, own, ds => ds = [] ∧ Q (.panicked ch) own
  | _, _, _, _ => False
section
variable {P : Program} {f : FuncId} {fn : Func} {c2 : Code} {args : List Value} {hs : List Heap} {Q : Ending → List Heap → Prop} {id : Nat} {ops : Array Oper} {o0 o1 : Oper} {cl : Call} {d0 d1 : Nat}
theorem td_recover {v : Value} {u u' : FrameMode} (hrec : ∀ (c₀ : Frame) cs, c₀.mode = u → (recoverD (c₀ :: cs) = some (v, { c₀ with mode := u' } :: cs)) ∨ (recoverD (c₀ :: cs) = none ∧ v = .nilIface ∧ u' = u))
    (hf : P.funcs[f]? = some fn) (hb : fn.body = some (.seq (.region id ops false) c2)) (hn : args.length ≤ fn.ntmps)
    (hops : ops.toList = [o0, o1]) (ho0 : o0.op = .call cl) (hc : cl.callee = .builtin .recover) (hcl : cl.args = #[]) (hd0 : o0.dst = some d0) (hg0 : o0.guard = none) (ho1 : o1.op = .assign (.tmp d0)) (hd1 : o1.dst = some d1) (hg1 : o1.guard = none)
    (hl0 : Nat.blt d0 fn.ntmps = true) (hl1 : Nat.blt d1 fn.ntmps = true)
    (h : ∀ F, SWP P none F fn.ntmps c2 (bodyQN P fn fn.ntmps Q) ((d1, v) :: (d0, v) :: params args 0) hs []) :
    TD P f args hs u fun e m own => m = u' ∧ Q e own := by
  intro w X s
  have hX := sat_pair s
  refine callsDIn_of_wpSIn hf hb trivial fun c₀ cs hu => ?_
  have ha : Has fn.ntmps (params args 0) { tmps := args.toArray ++ Array.replicate (fn.ntmps - args.toArray.size) undef, defers := [] } := by
    refine ⟨by simp; omega, fun i v hi => ?_⟩
    obtain ⟨-, h2⟩ := look_params args 0 i v hi
    simp only [Nat.sub_zero] at h2
    have hlt : i < args.length := (List.getElem?_eq_some_iff.1 h2).1
    rw [Array.getElem?_append_left (by simpa using hlt)]
    simpa using h2
  have hA : (({ tmps := args.toArray ++ Array.replicate (fn.ntmps - args.toArray.size) undef, defers := [] } : Act).put (some d0) v |>.put (some d1) v).defers = [] := rfl
  generalize ({ tmps := args.toArray ++ Array.replicate (fn.ntmps - args.toArray.size) undef, defers := [] } : Act) = A at ha hA ⊢
  have hsz : ops.size = 2 := by rw [← Array.length_toList, hops]; rfl
  have i0 : ops[0]? = some o0 := by rw [← Array.getElem?_toList, hops]; rfl
  have i1 : ops[1]? = some o1 := by rw [← Array.getElem?_toList, hops]; rfl
  -- behind the region
  have fin : ∀ cs' : List Frame, cs' = { c₀ with mode := u' } :: cs →
      c2.wpSIn Fence.wide 0 P (bodyPostS P fn c₀ cs fun e m w' => ∃ own, Sat (own ++ X) w' ∧ m = u' ∧ Q e own) ((A.put (some d0) v).put (some d1) v) cs' w := by
    rintro cs' rfl
    have ha2 := (ha.put v (Nat.le_of_ble_eq_true hl0)).put v (Nat.le_of_ble_eq_true hl1)
    refine wpSIn_of_wpIn rfl (wpIn_mono (h (joins X) _ w ha2 hA (sat_frame s)) fun e a w' ⟨he, env, own, h1, h2, h3⟩ => ?_)
    have h2' : Sat (own ++ X) w' := sat_unframe hX h2
    have ret : (a.defers = [] ∧ ∃ v own', ResOk P fn.results.toList own env fn.ntmps v ∧ (∀ X w, Sat (own ++ X) w → Sat (own' ++ X) w) ∧ Q (.returned v) own') →
        a.defers = [] ∧ ∃ m, ({ c₀ with mode := u' } :: cs : List Frame) = { c₀ with mode := m } :: cs ∧ ∃ r, (results fn a.tmps).run P w' = .ok r w' ∧ ∃ own, Sat (own ++ X) w' ∧ m = u' ∧ Q (.returned r) own := by
      rintro ⟨g1, r, own', g2, g3, g4⟩
      exact ⟨g1, u', rfl, r, g2 fn a w' X rfl h1 h2', own', g3 X w' h2', rfl, g4⟩
    cases e with
    | normal => exact ret h3
    | ret => exact ret h3
    | panic chain => exact ⟨h3.1, u', rfl, own, h2', rfl, h3.2⟩
    | exit _ => exact h3.elim
    | goto _ => exact h3.elim
    | outgrown => exact absurd rfl he
  have hr0 : (execOp A.eval o0).run P w = .ok .recover w := by simp [execOp, ho0, resolve, hc, invoke, builtin]
  have hw0 : ∀ B : Act, Region.wanted o0 (yielded ops B.tmps) = true := fun B => by simp [Region.wanted, hg0]
  have hw1 : ∀ B : Act, Region.wanted o1 (yielded ops B.tmps) = true := fun B => by simp [Region.wanted, hg1]
  refine wpSIn_seq (wpSIn_region ?_)
  rw [hsz]
  show wpOpsSIn Fence.wide 0 P ops _ [0, 1] A (c₀ :: cs) w
  have hr1 : (execOp (A.put (some d0) v).eval o1).run P w = .ok (.value v) w := by
    have := (ha.put v (Nat.le_of_ble_eq_true hl0)).eval (x := .tmp d0) (look_cons_self _ _ _)
    simp [execOp, ho1, this]
  have last : ∀ cs' : List Frame, cs' = { c₀ with mode := u' } :: cs → wpOpsSIn Fence.wide 0 P ops (Exit.thenS (c2.wpSIn Fence.wide 0 P (bodyPostS P fn c₀ cs fun e m w' => ∃ own, Sat (own ++ X) w' ∧ m = u' ∧ Q e own)) (bodyPostS P fn c₀ cs fun e m w' => ∃ own, Sat (own ++ X) w' ∧ m = u' ∧ Q e own)) [1] (A.put (some d0) v) cs' w := fun cs' hcs => by
    simp only [wpOpsSIn, i1]
    refine ⟨fun f _ => trivial, ?_⟩
    rw [if_pos (hw1 _), hr1]
    simp only [hd1]
    exact fin cs' hcs
  rw [wpOpsSIn]
  simp only [i0]
  refine ⟨fun f _ => trivial, ?_⟩
  rw [if_pos (hw0 _), hr0]
  rcases hrec c₀ cs hu with h1 | ⟨h1, rfl, rfl⟩
  · simp only [h1, hd0]
    exact last _ rfl
  · simp only [h1, hd0]
    exact last _ (by rw [← hu])
end
end Go.SL
end
section
/- Panics; deferred calls; interfaces; fields of structs; slices that grow, be they one's own or full. -/
namespace Go.SL
section
variable {P : Program} {r : Option Nat} {F : Heap} {n : Nat} {Q : SPost} {env : Env} {own rest hs : List Heap} {ds : List Deferred} {all : Array Oper} {l : List Oper} {o : Oper}
/-- A panic. -/
theorem sl_panic {x : Operand} {t : TypeId} {v : Value} (hg : wantedE all env o = some true) (ho : o.op = .panic x) (hx : ev env x = some (.iface t v))
    (h : Q (.panic [{ v := .iface t v, recovered := false }]) env own ds) : SOL false P r F n all (o :: l) Q env own ds := fun k hk => by
  obtain ⟨i, k', rfl, hi, hk'⟩ := unl hk
  intro a w ha hds hs
  rw [wpOpsIn_cons]
  simp only [wpOpIn, hi, wanted_of ha hg, if_true]
  refine ⟨fun f _ => by simp, ?_⟩
  have hp : plainOp o.op = true := by rw [ho]; rfl
  have hr : (execOp a.eval o).run P w = .halt (.panic (.iface t v)) w := by
    simp [execOp, ho, ha.eval hx, Instr.panic, goPanic, Sem.run, Result.andThen]
  rw [fen_round, semAt_plain hp, hr]
  exact Lift.mk (by simp) ha hds hs h
/-- A deferred call of a function value. -/
theorem sl_defer {c : Call} {x : Operand} {fv : Fn} {first captured : Array Value} {vs : List Value} (hd : o.dst = none) (hg : wantedE all env o = some true) (ho : o.op = .defer c) (hc : c.callee = .value x) (hx : ev env x = some (.func fv first captured))
    (hvs : evs env c.args.toList = some vs)
    (h : SOL false P none F n all l Q env own ({ target := .fn fv captured, args := first ++ vs.toArray } :: ds)) : SOL false P none F n all (o :: l) Q env own ds := fun k hk => by
  obtain ⟨i, k', rfl, hi, hk'⟩ := unl hk
  intro a w ha hds hs
  rw [wpOpsIn_cons]
  simp only [wpOpIn, hi, wanted_of ha hg, if_true]
  refine ⟨fun f _ => by simp, ?_⟩
  have h1 : c.args.map a.eval = vs.toArray := Array.ext' (by simpa using evs_eval ha hvs)
  have hr : (execOp a.eval o).run P w = .ok (.defer { target := .fn fv captured, args := first ++ vs.toArray }) w := by
    simp [execOp, ho, resolve, hc, ha.eval hx, h1, Deferred.ofValue]
  rw [fen_round]
  rw [Oper.semAt_none, hr, Oper.uponIn_defer, hd]
  refine h k' hk' _ w ⟨ha.size, ha.get⟩ ?_ hs
  simp [Act.put, hds]
end
section
variable {P : Program} {own : List Heap} {n : Nat} {env : Env} {o : Oper}
def noIface : TypeDesc → Bool
  | .interface _ => false
  | _ => true
theorem opv_makeInterface {t : TypeId} {d : TypeDesc} {z v : Value} {i : TypeInfo} {x : Operand} [ty : Ty P t d z i] (ho : o.op = .makeInterface t x) (hx : ev env x = some v) (hd : noIface d = true) : OpV P own n o env (.iface t v) :=
  opv_run (by rw [ho]; rfl) fun a w ha => by
    cases d <;> simp_all [execOp, ho, ha.eval hx, Instr.makeInterface, run_und ty.u, noIface]
/-- A type assertion that holds. -/
theorem opv_assertYes {t u : TypeId} {d : TypeDesc} {z v : Value} {i : TypeInfo} {x : Operand} [ty : Ty P t d z i] (ho : o.op = .typeAssert x u t true) (hx : ev env x = some (.iface t v)) (hd : noIface d = true) : OpV P own n o env (.tuple ⟨[v, .bool true]⟩) :=
  opv_run (by rw [ho]; rfl) fun a w ha => by
    cases d <;> simp_all [execOp, ho, ha.eval hx, Instr.typeAssert, run_und ty.u, noIface]
end
end Go.SL
end
section
/- Interfaces compared with nil; fields of structs; slices that grow, be they one's own or full. -/
namespace Go.SL
section
variable {P : Program} {own : List Heap} {n : Nat} {env : Env} {o : Oper}
theorem run_equal_nil {t : TypeId} {ms : Array (String × TypeId)} (h : P.underlying t = some (.interface ms)) (x : Value) (b : Bool) (hx : x = .nilIface ∧ b = true ∨ (∃ T v, x = .iface T v) ∧ b = false) (w : World) : (Op.equal t x .nilIface).run P w = .ok b w := by
  have h : (Op.equalIn 10000 t x .nilIface).run P w = .ok b w := by
    rw [show (10000 : Nat) = 9999 + 1 from rfl, Op.equalIn]
    rcases hx with ⟨rfl, rfl⟩ | ⟨⟨T, v, rfl⟩, rfl⟩ <;> simp [run_und h]
  exact h
theorem opv_ifNil {t u : TypeId} {ms : Array (String × TypeId)} {z : Value} {i : TypeInfo} {x : Operand} [ty : Ty P t (.interface ms) z i] (ho : o.op = .binOp .eql t x (.const .nilIface) u) (hx : ev env x = some .nilIface) : OpV P own n o env (.bool true) :=
  opv_run (by rw [ho]; rfl) fun a w ha => by
    have hg : (eqGuard .eql t x (.const .nilIface) .nilIface .nilIface).run P w = .ok () w := by simp [eqGuard]
    have hy : a.eval (.const .nilIface) = .nilIface := rfl
    simp only [execOp, ho, ha.eval hx, hy]
    simp [hg, binOp, run_equal_nil ty.u .nilIface true (.inl ⟨rfl, rfl⟩)]
theorem opv_ifNilN {t u : TypeId} {ms : Array (String × TypeId)} {z : Value} {i : TypeInfo} {x : Operand} [ty : Ty P t (.interface ms) z i] (ho : o.op = .binOp .neq t x (.const .nilIface) u) (hx : ev env x = some .nilIface) : OpV P own n o env (.bool false) :=
  opv_run (by rw [ho]; rfl) fun a w ha => by
    have hg : (eqGuard .neq t x (.const .nilIface) .nilIface .nilIface).run P w = .ok () w := by simp [eqGuard]
    have hy : a.eval (.const .nilIface) = .nilIface := rfl
    simp only [execOp, ho, ha.eval hx, hy]
    simp [hg, binOp, run_equal_nil ty.u .nilIface true (.inl ⟨rfl, rfl⟩)]
theorem opv_ifSome {t u T : TypeId} {v : Value} {ms : Array (String × TypeId)} {z : Value} {i : TypeInfo} {x : Operand} [ty : Ty P t (.interface ms) z i] (ho : o.op = .binOp .eql t x (.const .nilIface) u) (hx : ev env x = some (.iface T v)) : OpV P own n o env (.bool false) :=
  opv_run (by rw [ho]; rfl) fun a w ha => by
    have hg : (eqGuard .eql t x (.const .nilIface) (.iface T v) .nilIface).run P w = .ok () w := by simp [eqGuard]
    have hy : a.eval (.const .nilIface) = .nilIface := rfl
    simp only [execOp, ho, ha.eval hx, hy]
    simp [hg, binOp, run_equal_nil ty.u (.iface T v) false (.inr ⟨⟨T, v, rfl⟩, rfl⟩)]
theorem opv_ifSomeN {t u T : TypeId} {v : Value} {ms : Array (String × TypeId)} {z : Value} {i : TypeInfo} {x : Operand} [ty : Ty P t (.interface ms) z i] (ho : o.op = .binOp .neq t x (.const .nilIface) u) (hx : ev env x = some (.iface T v)) : OpV P own n o env (.bool true) :=
  opv_run (by rw [ho]; rfl) fun a w ha => by
    have hg : (eqGuard .neq t x (.const .nilIface) (.iface T v) .nilIface).run P w = .ok () w := by simp [eqGuard]
    have hy : a.eval (.const .nilIface) = .nilIface := rfl
    simp only [execOp, ho, ha.eval hx, hy]
    simp [hg, binOp, run_equal_nil ty.u (.iface T v) false (.inr ⟨⟨T, v, rfl⟩, rfl⟩)]
/-- A struct of one cell, loaded out of a slice. -/
theorem opv_load1 {t : TypeId} {x : Operand} {k : Nat} {base : Option Addr} {cs : List Value} {v : Value} [ty : TyA P t 1] (ho : o.op = .load t x) (hx : ev env x = some (ept base k)) (m : SlIn own base cs) (hv : cs[k]? = some v) : OpV P own n o env (.agg ⟨[v]⟩) :=
  opv_loadEA (vs := [v]) ho hx (Nat.succ_pos 0) rfl fun j w hj => by
    match j, hj with
    | 0, hj => simp at hj; subst hj; exact hv
/-- A field of a struct, of one cell. -/
theorem opv_field {t : TypeId} {fs : Array Field} {f : Field} {z v : Value} {i : TypeInfo} {x : Operand} {k : Nat} {cs : List Value} [ty : Ty P t (.struct fs) z i] (ho : o.op = .field t x k) (hx : ev env x = some (.agg ⟨cs⟩)) (hf : fs[k]? = some f)
    (h1 : aggD ((P.underlying f.type).getD .bool) = false) (h2 : (P.underlying f.type).isSome = true) (hv : nth cs f.offset = some v) : OpV P own n o env v :=
  opv_run (by rw [ho]; rfl) fun a w ha => by
    have hp : (Value.agg ⟨cs⟩).cells = ⟨cs⟩ := rfl
    simp [execOp, ho, ha.eval hx, Instr.field, run_und ty.u, hf, asAgg, run_partC w h1 h2 hv]
end
/-- A slice to which one may append: it is one's own, or full and only read. -/
inductive LB (h : Heap) (base : Option Addr) (len cap : Nat) (T : TypeId) (sz : Nat) (cs : List Value) : Prop
  | os (s : OS h base len cap T sz cs)
  | full (s : Sl h base cs) (hl : cs.length = len * sz) (h1 : cap = len) (h2 : 0 < len)
theorem LB.sl {h : Heap} {base : Option Addr} {len cap : Nat} {T : TypeId} {sz : Nat} {cs : List Value} (s : LB h base len cap T sz cs) : Sl h base cs := by
  cases s with
  | os s => exact s.sl
  | full s => exact s
theorem LB.hlen {h : Heap} {base : Option Addr} {len cap : Nat} {T : TypeId} {sz : Nat} {cs : List Value} (s : LB h base len cap T sz cs) : cs.length = len * sz := by
  cases s with
  | os s => exact s.hlen
  | full _ h => exact h
theorem LB.hle {h : Heap} {base : Option Addr} {len cap : Nat} {T : TypeId} {sz : Nat} {cs : List Value} (s : LB h base len cap T sz cs) : len ≤ cap := by
  cases s with
  | os s => exact s.hle
  | full _ _ h => omega
theorem run_growL {P : Program} {t ty e : TypeId} {i : TypeInfo} {z : Value} {h : Heap} {base : Option Addr} {len cap m c : Nat} {cs news : List Value} {a : Addr} {hs : List Heap} {w : World}
    (ht : P.underlying t = some (.slice e)) (hi : P.info? e = some i) (hz : i.zero = some z) (hzs : z.cells.size = i.size)
    (lb : LB h base len cap e i.size cs) (s : Sat (h :: hs) w) (hm : 0 < m) (hp : 0 < i.size) (hl : news.length = m * i.size) (hn : ∀ j v, news[j]? = some v → w.cell? (a.add j) = some v) (h1 : ∀ v ∈ news, v.oneCell' = true)
    (hroom : (len + m) * i.bytes ≤ 35184372088832) (hlen : len + m ≤ 35184372088832) :
    ∃ h' base' cap' w', (Builtin.append_ #[t, t] ty #[.slice base len cap, .slice (some a) m c]).run P w = .ok (.slice base' (len + m) cap') w' ∧ OS h' base' (len + m) cap' e i.size (cs ++ news) ∧ Sat (h' :: hs) w' := by
  cases lb with
  | os os => exact run_grow ht hi hz hzs os s hm hl hn h1 (by omega) (by omega)
  | full sl hcl hcap hpos =>
    subst hcap
    have hp0 : 0 < cs.length := by rw [hcl]; exact Nat.mul_pos hpos hp
    have mi : SlIn [h] base cs := ⟨h, by simp, sl⟩
    obtain ⟨ad, e1, e2, -⟩ := mi.cell (X := hs) s (List.getElem?_eq_getElem hp0)
    obtain ⟨bb, off, sp⟩ := ad
    simp only at e2
    subst e2; subst e1
    have hold : ∀ j v, cs[j]? = some v → w.cell? ((⟨bb, off, none⟩ : Addr).add j) = some v := fun j v hj => by
      obtain ⟨a', e3, e4, e5⟩ := mi.cell (X := hs) s hj
      cases e3
      rw [addr_add]; exact e5
    have hz' : z.cells.size = i.size := hzs
    have hnl : (cs ++ news).length = (cap + m) * i.size := by rw [List.length_append, hcl, hl, Nat.add_mul]
    have hzc : ∀ k, (Builtin.zeroCells z.cells k).size = k * i.size := fun k => by simp [Builtin.zeroCells, hz']
    have hcapn : ∀ need old, need ≤ grownCap w need old e := fun need old => by simp [grownCap, Question.cut]
    have hnc := nextslicecap_le (need := cap + m) (old := cap) (by omega)
    have hrun := run_append_grow (P := P) w t ty e i z ht hi hz ⟨bb, off, none⟩ cap cap cs hcl hold a m c news hl hn (by omega) (by omega) (by
      have : Builtin.nextslicecap (cap + m) cap * i.bytes ≤ 2 * (cap + m) * i.bytes := Nat.mul_le_mul_right _ hnc
      rw [Nat.mul_assoc] at this
      omega)
    have s2 : Sat hs w.drew := s.tail.heap rfl rfl rfl
    refine ⟨_, _, _, _, hrun, ⟨hnl, hcapn _ _, .inr ⟨w.heap.size, 0, _, rfl, rfl, ?_, fun k v hk => ?_⟩⟩, sat_alloc s2 _ (fun _ => by simp [fzo])⟩
    · have hc := hcapn (cap + m) cap
      have : (cap + m) * i.size ≤ grownCap w (cap + m) cap e * i.size := Nat.mul_le_mul_right _ hc
      rw [Array.size_append, hzc, Array.size_append, List.size_toArray, List.size_toArray, hcl, hl, Nat.sub_mul, ← Nat.add_mul]
      omega
    · have hlt : k < (cs ++ news).length := (List.getElem?_eq_some_iff.1 hk).1
      rw [Nat.zero_add, Array.getElem?_append_left (by simpa using hlt)]
      rw [← hk]; simp
section
variable {P : Program} {r : Option Nat} {F : Heap} {n : Nat} {Q : SPost} {env : Env} {own rest hs : List Heap} {ds : List Deferred} {all : Array Oper} {l : List Oper} {o : Oper}
theorem sl_appendL {t e : TypeId} {sz bytes : Nat} {c : Call} {x y : Operand} {h : Heap} {base : Option Addr} {len cap m mc : Nat} {cs news : List Value} {a : Addr} {d : Nat} [g : TyG P t e sz bytes]
    (hd : o.dst = some d) (hn : Nat.blt d n = true) (hg : wantedE all env o = some true) (ho : o.op = .call c) (hc : c.callee = .builtin .append) (hax : c.args = #[x, y]) (hat : c.argTypes = #[t, t])
    (hx : ev env x = some (.slice base len cap)) (hy : ev env y = some (.slice (some a) m mc)) [mm : SlIn own (some a) news] (os : LB h base len cap e sz cs) [tk : TakeH own h rest]
    (hm : 0 < m) (hnl : news.length = m * sz) (hpos : 0 < sz) (h1 : news.all (·.oneCell') = true) (hroom : (len + m) * bytes ≤ 35184372088832) (hlen : len + m ≤ 35184372088832)
    (next : ∀ h' base' cap', OS h' base' (len + m) cap' e sz (cs ++ news) → SOL false P r F n all l Q ((d, .slice base' (len + m) cap') :: env) (h' :: rest) ds) :
    SOL false P r F n all (o :: l) Q env own ds := by
  refine sl_turn hd hn hg (by rw [ho]; rfl) fun A w hA hs => ?_
  obtain ⟨i, z, g1, g2, g3, g4, g5, g6⟩ := g.all
  subst g5; subst g6
  have s1 : Sat (own ++ [F]) w := hs.perm (List.perm_append_comm (l₁ := [F]) (l₂ := own))
  have hpos' : 0 < news.length := by rw [hnl]; exact Nat.mul_pos hm hpos
  have hnew : ∀ j v, news[j]? = some v → w.cell? (a.add j) = some v := fun j v hj => by
    obtain ⟨a', e1, e2, e3⟩ := mm.cell s1 hj
    cases e1
    obtain ⟨b, off, sp⟩ := a
    simp only at e2
    subst e2
    rw [addr_add]; exact e3
  have s2 : Sat (h :: (rest ++ [F])) w := s1.perm (tk.perm.append_right [F])
  obtain ⟨h', base', cap', w', hrun, os', s3⟩ := run_growL (P := P) (ty := o.type) (c := mc) g1 g2 g3 g4 os s2 hm hpos hnl hnew (by simpa using h1) hroom hlen
  refine ⟨_, w', h' :: rest, ?_, s3.perm (List.perm_append_comm (l₁ := h' :: rest) (l₂ := [F])), next h' base' cap' os'⟩
  simp [execOp, ho, resolve, hc, hax, hat, invoke, builtin, hA.eval hx, hA.eval hy, hrun]
end
end Go.SL
end
section
/- Appending, in a region that draws its order, to a slice that is one's own, or full and only read. -/
namespace Go.SL
section
variable {P : Program} {own : List Heap} {n : Nat} {env : Env} {o : Oper}
theorem hop_appendL {t e : TypeId} {sz bytes : Nat} {c : Call} {x y : Operand} {h hn : Heap} {base : Option Addr} {len cap m mc : Nat} {cs news : List Value} {a : Addr} [g : TyG P t e sz bytes]
    (ho : o.op = .call c) (hc : c.callee = .builtin .append) (hax : c.args = #[x, y]) (hat : c.argTypes = #[t, t])
    (hx : ev env x = some (.slice base len cap)) (hy : ev env y = some (.slice (some a) m mc)) (mm : Sl hn (some a) news) (os : LB h base len cap e sz cs)
    (hm : 0 < m) (hnl : news.length = m * sz) (hpos : 0 < sz) (h1 : news.all (·.oneCell') = true) (hroom : (len + m) * bytes ≤ 35184372088832) (hlen : len + m ≤ 35184372088832) :
    HOp P [h, hn] n o env fun v own' => ∃ h' base' cap', v = .slice base' (len + m) cap' ∧ own' = [h', hn] ∧ OS h' base' (len + m) cap' e sz (cs ++ news) := by
  refine ⟨by rw [ho]; rfl, fun A w X hA hs => ?_⟩
  obtain ⟨i, z, g1, g2, g3, g4, g5, g6⟩ := g.all
  subst g5; subst g6
  have s2 : Sat (h :: hn :: X) w := by simpa using hs
  have hnew : ∀ j v, news[j]? = some v → w.cell? (a.add j) = some v := fun j v hj => by
    have mi : SlIn [h, hn] (some a) news := ⟨hn, by simp, mm⟩
    obtain ⟨a', e1, e2, e3⟩ := mi.cell hs hj
    cases e1
    obtain ⟨b, off, sp⟩ := a
    simp only at e2
    subst e2
    rw [addr_add]; exact e3
  obtain ⟨h', base', cap', w', hrun, os', s3⟩ := run_growL (P := P) (ty := o.type) (c := mc) g1 g2 g3 g4 os s2 hm hpos hnl hnew (by simpa using h1) hroom hlen
  refine ⟨w', .inl ⟨.slice base' (len + m) cap', [h', hn], ?_, by simpa using s3, h', base', cap', rfl, rfl, os'⟩⟩
  simp [execOp, ho, resolve, hc, hax, hat, invoke, builtin, hA.eval hx, hA.eval hy, hrun]
end
section
variable {P : Program} {r : Option Nat} {F : Heap} {n : Nat} {prot : List Heap} {Q : SPost} {env : Env} {own rest hs : List Heap} {ds : List Deferred} {all : Array Oper} {s : List Sg} {o : Oper} {an : An}
theorem chu_appendL {m : Nat} {t e : TypeId} {sz bytes : Nat} {cl : Call} {x y : Operand} {hh hn : Heap} {base : Option Addr} {len cap mm mc d : Nat} {cs news : List Value} {a : Addr} [g : TyG P t e sz bytes]
    (hi : all[m]? = some o) (hd : o.dst = some d) (hg : wantedE all env o = some true)
    (ho : o.op = .call cl) (hc : cl.callee = .builtin .append) (hax : cl.args = #[x, y]) (hat : cl.argTypes = #[t, t])
    (hx : ev env x = some (.slice base len cap)) (hy : ev env y = some (.slice (some a) mm mc)) [sa : SlAt own (some a) hn news] (os : LB hh base len cap e sz cs) [tk : TakeL own [hh, hn] rest] {rest2 : List Heap} [tp : TakeL rest prot rest2]
    (hm : 0 < mm) (hnl : news.length = mm * sz) (hpos : 0 < sz) (h1 : news.all (·.oneCell') = true) (hroom : (len + mm) * bytes ≤ 35184372088832) (hlen : len + mm ≤ 35184372088832)
    (h : ∀ h' base' cap', OS h' base' (len + mm) cap' e sz (cs ++ news) → ChU P r F n all prot Q ds s ((d, .slice base' (len + mm) cap') :: env) (h' :: hn :: rest) an) : ChU P r F n all prot Q ds (.h true m :: s) env own an :=
  chu_h hi hd hg (hop_appendL ho hc hax hat hx hy sa.sl os hm hnl hpos h1 hroom hlen) grow_c (fun _ => .inl ⟨rest2, tp.perm⟩) fun v own' hR => by
    obtain ⟨h', b', c', rfl, rfl, os'⟩ := hR; exact ⟨_, rfl, h h' b' c' os'⟩
end
end Go.SL
end
section
/- A store into bytes behind which lies a mark. -/
set_option linter.unusedVariables false
namespace Go.SL
theorem hop_storeM {P : Program} {n : Nat} {o : Oper} {env : Env} {t T : TypeId} {x y : Operand} {b k : Nat} {fz : Nat × Nat} {v : Value} {cs : List Value} {d : TypeDesc} {z : Value} {ti : TypeInfo} [ty : Ty P t d z ti]
    (ho : o.op = .store t x y) (hx : ev env x = some (ept (some ⟨b, 0, none⟩) k)) (hy : ev env y = some v) (hv : cellsO v = some [v]) (hsz : 1 = ti.size) (h1 : v.oneCell' = true) (hk : k < cs.length) (hf : k < fz.1) :
    HOp P [blk b (.cells ⟨cs⟩ T fz)] n o env fun _ own' => own' = [blk b (.cells ⟨cs.set k v⟩ T fz)] := by
  refine ⟨by rw [ho]; rfl, fun a w X ha hs => ?_⟩
  have s1 : Sat (blk b (.cells ⟨cs⟩ T fz) :: X) w := by simpa using hs
  have hb : w.heap[b]? = some (.cells ⟨cs⟩ T fz) := s1.at (List.mem_cons_self ..) (blk_self _ _)
  have hadd : (⟨b, k, none⟩ : Addr).add 0 = ⟨b, k, none⟩ := by unfold Addr.add; split <;> simp_all
  have hcell : w.cell? ⟨b, k, none⟩ = some cs[k] := by simp [World.cell?, hb, hk]
  have hfro : w.frozen? ⟨b, k, none⟩ = false := by
    rw [frozen_at hb]
    obtain ⟨lo, hi⟩ := fz
    simp only at hf
    simp only [fzo, Bool.and_eq_false_iff, decide_eq_false_iff_not]
    left; omega
  have hset : (⟨cs⟩ : Array Value).setIfInBounds k v = ⟨cs.set k v⟩ := by apply Array.ext'; simp
  have hst : (storeCells ⟨b, k, none⟩ [v] 0).run P w = .ok () (w.setRow b ⟨cs.set k v⟩) := by
    have h2 : (store ((⟨b, k, none⟩ : Addr).add 0) v).run P w = .ok () (w.setRow b ⟨cs.set k v⟩) := by
      rw [hadd, run_store P w _ v _ h1, hcell]
      simp [hfro, setCell_eq_setRow w b k ⟨cs⟩ T fz v hb, hset]
    simp only [storeCells, Sem.run_bind, h2, Result.andThen_ok]
    rfl
  have hc' := cellsO_eq hv
  have hrun : (execOp a.eval o).run P w = .ok .skip (w.setRow b ⟨cs.set k v⟩) := by
    simp [execOp, ho, Instr.storeAt, ha.eval hx, ha.eval hy, ept, Instr.sureAddr, storeVar, run_size ty.i, hc', ← hsz, hst]
  refine ⟨w.setRow b ⟨cs.set k v⟩, .inr (.inl ⟨_, hrun, ?_, rfl⟩)⟩
  have s2 := s1.put (setRow_heap w b _ ⟨cs.set k v⟩ T fz hb) (by rfl) (by rfl) (fun k hk => setRow_other w b k _ hk) (fun _ => rfl)
  simpa using s2
section
variable {P : Program} {r : Option Nat} {F : Heap} {n : Nat} {Q : SPost} {env : Env} {own rest hs prot : List Heap} {ds : List Deferred} {all : Array Oper} {l : List Oper} {o : Oper} {s : List Sg} {an : An}
theorem chu_storeM {m : Nat} {t T : TypeId} {x y : Operand} {b k : Nat} {fz : Nat × Nat} {v : Value} {cs cs' : List Value} {d : TypeDesc} {z : Value} {ti : TypeInfo} [ty : Ty P t d z ti]
    (hi : all[m]? = some o) (hl : lastB all m = true) (hd : o.dst = none) (hg : wantedE all env o = some true) (ho : o.op = .store t x y) (hx : ev env x = some (ept (some ⟨b, 0, none⟩) k)) (hy : ev env y = some v)
    (hv : cellsO v = some [v]) (hsz : 1 = ti.size) (h1 : v.oneCell' = true) [at_ : At own b (.cells ⟨cs⟩ T fz)] [tk : TakeL own [blk b (.cells ⟨cs⟩ T fz)] rest] (hk : k < cs.length) (hf : k < fz.1) (hc : cs.set k v = cs')
    (h : ChU P r F n all prot Q ds s env (blk b (.cells ⟨cs'⟩ T fz) :: rest) an) : ChU P r F n all prot Q ds (.h true m :: s) env own an :=
  chu_h0 hi hd hg (hop_storeM ho hx hy hv hsz h1 hk hf) grow_c (fun _ => .inr hl) fun v' own' hR => by
    subst hR; subst hc; exact ⟨_, rfl, h⟩
end
end Go.SL
end
