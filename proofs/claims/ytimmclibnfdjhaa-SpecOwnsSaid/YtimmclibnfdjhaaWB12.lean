/- Taking an event. -/
import Derived.Test.YtimmclibnfdjhaaWB9
import Derived.Test.YtimmclibnfdjhaaWB11
set_option linter.unusedVariables false
set_option linter.unusedSimpArgs false
set_option linter.unusedSectionVars false
namespace Go.Proofs.Ytimmclibnfdjhaa
open Go.SL
set_option maxRecDepth 100000
set_option maxHeartbeats 16000000
attribute [local irreducible] SL.T PFn OpV SOL SWP HOp ChU
instance {x : Th} {e : Ev} : Decidable (callNo x e) := by
  unfold callNo
  have : Decidable (x.opn ≠ none) := match x.opn with
    | none => isFalse fun h => h rfl
    | some _ => isTrue fun h => by cases h
  infer_instance
instance {n k : Nat} {x : Th} {o : Opn} {e : Ev} : Decidable (ansNo n k x o e) := by unfold ansNo; infer_instance
/-- What an event makes of the automaton. -/
def takeF (σ : St) (e : Ev) : Bool × St :=
  if ¬ (0 ≤ e.thread ∧ e.thread < σ.th.length) then (false, σ)
  else match σ.th[e.thread.toNat]? with
  | none => (false, σ)
  | some x =>
    if e.kind = 0 then (if callNo x e then (false, σ) else (true, (σ.cls e.thread.toNat (inc x.calls)).opn e.thread.toNat (opened e)))
    else if e.kind = 1 then actF σ e
    else if e.kind = 2 then (match x.opn with
      | none => (false, σ)
      | some o => if ansNo σ.th.length σ.ob.length x o e then (false, σ) else (true, σ.shut e.thread.toNat))
    else (false, σ)
def TakeQ (βs : Nat) (bt bo : Option Addr) (n ct kk co : Nat) (r : Bool × St) (en : Ending) (w : List Heap) : Prop :=
  en = .returned (.bool r.1) ∧ ∃ HT' HO' OP' bs', w = [specB βs bt bo n ct kk co r.2.rel, HT', HO', OP'] ∧ MemOk bt bo ct co HT' HO' OP' bs' r.2
theorem obs_of (σ : St) (e : Ev) (o : Opn) (h : ¬ actNo σ o e) : ∃ p, σ.ob[e.obj.toNat]? = some p := by
  unfold actNo at h
  simp only [not_or] at h
  obtain ⟨hw, q1, -⟩ := h
  have q1 : e.obj = o.obj := Classical.byContradiction q1
  unfold wrongB at hw
  exact ⟨_, List.getElem?_eq_getElem (by omega)⟩
section
variable {bt bo : Option Addr} {ct co : Nat} {HT HO OP : Heap} {bs : List (Option Nat)} {σ : St}
theorem MemOk.shut {HT' : Heap} {t : Nat} {x : Th} (m : MemOk bt bo ct co HT HO OP bs σ) (ht : σ.th[t]? = some x) (os : OS HT' bt σ.th.length ct 73 3 (thCells (bs.set t none) σ.th)) : MemOk bt bo ct co HT' HO OP (bs.set t none) (σ.shut t) := by
  refine ⟨by simp only [St.shut, opnT_length, thCells_opnT]; exact os, m.hO, ⟨by simp [St.shut, opnT_length, m.op.len], fun u y hy => ?_, fun u v β hu hv => ?_⟩, m.nT, m.nO⟩
  · simp only [St.shut, opnT_at] at hy
    cases hu : σ.th[u]? with
    | none => rw [hu] at hy; cases hy
    | some z =>
      rw [hu] at hy
      simp only [Option.map_some, Option.some.injEq] at hy
      subst hy
      obtain ⟨b, g1, g2, g3⟩ := m.op.at_ u z hu
      by_cases e : u = t
      · subst e
        have hl : u < bs.length := (List.getElem?_eq_some_iff.1 g1).1
        refine ⟨none, List.getElem?_set_self hl, fun _ => rfl, fun o ho => by simp at ho⟩
      · rw [if_neg e]
        exact ⟨b, by rw [List.getElem?_set_ne (Ne.symm e)]; exact g1, g2, g3⟩
  · have hne : ∀ w, (bs.set t none)[w]? = some (some β) → bs[w]? = some (some β) := fun w hw => by
      by_cases e : w = t
      · subst e
        rw [List.getElem?_set_self' ] at hw
        cases hb : bs[w]? with
        | none => rw [hb] at hw; cases hw
        | some _ => rw [hb] at hw; cases hw
      · rwa [List.getElem?_set_ne (Ne.symm e)] at hw
    exact m.op.one u v β (hne u hu) (hne v hv)
theorem MemOk.call {HT' : Heap} {t β : Nat} {x : Th} {o : Opn} {c : Int} (m : MemOk bt bo ct co HT HO OP bs σ) (ht : σ.th[t]? = some x) (os : OS HT' bt σ.th.length ct 73 3 (thCells (bs.set t (some β)) (callsT σ.th t c))) (d : Disj (blk β (oblk o)) OP) :
    MemOk bt bo ct co HT' HO (join (blk β (oblk o)) OP) (bs.set t (some β)) ((σ.cls t c).opn t o) := by
  have hβ : ∀ v, v ≠ t → bs[v]? = some (some β) → False := fun v hv hb => by
    have hl : v < σ.th.length := by rw [← m.op.len]; exact (List.getElem?_eq_some_iff.1 hb).1
    obtain ⟨y, hy⟩ : ∃ y, σ.th[v]? = some y := ⟨_, List.getElem?_eq_getElem hl⟩
    obtain ⟨b, g1, g2, g3⟩ := m.op.at_ v y hy
    rw [hb] at g1; cases g1
    cases ho : y.opn with
    | none => have := g2 ho; cases this
    | some o' =>
      obtain ⟨β', e, h⟩ := g3 o' ho
      cases e
      exact d _ _ _ (blk_self _ _) h
  refine ⟨by simp only [St.opn, St.cls, opnT_length, callsT_length, thCells_opnT]; exact os, m.hO, ⟨by simp [St.opn, St.cls, opnT_length, callsT_length, m.op.len], fun u y hy => ?_, fun u v γ hu hv => ?_⟩, m.nT, m.nO⟩
  · simp only [St.opn, St.cls, opnT_at, callsT_at] at hy
    cases hu : σ.th[u]? with
    | none => rw [hu] at hy; cases hy
    | some z =>
      rw [hu] at hy
      simp only [Option.map_some, Option.some.injEq] at hy
      subst hy
      obtain ⟨b, g1, g2, g3⟩ := m.op.at_ u z hu
      by_cases e : u = t
      · subst e
        have hl : u < bs.length := (List.getElem?_eq_some_iff.1 g1).1
        refine ⟨some β, List.getElem?_set_self hl, fun h => by simp at h, fun o' ho' => ⟨β, rfl, ?_⟩⟩
        simp only [if_true, Option.some.injEq] at ho'
        subst ho'
        exact join_left _ _ (blk_self _ _)
      · rw [if_neg e, if_neg e]
        refine ⟨b, by rw [List.getElem?_set_ne (Ne.symm e)]; exact g1, g2, fun o' ho' => ?_⟩
        obtain ⟨β', rfl, h⟩ := g3 o' ho'
        exact ⟨β', rfl, join_right d _ _ h⟩
  · have key : ∀ w, (bs.set t (some β))[w]? = some (some γ) → (w = t ∧ γ = β) ∨ (w ≠ t ∧ bs[w]? = some (some γ)) := fun w hw => by
      by_cases e : w = t
      · subst e
        rw [List.getElem?_set_self'] at hw
        cases hb : bs[w]? with
        | none => rw [hb] at hw; cases hw
        | some _ =>
          rw [hb] at hw
          simp at hw
          exact .inl ⟨rfl, hw.symm⟩
      · rw [List.getElem?_set_ne (Ne.symm e)] at hw
        exact .inr ⟨e, hw⟩
    rcases key u hu with ⟨rfl, rfl⟩ | ⟨e1, h1⟩
    · rcases key v hv with ⟨rfl, -⟩ | ⟨e2, h2⟩
      · rfl
      · exact (hβ v e2 h2).elim
    · rcases key v hv with ⟨rfl, rfl⟩ | ⟨e2, h2⟩
      · exact (hβ u e1 h1).elim
      · exact m.op.one u v γ h1 h2
end
section
variable {βs : Nat} {bt bo : Option Addr} {n ct kk co : Nat} {e : Ev} {HT HO OP : Heap} {bs : List (Option Nat)} {σ : St}
theorem Take_out (hn : σ.th.length = n) (h : ¬ (0 ≤ e.thread ∧ e.thread < n)) : PFn Try.prog 11 [ptr βs, .agg ⟨ecells e⟩] [specB βs bt bo n ct kk co σ.rel] (.bool false) := by
  have ht := (there_calls (βs := βs) (bt := bt) (bo := bo) (n := n) (ct := ct) (k := kk) (co := co) (rel := σ.rel) e.thread).to (congrArg Value.bool (decide_eq_false h))
  refine pure_of_body Try.func11 rfl (Nat.le_of_ble_eq_true rfl) fun F => ?_
  repeat' (first
    | refine swp_seq ?_
    | (refine gk 0 rfl ?_; first | refine sl_op rfl rfl rfl (by first | exact opv_move rfl rfl | exact opv_assign rfl rfl | exact opv_not_f rfl rfl ) ?_ )
    | (refine gk 3 rfl ?_; first | refine sl_op rfl rfl rfl (by first | exact opv_load rfl (by exact rfl) rfl (by exact rfl) | exact opv_fieldAddr rfl rfl ) ?_ )
    | (refine gk 4 rfl ?_; first | refine sl_op rfl rfl rfl (opv_call rfl rfl rfl rfl rfl (ht)) ?_)
    | (refine gk 5 rfl ?_; first | refine sl_box rfl rfl rfl rfl rfl rfl (fun β => ?_) )
    | refine sl_region rfl ?_
    | refine sl_nil ?_
    | refine thn_k ?_
    | refine swp_true rfl ?_
    | refine swp_ret ?_
    | refine thn_ret ?_
    )
  refine end_pure (resOk_one (resV_tmp rfl)) ?_
  rfl
theorem PFn.frame {f : FuncId} {args : List Value} {v : Value} {hs : List Heap} (rest : List Heap) (h : PFn Try.prog f args hs v) : PFn Try.prog f args (hs ++ rest) v := by
  unfold PFn SL.T at *
  intro w X s
  refine (h w (rest ++ X) (by simpa using s)).mono ?_
  rintro e w' ⟨o, s2, h1, h2⟩
  exact ⟨o ++ rest, by simpa using s2, h1, by rw [h2]⟩
theorem T_perm {P : Program} {f : FuncId} {args : List Value} {own : List Heap} {R R' : Ending → List Heap → Prop} (h : SL.T P f args own R) (hR : ∀ e o, R e o → ∃ o', o.Perm o' ∧ R' e o') : SL.T P f args own R' := by
  unfold SL.T at *
  intro w X s
  refine (h w X s).mono ?_
  rintro e w' ⟨o, s2, r⟩
  obtain ⟨o', p, r'⟩ := hR e o r
  exact ⟨o', s2.perm (p.append_right X), r'⟩
theorem Take_calls (m : MemOk bt bo ct co HT HO OP bs σ) (hn : σ.th.length = n) (hk : σ.ob.length = kk) (hsm : n ≤ 1000000) (hsk : kk ≤ 1000000) (wf : WF σ) :
    SL.T Try.prog 11 [ptr βs, .agg ⟨ecells e⟩] [specB βs bt bo n ct kk co σ.rel, HT, HO, OP] (TakeQ βs bt bo n ct kk co (takeF σ e)) := by
  have fin : PFn Try.prog 11 [ptr βs, .agg ⟨ecells e⟩] [specB βs bt bo n ct kk co σ.rel, HT, HO, OP] (.bool false) → takeF σ e = (false, σ) → SL.T Try.prog 11 [ptr βs, .agg ⟨ecells e⟩] [specB βs bt bo n ct kk co σ.rel, HT, HO, OP] (TakeQ βs bt bo n ct kk co (takeF σ e)) := fun h hF => by
    rw [hF]
    exact h.T.mono fun en w ⟨h1, h2⟩ => ⟨h1, HT, HO, OP, bs, h2, m⟩
  haveI := m.nT
  by_cases h0 : 0 ≤ e.thread ∧ e.thread < n
  · obtain ⟨x, hx⟩ : ∃ x, σ.th[e.thread.toNat]? = some x := ⟨_, List.getElem?_eq_getElem (by omega)⟩
    have ht := (there_calls (βs := βs) (bt := bt) (bo := bo) (n := n) (ct := ct) (k := kk) (co := co) (rel := σ.rel) e.thread).to (congrArg Value.bool (decide_eq_true h0))
    haveI slT := m.hT.sl
    obtain ⟨b, hb, hb1, hb2⟩ := m.op.at_ _ _ hx
    have hl3 := thCells_length bs σ.th m.op.len
    have htl : e.thread.toNat * 3 < (thCells bs σ.th).length := by omega
    have hF0 : takeF σ e = (if e.kind = 0 then (if callNo x e then (false, σ) else (true, (σ.cls e.thread.toNat (inc x.calls)).opn e.thread.toNat (opened e)))
        else if e.kind = 1 then actF σ e
        else if e.kind = 2 then (match x.opn with
          | none => (false, σ)
          | some o => if ansNo σ.th.length σ.ob.length x o e then (false, σ) else (true, σ.shut e.thread.toNat))
        else (false, σ)) := by
      unfold takeF
      rw [if_neg (by rw [hn]; exact fun h => h h0), hx]
    by_cases k0 : e.kind = 0
    · rw [if_pos k0] at hF0
      by_cases hc : callNo x e
      · rw [if_pos hc] at hF0
        have hC := call_no (e := e) m hx hc
        refine fin ?_ hF0
        refine pure_of_body Try.func11 rfl (Nat.le_of_ble_eq_true rfl) fun F => ?_
        repeat' (first
          | refine swp_seq ?_
          | (refine gk 0 rfl ?_; first | refine sl_op rfl rfl rfl (by first | exact opv_move rfl rfl | exact opv_assign rfl rfl | exact opv_not_t rfl rfl ) ?_ )
          | (refine gk 2 rfl ?_; first | refine sl_yes rfl rfl rfl (by first | exact opv_eql rfl rfl rfl ) (by first | omega ) ?_ )
          | (refine gk 3 rfl ?_; first | refine sl_op rfl rfl rfl (by first | exact opv_load rfl (by exact rfl) rfl (by exact rfl) | exact opv_fieldAddr rfl rfl | exact opv_loadA rfl (by exact rfl) rfl (by exact rfl) (by exact rfl) | exact opv_indexAddrI rfl rfl rfl (by omega) (by omega) (by first | omega ) ) ?_ )
          | (refine gk 4 rfl ?_; first | refine sl_op rfl rfl rfl (opv_call rfl rfl rfl rfl rfl (ht)) ?_)
          | (refine gk 5 rfl ?_; first | refine sl_op rfl rfl rfl (by first | exact opv_nilCheck rfl rfl ) ?_ | refine sl_box rfl rfl rfl rfl rfl rfl (fun β => ?_) )
          | refine sl_region rfl ?_
          | refine sl_draw (by kernel_rfl) (by kernel_rfl) rfl ?_
          | refine sl_nil ?_
          | refine thn_k ?_
          | refine swp_true rfl ?_
          | refine swp_false rfl ?_
          | refine swp_block ?_
          | refine swp_skip ?_
          )
        repeat' (first
          | (refine gk 0 rfl ?_; first | refine sl_op rfl rfl rfl (by first | exact opv_assign rfl rfl ) ?_ )
          | (refine gk 4 rfl ?_; first | refine sl_op rfl rfl rfl (opv_call rfl rfl rfl rfl rfl (hC)) ?_)
          | refine sl_nil ?_
          | refine thn_k ?_
          | refine swp_ret ?_
          | refine thn_ret ?_
          | refine inb_ret ?_
          )
        refine end_pure (resOk_one (resV_tmp rfl)) ?_
        rfl
      · rw [if_neg hc] at hF0
        rw [hF0]
        have hC := call_go (e := e) m hx hc
        refine T_perm (T_join2 (R := fun en a b rest => en = .returned (.bool true) ∧ ∃ β HT', a = blk β (oblk (opened e)) ∧ b = OP ∧ rest = [specB βs bt bo n ct kk co σ.rel, HT', HO] ∧ OS HT' bt σ.th.length ct 73 3 (thCells (bs.set e.thread.toNat (some β)) (callsT σ.th e.thread.toNat (inc x.calls)))) ?_) ?_
        · refine t_of_body Try.func11 rfl (Nat.le_of_ble_eq_true rfl) fun F => ?_
          repeat' (first
            | refine swp_seq ?_
            | (refine gk 0 rfl ?_; first | refine sl_op rfl rfl rfl (by first | exact opv_move rfl rfl | exact opv_assign rfl rfl | exact opv_not_t rfl rfl ) ?_ )
            | (refine gk 2 rfl ?_; first | refine sl_yes rfl rfl rfl (by first | exact opv_eql rfl rfl rfl ) (by first | omega ) ?_ )
            | (refine gk 3 rfl ?_; first | refine sl_op rfl rfl rfl (by first | exact opv_load rfl (by exact rfl) rfl (by exact rfl) | exact opv_fieldAddr rfl rfl | exact opv_loadA rfl (by exact rfl) rfl (by exact rfl) (by exact rfl) | exact opv_indexAddrI rfl rfl rfl (by omega) (by omega) (by first | omega ) ) ?_ )
            | (refine gk 4 rfl ?_; first | refine sl_op rfl rfl rfl (opv_call rfl rfl rfl rfl rfl (ht)) ?_ | (refine sl_callT rfl rfl rfl rfl rfl rfl rfl rfl (hC) ?_; rintro _ _ ⟨rfl, β, HT2, rfl, osT2⟩; refine ⟨_, _, rfl, rfl, ?_⟩))
            | (refine gk 5 rfl ?_; first | refine sl_op rfl rfl rfl (by first | exact opv_nilCheck rfl rfl ) ?_ | refine sl_box rfl rfl rfl rfl rfl rfl (fun β => ?_) )
            | refine sl_region rfl ?_
            | refine sl_draw (by kernel_rfl) (by kernel_rfl) rfl ?_
            | refine sl_nil ?_
            | refine thn_k ?_
            | refine swp_true rfl ?_
            | refine swp_false rfl ?_
            | refine swp_block ?_
            | refine swp_ret ?_
            | refine swp_skip ?_
            | refine thn_ret ?_
            | refine inb_ret ?_
            )
          exact end_retL [blk β (oblk (opened e)), OP, specB βs bt bo n ct kk co σ.rel, HT2, HO] (resOk_one (resV_tmp rfl)) ⟨_, _, _, rfl, rfl, β, HT2, rfl, rfl, rfl, osT2⟩
        · rintro en w ⟨a, b', rest, rfl, hd, rfl, β, HT', rfl, e1, rfl, os⟩
          rw [e1] at hd
          rw [e1]
          refine ⟨[specB βs bt bo n ct kk co σ.rel, HT', HO, join (blk β (oblk (opened e))) OP], ?_, rfl, HT', HO, _, _, rfl, m.call hx os hd⟩
          exact List.perm_append_comm (l₁ := [join (blk β (oblk (opened e))) OP]) (l₂ := [specB βs bt bo n ct kk co σ.rel, HT', HO])
    · rw [if_neg k0] at hF0
      have k0' := (rfl : e.kind = e.kind)
      by_cases k1 : e.kind = 1
      · rw [if_pos k1] at hF0
        obtain ⟨xo, xc, xf⟩ := x
        cases xo with
        | none =>
          have hA := act_none (βs := βs) (bo := bo) (kk := kk) (e := e) m hn h0 hx hsm
          refine fin ?_ (by rw [hF0]; unfold actF; rw [hx])
          refine pure_of_body Try.func11 rfl (Nat.le_of_ble_eq_true rfl) fun F => ?_
          repeat' (first
            | refine swp_seq ?_
            | (refine gk 0 rfl ?_; first | refine sl_op rfl rfl rfl (by first | exact opv_move rfl rfl | exact opv_assign rfl rfl | exact opv_not_t rfl rfl ) ?_ )
            | (refine gk 2 rfl ?_; first | refine sl_yes rfl rfl rfl (by first | exact opv_eql rfl rfl rfl ) (by first | omega ) ?_ | refine sl_no rfl rfl rfl (by first | exact opv_eql rfl rfl rfl ) (by first | omega ) ?_ )
            | (refine gk 3 rfl ?_; first | refine sl_op rfl rfl rfl (by first | exact opv_load rfl (by exact rfl) rfl (by exact rfl) | exact opv_fieldAddr rfl rfl | exact opv_loadA rfl (by exact rfl) rfl (by exact rfl) (by exact rfl) | exact opv_indexAddrI rfl rfl rfl (by omega) (by omega) (by first | omega ) ) ?_ )
            | (refine gk 4 rfl ?_; first | refine sl_op rfl rfl rfl (opv_call rfl rfl rfl rfl rfl (ht)) ?_)
            | (refine gk 5 rfl ?_; first | refine sl_op rfl rfl rfl (by first | exact opv_nilCheck rfl rfl ) ?_ | refine sl_box rfl rfl rfl rfl rfl rfl (fun β => ?_) )
            | refine sl_region rfl ?_
            | refine sl_draw (by kernel_rfl) (by kernel_rfl) rfl ?_
            | refine sl_nil ?_
            | refine thn_k ?_
            | refine swp_true rfl ?_
            | refine swp_false rfl ?_
            | refine swp_block ?_
            | refine swp_skip ?_
            )
          repeat' (first
            | (refine gk 0 rfl ?_; first | refine sl_op rfl rfl rfl (by first | exact opv_assign rfl rfl ) ?_ )
            | (refine gk 4 rfl ?_; first | refine sl_op rfl rfl rfl (opv_call rfl rfl rfl rfl rfl (hA)) ?_)
            | refine sl_nil ?_
            | refine thn_k ?_
            | refine swp_ret ?_
            | refine thn_ret ?_
            | refine inb_ret ?_
            )
          refine end_pure (resOk_one (resV_tmp rfl)) ?_
          rfl
        | some o =>
          by_cases hno : actNo σ o e
          · have hA := act_no (βs := βs) (e := e) m hn hk h0 hx hsm hno
            refine fin ?_ (by rw [hF0]; unfold actF; rw [hx]; exact if_pos hno)
            refine pure_of_body Try.func11 rfl (Nat.le_of_ble_eq_true rfl) fun F => ?_
            repeat' (first
              | refine swp_seq ?_
              | (refine gk 0 rfl ?_; first | refine sl_op rfl rfl rfl (by first | exact opv_move rfl rfl | exact opv_assign rfl rfl | exact opv_not_t rfl rfl ) ?_ )
              | (refine gk 2 rfl ?_; first | refine sl_yes rfl rfl rfl (by first | exact opv_eql rfl rfl rfl ) (by first | omega ) ?_ | refine sl_no rfl rfl rfl (by first | exact opv_eql rfl rfl rfl ) (by first | omega ) ?_ )
              | (refine gk 3 rfl ?_; first | refine sl_op rfl rfl rfl (by first | exact opv_load rfl (by exact rfl) rfl (by exact rfl) | exact opv_fieldAddr rfl rfl | exact opv_loadA rfl (by exact rfl) rfl (by exact rfl) (by exact rfl) | exact opv_indexAddrI rfl rfl rfl (by omega) (by omega) (by first | omega ) ) ?_ )
              | (refine gk 4 rfl ?_; first | refine sl_op rfl rfl rfl (opv_call rfl rfl rfl rfl rfl (ht)) ?_)
              | (refine gk 5 rfl ?_; first | refine sl_op rfl rfl rfl (by first | exact opv_nilCheck rfl rfl ) ?_ | refine sl_box rfl rfl rfl rfl rfl rfl (fun β => ?_) )
              | refine sl_region rfl ?_
              | refine sl_draw (by kernel_rfl) (by kernel_rfl) rfl ?_
              | refine sl_nil ?_
              | refine thn_k ?_
              | refine swp_true rfl ?_
              | refine swp_false rfl ?_
              | refine swp_block ?_
              | refine swp_skip ?_
              )
            repeat' (first
              | (refine gk 0 rfl ?_; first | refine sl_op rfl rfl rfl (by first | exact opv_assign rfl rfl ) ?_ )
              | (refine gk 4 rfl ?_; first | refine sl_op rfl rfl rfl (opv_call rfl rfl rfl rfl rfl (hA)) ?_)
              | refine sl_nil ?_
              | refine thn_k ?_
              | refine swp_ret ?_
              | refine thn_ret ?_
              | refine inb_ret ?_
              )
            refine end_pure (resOk_one (resV_tmp rfl)) ?_
            rfl
          · obtain ⟨p, hp⟩ := obs_of σ e o hno
            have hG := act_go (βs := βs) (e := e) m hn hk h0 hx hsm hsk hno hp wf
            have hF1 : takeF σ e = stepF σ e.thread.toNat e.obj.toNat o p.1 p.2 xf e (decide (p.1 = e.thread)) := by
              rw [hF0]; unfold actF; rw [hx]; simp only [if_neg hno, hp]
            rw [hF1]
            unfold ActQ at hG
            unfold TakeQ
            refine t_of_body Try.func11 rfl (Nat.le_of_ble_eq_true rfl) fun F => ?_
            repeat' (first
              | refine swp_seq ?_
              | (refine gk 0 rfl ?_; first | refine sl_op rfl rfl rfl (by first | exact opv_move rfl rfl | exact opv_assign rfl rfl | exact opv_not_t rfl rfl ) ?_ )
              | (refine gk 2 rfl ?_; first | refine sl_yes rfl rfl rfl (by first | exact opv_eql rfl rfl rfl ) (by first | omega ) ?_ | refine sl_no rfl rfl rfl (by first | exact opv_eql rfl rfl rfl ) (by first | omega ) ?_ )
              | (refine gk 3 rfl ?_; first | refine sl_op rfl rfl rfl (by first | exact opv_load rfl (by exact rfl) rfl (by exact rfl) | exact opv_fieldAddr rfl rfl | exact opv_loadA rfl (by exact rfl) rfl (by exact rfl) (by exact rfl) | exact opv_indexAddrI rfl rfl rfl (by omega) (by omega) (by first | omega ) ) ?_ )
              | (refine gk 4 rfl ?_; first | refine sl_op rfl rfl rfl (opv_call rfl rfl rfl rfl rfl (ht)) ?_ | (refine sl_callT rfl rfl rfl rfl rfl rfl rfl rfl (hG) ?_; rintro _ _ ⟨rfl, HT2, HO2, OP2, rfl, m2⟩; refine ⟨_, _, rfl, rfl, ?_⟩))
              | (refine gk 5 rfl ?_; first | refine sl_op rfl rfl rfl (by first | exact opv_nilCheck rfl rfl ) ?_ | refine sl_box rfl rfl rfl rfl rfl rfl (fun β => ?_) )
              | refine sl_region rfl ?_
              | refine sl_draw (by kernel_rfl) (by kernel_rfl) rfl ?_
              | refine sl_nil ?_
              | refine thn_k ?_
              | refine swp_true rfl ?_
              | refine swp_false rfl ?_
              | refine swp_block ?_
              | refine swp_ret ?_
              | refine swp_skip ?_
              | refine thn_ret ?_
              | refine inb_ret ?_
              )
            exact end_retL [_, HT2, HO2, OP2] (resOk_one (resV_tmp rfl)) ⟨rfl, HT2, HO2, OP2, bs, rfl, m2⟩
      · rw [if_neg k1] at hF0
        by_cases k2 : e.kind = 2
        · rw [if_pos k2, hn, hk] at hF0
          cases ho : x.opn with
          | none =>
            rw [ho] at hF0
            have hA := answer_none (βs := βs) (e := e) m hx ho
            refine fin ?_ hF0
            refine pure_of_body Try.func11 rfl (Nat.le_of_ble_eq_true rfl) fun F => ?_
            repeat' (first
              | refine swp_seq ?_
              | (refine gk 0 rfl ?_; first | refine sl_op rfl rfl rfl (by first | exact opv_move rfl rfl | exact opv_assign rfl rfl | exact opv_not_t rfl rfl ) ?_ )
              | (refine gk 2 rfl ?_; first | refine sl_yes rfl rfl rfl (by first | exact opv_eql rfl rfl rfl ) (by first | omega ) ?_ | refine sl_no rfl rfl rfl (by first | exact opv_eql rfl rfl rfl ) (by first | omega ) ?_ )
              | (refine gk 3 rfl ?_; first | refine sl_op rfl rfl rfl (by first | exact opv_load rfl (by exact rfl) rfl (by exact rfl) | exact opv_fieldAddr rfl rfl | exact opv_loadA rfl (by exact rfl) rfl (by exact rfl) (by exact rfl) | exact opv_indexAddrI rfl rfl rfl (by omega) (by omega) (by first | omega ) ) ?_ )
              | (refine gk 4 rfl ?_; first | refine sl_op rfl rfl rfl (opv_call rfl rfl rfl rfl rfl (ht)) ?_)
              | (refine gk 5 rfl ?_; first | refine sl_op rfl rfl rfl (by first | exact opv_nilCheck rfl rfl ) ?_ | refine sl_box rfl rfl rfl rfl rfl rfl (fun β => ?_) )
              | refine sl_region rfl ?_
              | refine sl_draw (by kernel_rfl) (by kernel_rfl) rfl ?_
              | refine sl_nil ?_
              | refine thn_k ?_
              | refine swp_true rfl ?_
              | refine swp_false rfl ?_
              | refine swp_block ?_
              | refine swp_skip ?_
              )
            repeat' (first
              | (refine gk 0 rfl ?_; first | refine sl_op rfl rfl rfl (by first | exact opv_assign rfl rfl ) ?_ )
              | (refine gk 4 rfl ?_; first | refine sl_op rfl rfl rfl (opv_call rfl rfl rfl rfl rfl (hA)) ?_)
              | refine sl_nil ?_
              | refine thn_k ?_
              | refine swp_ret ?_
              | refine thn_ret ?_
              | refine inb_ret ?_
              )
            refine end_pure (resOk_one (resV_tmp rfl)) ?_
            rfl
          | some o =>
            rw [ho] at hF0
            have hA := answer_calls (βs := βs) (n := n) (kk := kk) (e := e) m hx ho
            by_cases hno : ansNo n kk x o e
            · have hN := hA.mono (Q' := fun en w => en = .returned (.bool false) ∧ w = [specB βs bt bo n ct kk co σ.rel, HT, OP]) fun en w h => by
                rcases h with ⟨-, h1, h2⟩ | ⟨h1, -⟩
                · exact ⟨h1, h2⟩
                · exact (h1 hno).elim
              rw [hF0]
              simp only [if_pos hno]
              unfold TakeQ
              refine t_of_body Try.func11 rfl (Nat.le_of_ble_eq_true rfl) fun F => ?_
              repeat' (first
                | refine swp_seq ?_
                | (refine gk 0 rfl ?_; first | refine sl_op rfl rfl rfl (by first | exact opv_move rfl rfl | exact opv_assign rfl rfl | exact opv_not_t rfl rfl ) ?_ )
                | (refine gk 2 rfl ?_; first | refine sl_yes rfl rfl rfl (by first | exact opv_eql rfl rfl rfl ) (by first | omega ) ?_ | refine sl_no rfl rfl rfl (by first | exact opv_eql rfl rfl rfl ) (by first | omega ) ?_ )
                | (refine gk 3 rfl ?_; first | refine sl_op rfl rfl rfl (by first | exact opv_load rfl (by exact rfl) rfl (by exact rfl) | exact opv_fieldAddr rfl rfl | exact opv_loadA rfl (by exact rfl) rfl (by exact rfl) (by exact rfl) | exact opv_indexAddrI rfl rfl rfl (by omega) (by omega) (by first | omega ) ) ?_ )
                | (refine gk 4 rfl ?_; first | refine sl_op rfl rfl rfl (opv_call rfl rfl rfl rfl rfl (ht)) ?_ | (refine sl_callT rfl rfl rfl rfl rfl rfl rfl rfl (hN) ?_; rintro _ _ ⟨rfl, rfl⟩; refine ⟨_, _, rfl, rfl, ?_⟩))
                | (refine gk 5 rfl ?_; first | refine sl_op rfl rfl rfl (by first | exact opv_nilCheck rfl rfl ) ?_ | refine sl_box rfl rfl rfl rfl rfl rfl (fun β => ?_) )
                | refine sl_region rfl ?_
                | refine sl_draw (by kernel_rfl) (by kernel_rfl) rfl ?_
                | refine sl_nil ?_
                | refine thn_k ?_
                | refine swp_true rfl ?_
                | refine swp_false rfl ?_
                | refine swp_block ?_
                | refine swp_ret ?_
                | refine swp_skip ?_
                | refine thn_ret ?_
                | refine inb_ret ?_
                )
              exact end_retL [specB βs bt bo n ct kk co σ.rel, HT, HO, OP] (resOk_one (resV_tmp rfl)) ⟨rfl, HT, HO, OP, bs, rfl, m⟩
            · have hN := hA.mono (Q' := fun en w => en = .returned (.bool true) ∧ ∃ HT', w = [specB βs bt bo n ct kk co σ.rel, HT', OP] ∧ OS HT' bt σ.th.length ct 73 3 (thCells (bs.set e.thread.toNat none) σ.th)) fun en w h => by
                rcases h with ⟨h1, -⟩ | ⟨-, h1, h2⟩
                · exact (hno h1).elim
                · exact ⟨h1, h2⟩
              rw [hF0]
              simp only [if_neg hno]
              unfold TakeQ
              refine t_of_body Try.func11 rfl (Nat.le_of_ble_eq_true rfl) fun F => ?_
              repeat' (first
                | refine swp_seq ?_
                | (refine gk 0 rfl ?_; first | refine sl_op rfl rfl rfl (by first | exact opv_move rfl rfl | exact opv_assign rfl rfl | exact opv_not_t rfl rfl ) ?_ )
                | (refine gk 2 rfl ?_; first | refine sl_yes rfl rfl rfl (by first | exact opv_eql rfl rfl rfl ) (by first | omega ) ?_ | refine sl_no rfl rfl rfl (by first | exact opv_eql rfl rfl rfl ) (by first | omega ) ?_ )
                | (refine gk 3 rfl ?_; first | refine sl_op rfl rfl rfl (by first | exact opv_load rfl (by exact rfl) rfl (by exact rfl) | exact opv_fieldAddr rfl rfl | exact opv_loadA rfl (by exact rfl) rfl (by exact rfl) (by exact rfl) | exact opv_indexAddrI rfl rfl rfl (by omega) (by omega) (by first | omega ) ) ?_ )
                | (refine gk 4 rfl ?_; first | refine sl_op rfl rfl rfl (opv_call rfl rfl rfl rfl rfl (ht)) ?_ | (refine sl_callT rfl rfl rfl rfl rfl rfl rfl rfl (hN) ?_; rintro _ _ ⟨rfl, HT2, rfl, osT2⟩; refine ⟨_, _, rfl, rfl, ?_⟩))
                | (refine gk 5 rfl ?_; first | refine sl_op rfl rfl rfl (by first | exact opv_nilCheck rfl rfl ) ?_ | refine sl_box rfl rfl rfl rfl rfl rfl (fun β => ?_) )
                | refine sl_region rfl ?_
                | refine sl_draw (by kernel_rfl) (by kernel_rfl) rfl ?_
                | refine sl_nil ?_
                | refine thn_k ?_
                | refine swp_true rfl ?_
                | refine swp_false rfl ?_
                | refine swp_block ?_
                | refine swp_ret ?_
                | refine swp_skip ?_
                | refine thn_ret ?_
                | refine inb_ret ?_
                )
              exact end_retL [specB βs bt bo n ct kk co σ.rel, HT2, HO, OP] (resOk_one (resV_tmp rfl)) ⟨rfl, HT2, HO, OP, _, rfl, m.shut hx osT2⟩
        · rw [if_neg k2] at hF0
          refine fin ?_ hF0
          refine pure_of_body Try.func11 rfl (Nat.le_of_ble_eq_true rfl) fun F => ?_
          repeat' (first
            | refine swp_seq ?_
            | (refine gk 0 rfl ?_; first | refine sl_op rfl rfl rfl (by first | exact opv_move rfl rfl | exact opv_assign rfl rfl | exact opv_not_t rfl rfl ) ?_ )
            | (refine gk 2 rfl ?_; first | refine sl_no rfl rfl rfl (by first | exact opv_eql rfl rfl rfl ) (by first | omega ) ?_ )
            | (refine gk 3 rfl ?_; first | refine sl_op rfl rfl rfl (by first | exact opv_load rfl (by exact rfl) rfl (by exact rfl) | exact opv_fieldAddr rfl rfl | exact opv_indexAddrI rfl rfl rfl (by omega) (by omega) (by first | omega ) ) ?_ )
            | (refine gk 4 rfl ?_; first | refine sl_op rfl rfl rfl (opv_call rfl rfl rfl rfl rfl (ht)) ?_)
            | (refine gk 5 rfl ?_; first | refine sl_op rfl rfl rfl (by first | exact opv_nilCheck rfl rfl ) ?_ | refine sl_box rfl rfl rfl rfl rfl rfl (fun β => ?_) )
            | refine sl_region rfl ?_
            | refine sl_draw (by kernel_rfl) (by kernel_rfl) rfl ?_
            | refine sl_nil ?_
            | refine thn_k ?_
            | refine swp_false rfl ?_
            | refine swp_block ?_
            | refine swp_ret ?_
            | refine swp_skip ?_
            )
          refine end_pure (resOk_one (resV_tmp rfl)) ?_
          rfl
  · exact fin (PFn.frame [HT, HO, OP] (Take_out hn h0)) (by unfold takeF; rw [if_pos (by rw [hn]; exact h0)])
end
end Go.Proofs.Ytimmclibnfdjhaa
