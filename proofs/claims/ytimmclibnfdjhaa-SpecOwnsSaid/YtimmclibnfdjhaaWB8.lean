/- An interrupt; who is notified. -/
import Derived.Test.YtimmclibnfdjhaaWB7
set_option linter.unusedVariables false
set_option linter.unusedSimpArgs false
set_option linter.unusedSectionVars false
namespace Go.Proofs.Ytimmclibnfdjhaa
open Go.SL
set_option maxRecDepth 100000
set_option maxHeartbeats 16000000
attribute [local irreducible] SL.T PFn OpV SOL SWP HOp ChU
/-- OpInterrupt. -/
def interruptF (σ : St) (t _k : Nat) (o : Opn) (_ow _dp : Int) (e : Ev) (_owns : Bool) : Bool × St :=
  if e.act = 6 ∧ e.other = o.arg then (true, (σ.flg e.other.toNat true).opn t (doneO o 0 0)) else (false, σ)
def St.opnOf (σ : St) (u : Nat) : Opn := match σ.th[u]? with
  | some x => x.opn.getD ⟨0, 0, 0, 0, 0, 0, 0, 0⟩
  | none => ⟨0, 0, 0, 0, 0, 0, 0, 0⟩
abbrev woken (o : Opn) : Opn := { o with far := 4, code := 0, val := 0 }
/-- OpNotify, OpAll. -/
def notifyF (σ : St) (t _k : Nat) (o : Opn) (_ow _dp : Int) (e : Ev) (owns : Bool) : Bool × St :=
  if e.act = 3 ∧ owns = true ∧ e.other = longF σ.th e.obj then
    if e.other < 0 then (true, σ.opn t (doneO o 0 0))
    else if o.op = 4 then (true, (σ.opn e.other.toNat (woken (σ.opnOf e.other.toNat))).opn t (doneO o 0 0))
    else (true, (σ.opn e.other.toNat (woken (σ.opnOf e.other.toNat))).opn t { o with far := 1 })
  else if refB o e 4 (!owns) = true then (true, σ.opn t (doneO o 4 0))
  else (false, σ)
theorem longF_of {th : List Th} {o : Int} (h : 0 ≤ longF th o) : ∃ (u : Nat) (t : Th) (x : Opn), longF th o = (u : Int) ∧ th[u]? = some t ∧ t.opn = some x ∧ x.obj = o ∧ x.far = 2 := by
  rcases longG_mem th (wlist [2] o 0 th) (-1) with h2 | ⟨u, hu, h2⟩
  · unfold longF at h; omega
  · obtain ⟨-, t, ht, hw⟩ := wlist_mem _ _ _ _ _ hu
    rw [Nat.sub_zero] at ht
    cases hto : t.opn with
    | none => simp [waitsB, hto] at hw
    | some x =>
      simp only [waitsB, hto, Bool.and_eq_true, decide_eq_true_eq, List.mem_singleton] at hw
      exact ⟨u, t, x, h2, ht, hto, hw.1, hw.2⟩
section
variable {βx βs β : Nat} {bt bo : Option Addr} {n ct kk co t k : Nat} {e : Ev} {owns : Bool} {HT HO OP : Heap} {bs : List (Option Nat)} {σ : St} {o : Opn} {ow dp : Int}
theorem interrupt_calls (m : MemOk bt bo ct co HT HO OP bs σ) (hb : bs[t]? = some (some β)) (ht : ∃ c f, σ.th[t]? = some ⟨some o, c, f⟩) (hk : σ.ob[k]? = some (ow, dp)) (hn : σ.th.length = n) (hsm : n ≤ 1000000) (harg : 0 ≤ o.arg ∧ o.arg < n) :
    SL.T Try.prog 44 [ptr βx] [stepB βx βs bt bo t k e owns, specB βs bt bo n ct kk co σ.rel, HT, HO, OP] (StepQ βx βs bt bo n ct kk co t k e owns bs (interruptF σ t k o ow dp e owns)) := by
  obtain ⟨c, f, ht⟩ := ht
  haveI := m.nT
  haveI := m.nO
  haveI slT := m.hT.sl
  haveI slO := m.hO.sl
  have osO := m.hO
  have htc : (thCells bs σ.th)[t * 3]? = some (ptr β) := (thCells_at hb ht).1
  have htc0 : (thCells bs σ.th)[t * 3 + 0]? = some (ptr β) := htc
  have htf : (thCells bs σ.th)[t * 3 + 2]? = some (.bool f) := (thCells_at hb ht).2.2
  have htl := (List.getElem?_eq_some_iff.1 htc).1
  obtain ⟨hk0, hk1⟩ := obCells_at hk
  have hk0' : (obCells σ.ob)[k * 2 + 0]? = some (i64 ow) := hk0
  have hol := obCells_length σ.ob
  have hkl : k < σ.ob.length := (List.getElem?_eq_some_iff.1 hk).1
  have hkl2 : k * 2 < (obCells σ.ob).length := by omega
  haveI i1 : InH OP β (oblk o) := ⟨by
    obtain ⟨b, g1, g2, g3⟩ := m.op.at_ _ _ ht
    obtain ⟨β', rfl, h⟩ := g3 o rfl
    rw [hb] at g1; cases g1; exact h⟩
  have hp := fun a h => plain_calls (βx := βx) (βs := βs) (bt := bt) (bo := bo) (t := t) (k := k) (e := e) (owns := owns) a h
  have hi := fun a h => is_calls (βx := βx) (βs := βs) (bt := bt) (bo := bo) (t := t) (k := k) (e := e) (owns := owns) a h
  have hr := fun c h => refuses_calls (βx := βx) (βs := βs) (β := β) (bt := bt) (bo := bo) (t := t) (k := k) (e := e) (owns := owns) HT OP (thCells bs σ.th) o c h htc
  have hd := fun c v => done_calls (βx := βx) (βs := βs) (β := β) (bt := bt) (bo := bo) (t := t) (k := k) (e := e) (owns := owns) HT OP (thCells bs σ.th) o c v htc
  have hid := updB_id i1
  have osT := m.hT
  have hl3 := thCells_length bs σ.th m.op.len
  by_cases hg : e.act = 6 ∧ e.other = o.arg
  · have hF : interruptF σ t k o ow dp e owns = (true, (σ.flg e.other.toNat true).opn t (doneO o 0 0)) := by unfold interruptF; rw [if_pos hg]
    rw [hF]
    obtain ⟨ha, hoa⟩ := hg
    have hi0 : PFn Try.prog 59 [ptr βx, i64 6, .bool true] [stepB βx βs bt bo t k e owns] (.bool true) := (hi 6 true).to (by simp [ha])
    obtain ⟨x, hx⟩ : ∃ x, σ.th[e.other.toNat]? = some x := ⟨_, List.getElem?_eq_getElem (by omega)⟩
    have hlo : e.other.toNat * 3 < (thCells bs σ.th).length := by omega
    have hfl := flagT_cells (bs := bs) (th := σ.th) (t := e.other.toNat) true m.op.len hx
    refine t_of_body Try.func44 rfl (Nat.le_of_ble_eq_true rfl) fun F => ?_
    repeat' (first
      | refine swp_seq ?_
      | (refine gk 0 rfl ?_; first | refine sl_op rfl rfl rfl (by first | exact opv_assign rfl rfl ) ?_ )
      | refine sl_region rfl ?_
      | refine sl_nil ?_
      )
    refine sl_draw (by kernel_rfl) (by kernel_rfl) rfl ?_
    repeat' (first
      | refine swp_seq ?_
      | (refine gk 0 rfl ?_; first | refine sl_op rfl rfl rfl (by first | exact opv_move rfl rfl | exact opv_not_t rfl rfl ) ?_ )
      | (refine gk 2 rfl ?_; first | refine sl_yes rfl rfl rfl (by first | exact opv_eql rfl rfl rfl ) (by first | omega ) ?_ )
      | (refine gk 3 rfl ?_; first | refine sl_op rfl rfl rfl (by first | exact opv_load rfl (by exact rfl) rfl (by exact rfl) | exact opv_fieldAddr rfl rfl | exact opv_fieldAddrE rfl rfl (by first | assumption ) | exact opv_loadEx rfl (by exact rfl) (by infer_instance) (by first | assumption ) ) ?_ )
      | (refine gk 4 rfl ?_; first | refine sl_op rfl rfl rfl (opv_call rfl rfl rfl rfl rfl (hi0)) ?_)
      | (refine gk 5 rfl ?_; first | refine sl_op rfl rfl rfl (by first | exact opv_nilCheck rfl rfl | exact opv_nilCheckE rfl rfl ) ?_ )
      | refine sl_nil ?_
      | refine thn_k ?_
      | refine swp_false rfl ?_
      | refine swp_skip ?_
      )
    refine sl_drawC [.q [0, 1, 2, 3, 4, 5, 6, 7, 8, 9, 10, 11, 12, 13], .h true 14] [] (by kernel_rfl) (by kernel_rfl) (by kernel_rfl) (by kernel_rfl) ?_
    repeat' (first
      | refine swp_seq ?_
      | (refine gk 0 rfl ?_; first | refine sl_op rfl rfl rfl (by first | exact opv_move rfl rfl | exact opv_assign rfl rfl ) ?_ )
      | (refine gk 3 rfl ?_; first | refine sl_op rfl rfl rfl (by first | exact opv_load rfl (by exact rfl) rfl (by exact rfl) | exact opv_fieldAddr rfl rfl | exact opv_indexAddrI rfl rfl rfl (by omega) (by omega) (by first | omega ) | exact opv_fieldAddrE rfl rfl (by first | assumption ) ) ?_ )
      | (refine gk 4 rfl ?_; first | (refine sl_callT rfl rfl rfl rfl rfl rfl rfl rfl (hd2) ?_; rintro _ _ ⟨rfl, rfl⟩; refine ⟨_, _, rfl, rfl, ?_⟩))
      | (refine gk 5 rfl ?_; first | refine sl_op rfl rfl rfl (by first | exact opv_nilCheck rfl rfl ) ?_ )
      | refine sl_region rfl ?_
      | refine chu_nil ?_
      | refine chu_q rfl ?_
      | (refine chu_storeE rfl rfl rfl rfl rfl rfl osT rfl rfl rfl (Nat.succ_pos _) (by simp; omega) hfl (fun HT2 osT2 => ?_); haveI slT2 := osT2.sl; have htc2 : (thCells bs (flagT σ.th e.other.toNat true))[t * 3]? = some (ptr β) := (thCells_at hb (by rw [flagT_at, ht]; rfl)).1; have hd2 := done_calls (βx := βx) (βs := βs) (β := β) (bt := bt) (bo := bo) (t := t) (k := k) (e := e) (owns := owns) HT2 OP (thCells bs (flagT σ.th e.other.toNat true)) o 0 0 htc2)
      | refine sl_nil ?_
      | refine thn_k ?_
      | refine swp_ret ?_
      )
    exact end_retL [stepB βx βs bt bo t k e owns, specB βs bt bo n ct kk co σ.rel, HT2, HO, updB OP β (oblk (doneO o 0 0))] (resOk_one (resV_tmp rfl)) ⟨rfl, HT2, HO, _, rfl, (m.flg osT2).opn hb⟩
  · have hF : interruptF σ t k o ow dp e owns = (false, σ) := by unfold interruptF; rw [if_neg hg]
    rw [hF]
    by_cases hoa : e.other = o.arg
    · have ha : e.act ≠ 6 := fun h => hg ⟨h, hoa⟩
      have hi0 : PFn Try.prog 59 [ptr βx, i64 6, .bool true] [stepB βx βs bt bo t k e owns] (.bool false) := (hi 6 true).to (by simp [ha])
      refine t_of_body Try.func44 rfl (Nat.le_of_ble_eq_true rfl) fun F => ?_
      repeat' (first
        | refine swp_seq ?_
        | (refine gk 0 rfl ?_; first | refine sl_op rfl rfl rfl (by first | exact opv_assign rfl rfl ) ?_ )
        | refine sl_region rfl ?_
        | refine sl_nil ?_
        )
      refine sl_draw (by kernel_rfl) (by kernel_rfl) rfl ?_
      repeat' (first
        | refine swp_seq ?_
        | (refine gk 0 rfl ?_; first | refine sl_op rfl rfl rfl (by first | exact opv_move rfl rfl | exact opv_assign rfl rfl | exact opv_not_f rfl rfl ) ?_ )
        | (refine gk 2 rfl ?_; first | refine sl_yes rfl rfl rfl (by first | exact opv_eql rfl rfl rfl ) (by first | omega ) ?_ )
        | (refine gk 3 rfl ?_; first | refine sl_op rfl rfl rfl (by first | exact opv_load rfl (by exact rfl) rfl (by exact rfl) | exact opv_fieldAddr rfl rfl | exact opv_fieldAddrE rfl rfl (by first | assumption ) | exact opv_loadEx rfl (by exact rfl) (by infer_instance) (by first | assumption ) ) ?_ )
        | (refine gk 4 rfl ?_; first | refine sl_op rfl rfl rfl (opv_call rfl rfl rfl rfl rfl (hi0)) ?_)
        | (refine gk 5 rfl ?_; first | refine sl_op rfl rfl rfl (by first | exact opv_nilCheck rfl rfl | exact opv_nilCheckE rfl rfl ) ?_ )
        | refine sl_region rfl ?_
        | refine sl_nil ?_
        | refine thn_k ?_
        | refine swp_true rfl ?_
        | refine swp_ret ?_
        | refine thn_ret ?_
        )
      exact end_retL [stepB βx βs bt bo t k e owns, specB βs bt bo n ct kk co σ.rel, HT, HO, OP] (resOk_one (resV_tmp rfl)) ⟨rfl, HT, HO, _, rfl, m⟩
    · have hi0 : PFn Try.prog 59 [ptr βx, i64 6, .bool false] [stepB βx βs bt bo t k e owns] (.bool false) := (hi 6 false).to (by simp)
      refine t_of_body Try.func44 rfl (Nat.le_of_ble_eq_true rfl) fun F => ?_
      repeat' (first
        | refine swp_seq ?_
        | (refine gk 0 rfl ?_; first | refine sl_op rfl rfl rfl (by first | exact opv_assign rfl rfl ) ?_ )
        | refine sl_region rfl ?_
        | refine sl_nil ?_
        )
      refine sl_draw (by kernel_rfl) (by kernel_rfl) rfl ?_
      repeat' (first
        | refine swp_seq ?_
        | (refine gk 0 rfl ?_; first | refine sl_op rfl rfl rfl (by first | exact opv_move rfl rfl | exact opv_assign rfl rfl | exact opv_not_f rfl rfl ) ?_ )
        | (refine gk 2 rfl ?_; first | refine sl_no rfl rfl rfl (by first | exact opv_eql rfl rfl rfl ) (by first | omega ) ?_ )
        | (refine gk 3 rfl ?_; first | refine sl_op rfl rfl rfl (by first | exact opv_load rfl (by exact rfl) rfl (by exact rfl) | exact opv_fieldAddr rfl rfl | exact opv_fieldAddrE rfl rfl (by first | assumption ) | exact opv_loadEx rfl (by exact rfl) (by infer_instance) (by first | assumption ) ) ?_ )
        | (refine gk 4 rfl ?_; first | refine sl_op rfl rfl rfl (opv_call rfl rfl rfl rfl rfl (hi0)) ?_)
        | (refine gk 5 rfl ?_; first | refine sl_op rfl rfl rfl (by first | exact opv_nilCheck rfl rfl | exact opv_nilCheckE rfl rfl ) ?_ )
        | refine sl_region rfl ?_
        | refine sl_nil ?_
        | refine thn_k ?_
        | refine swp_true rfl ?_
        | refine swp_ret ?_
        | refine thn_ret ?_
        )
      exact end_retL [stepB βx βs bt bo t k e owns, specB βs bt bo n ct kk co σ.rel, HT, HO, OP] (resOk_one (resV_tmp rfl)) ⟨rfl, HT, HO, _, rfl, m⟩
theorem notify_calls (m : MemOk bt bo ct co HT HO OP bs σ) (hb : bs[t]? = some (some β)) (ht : ∃ c f, σ.th[t]? = some ⟨some o, c, f⟩) (hk : σ.ob[k]? = some (ow, dp)) (hn : σ.th.length = n) (hsm : n ≤ 1000000) (hfar : o.far ≠ 2) :
    SL.T Try.prog 43 [ptr βx] [stepB βx βs bt bo t k e owns, specB βs bt bo n ct kk co σ.rel, HT, HO, OP] (StepQ βx βs bt bo n ct kk co t k e owns bs (notifyF σ t k o ow dp e owns)) := by
  obtain ⟨c, f, ht⟩ := ht
  haveI := m.nT
  haveI := m.nO
  haveI slT := m.hT.sl
  haveI slO := m.hO.sl
  have osO := m.hO
  have htc : (thCells bs σ.th)[t * 3]? = some (ptr β) := (thCells_at hb ht).1
  have htc0 : (thCells bs σ.th)[t * 3 + 0]? = some (ptr β) := htc
  have htf : (thCells bs σ.th)[t * 3 + 2]? = some (.bool f) := (thCells_at hb ht).2.2
  have htl := (List.getElem?_eq_some_iff.1 htc).1
  obtain ⟨hk0, hk1⟩ := obCells_at hk
  have hk0' : (obCells σ.ob)[k * 2 + 0]? = some (i64 ow) := hk0
  have hol := obCells_length σ.ob
  have hkl : k < σ.ob.length := (List.getElem?_eq_some_iff.1 hk).1
  have hkl2 : k * 2 < (obCells σ.ob).length := by omega
  haveI i1 : InH OP β (oblk o) := ⟨by
    obtain ⟨b, g1, g2, g3⟩ := m.op.at_ _ _ ht
    obtain ⟨β', rfl, h⟩ := g3 o rfl
    rw [hb] at g1; cases g1; exact h⟩
  have hp := fun a h => plain_calls (βx := βx) (βs := βs) (bt := bt) (bo := bo) (t := t) (k := k) (e := e) (owns := owns) a h
  have hi := fun a h => is_calls (βx := βx) (βs := βs) (bt := bt) (bo := bo) (t := t) (k := k) (e := e) (owns := owns) a h
  have hr := fun c h => refuses_calls (βx := βx) (βs := βs) (β := β) (bt := bt) (bo := bo) (t := t) (k := k) (e := e) (owns := owns) HT OP (thCells bs σ.th) o c h htc
  have hd := fun c v => done_calls (βx := βx) (βs := βs) (β := β) (bt := bt) (bo := bo) (t := t) (k := k) (e := e) (owns := owns) HT OP (thCells bs σ.th) o c v htc
  have hid := updB_id i1
  have osT := m.hT
  have hl3 := thCells_length bs σ.th m.op.len
  have hL := longest_calls βs bt bo n ct kk co σ.rel e.obj HT OP bs σ.th hn hsm m.op
  have hd0 := hd 0 0
  by_cases hg : e.act = 3 ∧ owns = true ∧ e.other = longF σ.th e.obj
  · have hi0 : PFn Try.prog 59 [ptr βx, i64 3, .bool true] [stepB βx βs bt bo t k e owns] (.bool true) := (hi 3 true).to (by simp [hg.1])
    have hg' := hg
    obtain ⟨ha, rfl, hol2⟩ := hg'
    by_cases hneg : e.other < 0
    · have hF : notifyF σ t k o ow dp e true = (true, σ.opn t (doneO o 0 0)) := by unfold notifyF; rw [if_pos hg, if_pos hneg]
      rw [hF]
      refine t_of_body Try.func43 rfl (Nat.le_of_ble_eq_true rfl) fun F => ?_
      repeat' (first
        | refine swp_seq ?_
        | (refine gk 0 rfl ?_; first | refine sl_op rfl rfl rfl (by first | exact opv_move rfl rfl | exact opv_assign rfl rfl ) ?_ )
        | (refine gk 3 rfl ?_; first | refine sl_op rfl rfl rfl (by first | exact opv_load rfl (by exact rfl) rfl (by exact rfl) | exact opv_fieldAddr rfl rfl ) ?_ )
        | (refine gk 5 rfl ?_; first | refine sl_op rfl rfl rfl (by first | exact opv_nilCheck rfl rfl ) ?_ )
        | refine sl_region rfl ?_
        | refine sl_nil ?_
        )
      refine sl_draw (by kernel_rfl) (by kernel_rfl) rfl ?_
      repeat' (first
        | refine swp_seq ?_
        | (refine gk 0 rfl ?_; first | refine sl_op rfl rfl rfl (by first | exact opv_move rfl rfl | exact opv_assign rfl rfl | exact opv_pick_t rfl rfl rfl | exact opv_pick_f rfl rfl rfl | exact opv_not_t rfl rfl ) ?_ | refine sl_pass rfl rfl rfl rfl ?_)
        | (refine gk 2 rfl ?_; first | refine sl_pass rfl rfl rfl rfl ?_ | refine sl_yes rfl rfl rfl (by first | exact opv_lss rfl rfl rfl | exact opv_geq rfl rfl rfl | exact opv_eql rfl rfl rfl ) (by first | omega ) ?_ | refine sl_no rfl rfl rfl (by first | exact opv_geq rfl rfl rfl | exact opv_eql rfl rfl rfl ) (by first | omega ) ?_ | refine sl_if rfl rfl rfl (by first | exact opv_eql rfl rfl rfl ) (fun h => ?_) (fun h => ?_) )
        | (refine gk 3 rfl ?_; first | refine sl_op rfl rfl rfl (by first | exact opv_load rfl (by exact rfl) rfl (by exact rfl) | exact opv_fieldAddr rfl rfl | exact opv_fieldAddrE rfl rfl (by first | assumption ) | exact opv_loadEx rfl (by exact rfl) (by infer_instance) (by first | assumption ) ) ?_ )
        | (refine gk 4 rfl ?_; first | refine sl_op rfl rfl rfl (opv_call rfl rfl rfl rfl rfl (hL)) ?_ | refine sl_op rfl rfl rfl (opv_call rfl rfl rfl rfl rfl (hi0)) ?_ | (refine sl_callT rfl rfl rfl rfl rfl rfl rfl rfl (hd0) ?_; rintro _ _ ⟨rfl, rfl⟩; refine ⟨_, _, rfl, rfl, ?_⟩))
        | (refine gk 5 rfl ?_; first | refine sl_op rfl rfl rfl (by first | exact opv_nilCheck rfl rfl | exact opv_nilCheckE rfl rfl ) ?_ )
        | refine sl_region rfl ?_
        | refine sl_nil ?_
        | refine thn_k ?_
        | refine swp_true rfl ?_
        | refine swp_false rfl ?_
        | refine swp_ret ?_
        | refine swp_skip ?_
        | refine thn_ret ?_
        )
      all_goals first | (exfalso; omega) | exact end_retL [stepB βx βs bt bo t k e true, specB βs bt bo n ct kk co σ.rel, HT, HO, updB OP β (oblk (doneO o 0 0))] (resOk_one (resV_tmp rfl)) ⟨rfl, HT, HO, _, rfl, m.opn hb⟩
    · obtain ⟨u, x, y, hu, hx, hy, -, hyf⟩ := longF_of (th := σ.th) (o := e.obj) (by omega)
      have heu : e.other = (u : Int) := by omega
      have hut : u ≠ t := fun q => by
        subst q
        rw [ht] at hx; cases hx
        simp only [Option.some.injEq] at hy
        subst hy; exact hfar hyf
      have hun : e.other.toNat = u := by omega
      have hyo : σ.opnOf u = y := by simp [St.opnOf, hx, hy]
      obtain ⟨b2, hb2, -, hb3⟩ := m.op.at_ _ _ hx
      obtain ⟨βu, rfl, hβu⟩ := hb3 y hy
      have hne : β ≠ βu := fun q => hut (m.op.one u t β (by rw [hb2, q]) hb)
      have iu : InH OP βu (oblk y) := ⟨hβu⟩
      haveI := iu
      have hcu : (thCells bs σ.th)[e.other.toNat * 3 + 0]? = some (ptr βu) := by rw [hun]; exact (thCells_at hb2 hx).1
      have hul : u < σ.th.length := (List.getElem?_eq_some_iff.1 hx).1
      have hlo : e.other.toNat * 3 < (thCells bs σ.th).length := by omega
      haveI i2 : InH (updB (updB OP βu (oblk { y with far := 4 })) βu (oblk (woken y))) β (oblk o) := InH.upd_ne (InH.upd_ne i1 hne) hne
      have m2 : MemOk bt bo ct co HT HO (updB (updB OP βu (oblk { y with far := 4 })) βu (oblk (woken y))) bs (σ.opn u (woken y)) := by rw [updB_updB]; exact m.opn hb2
      have hd2 := done_calls (βx := βx) (βs := βs) (β := β) (bt := bt) (bo := bo) (t := t) (k := k) (e := e) (owns := true) HT (updB (updB OP βu (oblk { y with far := 4 })) βu (oblk (woken y))) (thCells bs σ.th) o 0 0 htc
      by_cases hop : o.op = 4
      · have hF : notifyF σ t k o ow dp e true = (true, (σ.opn u (woken y)).opn t (doneO o 0 0)) := by unfold notifyF; rw [if_pos hg, if_neg hneg, if_pos hop, hun, hyo]
        rw [hF]
        refine t_of_body Try.func43 rfl (Nat.le_of_ble_eq_true rfl) fun F => ?_
        repeat' (first
          | refine swp_seq ?_
          | (refine gk 0 rfl ?_; first | refine sl_op rfl rfl rfl (by first | exact opv_move rfl rfl | exact opv_assign rfl rfl ) ?_ )
          | (refine gk 3 rfl ?_; first | refine sl_op rfl rfl rfl (by first | exact opv_load rfl (by exact rfl) rfl (by exact rfl) | exact opv_fieldAddr rfl rfl ) ?_ )
          | (refine gk 5 rfl ?_; first | refine sl_op rfl rfl rfl (by first | exact opv_nilCheck rfl rfl ) ?_ )
          | refine sl_region rfl ?_
          | refine sl_nil ?_
          )
        refine sl_draw (by kernel_rfl) (by kernel_rfl) rfl ?_
        repeat' (first
          | refine swp_seq ?_
          | (refine gk 0 rfl ?_; first | refine sl_op rfl rfl rfl (by first | exact opv_move rfl rfl | exact opv_pick_t rfl rfl rfl | exact opv_not_t rfl rfl ) ?_ )
          | (refine gk 2 rfl ?_; first | refine sl_yes rfl rfl rfl (by first | exact opv_geq rfl rfl rfl | exact opv_eql rfl rfl rfl ) (by first | omega ) ?_ )
          | (refine gk 3 rfl ?_; first | refine sl_op rfl rfl rfl (by first | exact opv_load rfl (by exact rfl) rfl (by exact rfl) | exact opv_fieldAddr rfl rfl ) ?_ )
          | (refine gk 4 rfl ?_; first | refine sl_op rfl rfl rfl (opv_call rfl rfl rfl rfl rfl (hL)) ?_ | refine sl_op rfl rfl rfl (opv_call rfl rfl rfl rfl rfl (hi0)) ?_)
          | (refine gk 5 rfl ?_; first | refine sl_op rfl rfl rfl (by first | exact opv_nilCheck rfl rfl ) ?_ )
          | refine sl_region rfl ?_
          | refine sl_nil ?_
          | refine thn_k ?_
          | refine swp_true rfl ?_
          | refine swp_false rfl ?_
          | refine swp_skip ?_
          )
        refine sl_drawC [.q [0, 1, 2, 3, 4, 5, 6, 7, 8, 9, 10, 11, 12, 13, 14, 15, 16, 17, 18, 19, 20, 21], .f [22], .q [23, 24], .h true 25, .q [26, 27], .h true 28] [] (by kernel_rfl) (by kernel_rfl) (by kernel_rfl) (by kernel_rfl) ?_
        repeat' (first
          | refine swp_seq ?_
          | (refine gk 0 rfl ?_; first | refine sl_op rfl rfl rfl (by first | exact opv_move rfl rfl | exact opv_assign rfl rfl | exact opv_pick_t rfl rfl rfl ) ?_ | refine sl_pass rfl rfl rfl rfl ?_)
          | (refine gk 2 rfl ?_; first | refine sl_pass rfl rfl rfl rfl ?_ | refine sl_yes rfl rfl rfl (by first | exact opv_eql rfl rfl rfl ) (by first | omega ) ?_ )
          | (refine gk 3 rfl ?_; first | refine sl_op rfl rfl rfl (by first | exact opv_load rfl (by exact rfl) rfl (by exact rfl) | exact opv_fieldAddr rfl rfl | exact opv_indexAddrI rfl rfl rfl (by omega) (by omega) (by first | omega ) | exact opv_fieldAddrE rfl rfl (by first | assumption ) | exact opv_loadEx rfl (by exact rfl) (by infer_instance) (by first | assumption ) ) ?_ )
          | (refine gk 4 rfl ?_; first | (refine sl_callT rfl rfl rfl rfl rfl rfl rfl rfl (hd2) ?_; rintro _ _ ⟨rfl, rfl⟩; refine ⟨_, _, rfl, rfl, ?_⟩))
          | (refine gk 5 rfl ?_; first | refine sl_op rfl rfl rfl (by first | exact opv_nilCheck rfl rfl | exact opv_nilCheckE rfl rfl | exact opv_build rfl rfl (by exact rfl) ) ?_ )
          | refine sl_region rfl ?_
          | refine chu_nil ?_
          | refine chu_q rfl ?_
          | refine chu_f rfl ?_
          | refine chu_storeU rfl rfl rfl rfl rfl rfl iu rfl rfl rfl rfl ?_
          | refine chu_storeU (h := updB OP βu (oblk { y with far := 4 })) rfl rfl rfl rfl rfl rfl InH.upd rfl rfl rfl rfl ?_
          | refine sl_nil ?_
          | refine thn_k ?_
          | refine swp_true rfl ?_
          | refine swp_ret ?_
          | refine thn_ret ?_
          )
        exact end_retL [stepB βx βs bt bo t k e true, specB βs bt bo n ct kk co σ.rel, HT, HO, updB (updB (updB OP βu (oblk { y with far := 4 })) βu (oblk (woken y))) β (oblk (doneO o 0 0))] (resOk_one (resV_tmp rfl)) ⟨rfl, HT, HO, _, rfl, m2.opn hb⟩
      · have hF : notifyF σ t k o ow dp e true = (true, (σ.opn u (woken y)).opn t { o with far := 1 }) := by unfold notifyF; rw [if_pos hg, if_neg hneg, if_neg hop, hun, hyo]
        rw [hF]
        refine t_of_body Try.func43 rfl (Nat.le_of_ble_eq_true rfl) fun F => ?_
        repeat' (first
          | refine swp_seq ?_
          | (refine gk 0 rfl ?_; first | refine sl_op rfl rfl rfl (by first | exact opv_move rfl rfl | exact opv_assign rfl rfl ) ?_ )
          | (refine gk 3 rfl ?_; first | refine sl_op rfl rfl rfl (by first | exact opv_load rfl (by exact rfl) rfl (by exact rfl) | exact opv_fieldAddr rfl rfl ) ?_ )
          | (refine gk 5 rfl ?_; first | refine sl_op rfl rfl rfl (by first | exact opv_nilCheck rfl rfl ) ?_ )
          | refine sl_region rfl ?_
          | refine sl_nil ?_
          )
        refine sl_draw (by kernel_rfl) (by kernel_rfl) rfl ?_
        repeat' (first
          | refine swp_seq ?_
          | (refine gk 0 rfl ?_; first | refine sl_op rfl rfl rfl (by first | exact opv_move rfl rfl | exact opv_pick_t rfl rfl rfl | exact opv_not_t rfl rfl ) ?_ )
          | (refine gk 2 rfl ?_; first | refine sl_yes rfl rfl rfl (by first | exact opv_geq rfl rfl rfl | exact opv_eql rfl rfl rfl ) (by first | omega ) ?_ )
          | (refine gk 3 rfl ?_; first | refine sl_op rfl rfl rfl (by first | exact opv_load rfl (by exact rfl) rfl (by exact rfl) | exact opv_fieldAddr rfl rfl ) ?_ )
          | (refine gk 4 rfl ?_; first | refine sl_op rfl rfl rfl (opv_call rfl rfl rfl rfl rfl (hL)) ?_ | refine sl_op rfl rfl rfl (opv_call rfl rfl rfl rfl rfl (hi0)) ?_)
          | (refine gk 5 rfl ?_; first | refine sl_op rfl rfl rfl (by first | exact opv_nilCheck rfl rfl ) ?_ )
          | refine sl_region rfl ?_
          | refine sl_nil ?_
          | refine thn_k ?_
          | refine swp_true rfl ?_
          | refine swp_false rfl ?_
          | refine swp_skip ?_
          )
        refine sl_drawC [.q [0, 1, 2, 3, 4, 5, 6, 7, 8, 9, 10, 11, 12, 13, 14, 15, 16, 17, 18, 19, 20, 21], .f [22], .q [23, 24], .h true 25, .q [26, 27], .h true 28] [] (by kernel_rfl) (by kernel_rfl) (by kernel_rfl) (by kernel_rfl) ?_
        repeat' (first
          | refine sl_storeU rfl rfl rfl rfl rfl i2 rfl rfl rfl rfl ?_
          | refine swp_seq ?_
          | (refine gk 0 rfl ?_; first | refine sl_op rfl rfl rfl (by first | exact opv_move rfl rfl | exact opv_assign rfl rfl | exact opv_pick_f rfl rfl rfl ) ?_ )
          | (refine gk 2 rfl ?_; first | refine sl_no rfl rfl rfl (by first | exact opv_lss rfl rfl rfl | exact opv_eql rfl rfl rfl ) (by first | omega ) ?_ )
          | (refine gk 3 rfl ?_; first | refine sl_op rfl rfl rfl (by first | exact opv_load rfl (by exact rfl) rfl (by exact rfl) | exact opv_fieldAddr rfl rfl | exact opv_indexAddrI rfl rfl rfl (by omega) (by omega) (by first | omega ) | exact opv_fieldAddrE rfl rfl (by first | assumption ) | exact opv_loadEx rfl (by exact rfl) (by infer_instance) (by first | assumption ) ) ?_ )
          | (refine gk 5 rfl ?_; first | refine sl_op rfl rfl rfl (by first | exact opv_nilCheck rfl rfl | exact opv_nilCheckE rfl rfl | exact opv_build rfl rfl (by exact rfl) ) ?_ )
          | refine sl_region rfl ?_
          | refine chu_nil ?_
          | refine chu_q rfl ?_
          | refine chu_f rfl ?_
          | refine chu_storeU rfl rfl rfl rfl rfl rfl iu rfl rfl rfl rfl ?_
          | refine chu_storeU (h := updB OP βu (oblk { y with far := 4 })) rfl rfl rfl rfl rfl rfl InH.upd rfl rfl rfl rfl ?_
          | refine sl_nil ?_
          | refine thn_k ?_
          | refine swp_false rfl ?_
          | refine swp_ret ?_
          | refine swp_skip ?_
          )
        exact end_retL [stepB βx βs bt bo t k e true, specB βs bt bo n ct kk co σ.rel, HT, HO, updB (updB (updB OP βu (oblk { y with far := 4 })) βu (oblk (woken y))) β (oblk { o with far := 1 })] (resOk_one (resV_tmp rfl)) ⟨rfl, HT, HO, _, rfl, m2.opn hb⟩
  · have hF : notifyF σ t k o ow dp e owns = if refB o e 4 (!owns) = true then (true, σ.opn t (doneO o 4 0)) else (false, σ) := by unfold notifyF; rw [if_neg hg]
    rw [hF]
    have i3f : PFn Try.prog 59 [ptr βx, i64 3, .bool false] [stepB βx βs bt bo t k e owns] (.bool false) := (hi 3 false).to (by simp)
    have hr4 := hr 4 (!owns)
    by_cases hc : owns = true ∧ e.other = longF σ.th e.obj
    · have ha : e.act ≠ 3 := fun h => hg ⟨h, hc⟩
      obtain ⟨rfl, hol2⟩ := hc
      have i3t : PFn Try.prog 59 [ptr βx, i64 3, .bool true] [stepB βx βs bt bo t k e true] (.bool false) := (hi 3 true).to (by simp [ha])
      have r4 : refB o e 4 (!true) = false := by simp [refB]
      simp only [r4, Bool.false_eq_true, if_false, hid] at hr4 ⊢
      refine t_of_body Try.func43 rfl (Nat.le_of_ble_eq_true rfl) fun F => ?_
      repeat' (first
        | refine swp_seq ?_
        | (refine gk 0 rfl ?_; first | refine sl_op rfl rfl rfl (by first | exact opv_move rfl rfl | exact opv_assign rfl rfl ) ?_ )
        | (refine gk 3 rfl ?_; first | refine sl_op rfl rfl rfl (by first | exact opv_load rfl (by exact rfl) rfl (by exact rfl) | exact opv_fieldAddr rfl rfl ) ?_ )
        | (refine gk 5 rfl ?_; first | refine sl_op rfl rfl rfl (by first | exact opv_nilCheck rfl rfl ) ?_ )
        | refine sl_region rfl ?_
        | refine sl_nil ?_
        )
      refine sl_draw (by kernel_rfl) (by kernel_rfl) rfl ?_
      repeat' (first
        | refine swp_seq ?_
        | (refine gk 0 rfl ?_; first | refine sl_op rfl rfl rfl (by first | exact opv_move rfl rfl | exact opv_assign rfl rfl | exact opv_pick_t rfl rfl rfl | exact opv_not_t rfl rfl | exact opv_not_f rfl rfl ) ?_ )
        | (refine gk 2 rfl ?_; first | refine sl_yes rfl rfl rfl (by first | exact opv_eql rfl rfl rfl ) (by first | omega ) ?_ )
        | (refine gk 3 rfl ?_; first | refine sl_op rfl rfl rfl (by first | exact opv_load rfl (by exact rfl) rfl (by exact rfl) | exact opv_fieldAddr rfl rfl ) ?_ )
        | (refine gk 4 rfl ?_; first | refine sl_op rfl rfl rfl (opv_call rfl rfl rfl rfl rfl (hL)) ?_ | refine sl_op rfl rfl rfl (opv_call rfl rfl rfl rfl rfl (i3t)) ?_ | (refine sl_callT rfl rfl rfl rfl rfl rfl rfl rfl (hr4) ?_; rintro _ _ ⟨rfl, rfl⟩; refine ⟨_, _, rfl, rfl, ?_⟩))
        | (refine gk 5 rfl ?_; first | refine sl_op rfl rfl rfl (by first | exact opv_nilCheck rfl rfl ) ?_ )
        | refine sl_region rfl ?_
        | refine sl_nil ?_
        | refine thn_k ?_
        | refine swp_true rfl ?_
        | refine swp_ret ?_
        | refine thn_ret ?_
        )
      exact end_retL [stepB βx βs bt bo t k e true, specB βs bt bo n ct kk co σ.rel, HT, HO, OP] (resOk_one (resV_tmp rfl)) ⟨rfl, HT, HO, _, rfl, m⟩
    · cases owns with
      | true =>
        have hol2 : e.other ≠ longF σ.th e.obj := fun h => hc ⟨rfl, h⟩
        have r4 : refB o e 4 (!true) = false := by simp [refB]
        simp only [r4, Bool.false_eq_true, if_false, hid] at hr4 ⊢
        refine t_of_body Try.func43 rfl (Nat.le_of_ble_eq_true rfl) fun F => ?_
        repeat' (first
          | refine swp_seq ?_
          | (refine gk 0 rfl ?_; first | refine sl_op rfl rfl rfl (by first | exact opv_move rfl rfl | exact opv_assign rfl rfl ) ?_ )
          | (refine gk 3 rfl ?_; first | refine sl_op rfl rfl rfl (by first | exact opv_load rfl (by exact rfl) rfl (by exact rfl) | exact opv_fieldAddr rfl rfl ) ?_ )
          | (refine gk 5 rfl ?_; first | refine sl_op rfl rfl rfl (by first | exact opv_nilCheck rfl rfl ) ?_ )
          | refine sl_region rfl ?_
          | refine sl_nil ?_
          )
        refine sl_draw (by kernel_rfl) (by kernel_rfl) rfl ?_
        repeat' (first
          | refine swp_seq ?_
          | (refine gk 0 rfl ?_; first | refine sl_op rfl rfl rfl (by first | exact opv_move rfl rfl | exact opv_assign rfl rfl | exact opv_pick_t rfl rfl rfl | exact opv_not_t rfl rfl | exact opv_not_f rfl rfl ) ?_ )
          | (refine gk 2 rfl ?_; first | refine sl_no rfl rfl rfl (by first | exact opv_eql rfl rfl rfl ) (by first | omega ) ?_ )
          | (refine gk 3 rfl ?_; first | refine sl_op rfl rfl rfl (by first | exact opv_load rfl (by exact rfl) rfl (by exact rfl) | exact opv_fieldAddr rfl rfl ) ?_ )
          | (refine gk 4 rfl ?_; first | refine sl_op rfl rfl rfl (opv_call rfl rfl rfl rfl rfl (hL)) ?_ | refine sl_op rfl rfl rfl (opv_call rfl rfl rfl rfl rfl (i3f)) ?_ | (refine sl_callT rfl rfl rfl rfl rfl rfl rfl rfl (hr4) ?_; rintro _ _ ⟨rfl, rfl⟩; refine ⟨_, _, rfl, rfl, ?_⟩))
          | (refine gk 5 rfl ?_; first | refine sl_op rfl rfl rfl (by first | exact opv_nilCheck rfl rfl ) ?_ )
          | refine sl_region rfl ?_
          | refine sl_nil ?_
          | refine thn_k ?_
          | refine swp_true rfl ?_
          | refine swp_ret ?_
          | refine thn_ret ?_
          )
        exact end_retL [stepB βx βs bt bo t k e true, specB βs bt bo n ct kk co σ.rel, HT, HO, OP] (resOk_one (resV_tmp rfl)) ⟨rfl, HT, HO, _, rfl, m⟩
      | false =>
        cases r4 : refB o e 4 (!false) with
        | true =>
          simp only [r4, if_true] at hr4 ⊢
          refine t_of_body Try.func43 rfl (Nat.le_of_ble_eq_true rfl) fun F => ?_
          repeat' (first
            | refine swp_seq ?_
            | (refine gk 0 rfl ?_; first | refine sl_op rfl rfl rfl (by first | exact opv_move rfl rfl | exact opv_assign rfl rfl ) ?_ )
            | (refine gk 3 rfl ?_; first | refine sl_op rfl rfl rfl (by first | exact opv_load rfl (by exact rfl) rfl (by exact rfl) | exact opv_fieldAddr rfl rfl ) ?_ )
            | (refine gk 5 rfl ?_; first | refine sl_op rfl rfl rfl (by first | exact opv_nilCheck rfl rfl ) ?_ )
            | refine sl_region rfl ?_
            | refine sl_nil ?_
            )
          refine sl_draw (by kernel_rfl) (by kernel_rfl) rfl ?_
          repeat' (first
            | refine swp_seq ?_
            | (refine gk 0 rfl ?_; first | refine sl_op rfl rfl rfl (by first | exact opv_move rfl rfl | exact opv_assign rfl rfl | exact opv_pick_f rfl rfl rfl | exact opv_not_f rfl rfl ) ?_ | refine sl_pass rfl rfl rfl rfl ?_)
            | (refine gk 2 rfl ?_; first | refine sl_pass rfl rfl rfl rfl ?_ )
            | (refine gk 3 rfl ?_; first | refine sl_op rfl rfl rfl (by first | exact opv_load rfl (by exact rfl) rfl (by exact rfl) | exact opv_fieldAddr rfl rfl ) ?_ | refine sl_pass rfl rfl rfl rfl ?_)
            | (refine gk 4 rfl ?_; first | refine sl_pass rfl rfl rfl rfl ?_ | refine sl_op rfl rfl rfl (opv_call rfl rfl rfl rfl rfl (i3f)) ?_ | (refine sl_callT rfl rfl rfl rfl rfl rfl rfl rfl (hr4) ?_; rintro _ _ ⟨rfl, rfl⟩; refine ⟨_, _, rfl, rfl, ?_⟩))
            | (refine gk 5 rfl ?_; first | refine sl_op rfl rfl rfl (by first | exact opv_nilCheck rfl rfl ) ?_ | refine sl_pass rfl rfl rfl rfl ?_ )
            | refine sl_region rfl ?_
            | refine sl_nil ?_
            | refine thn_k ?_
            | refine swp_true rfl ?_
            | refine swp_ret ?_
            | refine thn_ret ?_
            )
          exact end_retL [stepB βx βs bt bo t k e false, specB βs bt bo n ct kk co σ.rel, HT, HO, updB OP β (oblk (doneO o 4 0))] (resOk_one (resV_tmp rfl)) ⟨rfl, HT, HO, _, rfl, m.opn hb⟩
        | false =>
          simp only [r4, Bool.false_eq_true, if_false, hid] at hr4 ⊢
          refine t_of_body Try.func43 rfl (Nat.le_of_ble_eq_true rfl) fun F => ?_
          repeat' (first
            | refine swp_seq ?_
            | (refine gk 0 rfl ?_; first | refine sl_op rfl rfl rfl (by first | exact opv_move rfl rfl | exact opv_assign rfl rfl ) ?_ )
            | (refine gk 3 rfl ?_; first | refine sl_op rfl rfl rfl (by first | exact opv_load rfl (by exact rfl) rfl (by exact rfl) | exact opv_fieldAddr rfl rfl ) ?_ )
            | (refine gk 5 rfl ?_; first | refine sl_op rfl rfl rfl (by first | exact opv_nilCheck rfl rfl ) ?_ )
            | refine sl_region rfl ?_
            | refine sl_nil ?_
            )
          refine sl_draw (by kernel_rfl) (by kernel_rfl) rfl ?_
          repeat' (first
            | refine swp_seq ?_
            | (refine gk 0 rfl ?_; first | refine sl_op rfl rfl rfl (by first | exact opv_move rfl rfl | exact opv_assign rfl rfl | exact opv_pick_f rfl rfl rfl | exact opv_not_f rfl rfl ) ?_ | refine sl_pass rfl rfl rfl rfl ?_)
            | (refine gk 2 rfl ?_; first | refine sl_pass rfl rfl rfl rfl ?_ )
            | (refine gk 3 rfl ?_; first | refine sl_op rfl rfl rfl (by first | exact opv_load rfl (by exact rfl) rfl (by exact rfl) | exact opv_fieldAddr rfl rfl ) ?_ | refine sl_pass rfl rfl rfl rfl ?_)
            | (refine gk 4 rfl ?_; first | refine sl_pass rfl rfl rfl rfl ?_ | refine sl_op rfl rfl rfl (opv_call rfl rfl rfl rfl rfl (i3f)) ?_ | (refine sl_callT rfl rfl rfl rfl rfl rfl rfl rfl (hr4) ?_; rintro _ _ ⟨rfl, rfl⟩; refine ⟨_, _, rfl, rfl, ?_⟩))
            | (refine gk 5 rfl ?_; first | refine sl_op rfl rfl rfl (by first | exact opv_nilCheck rfl rfl ) ?_ | refine sl_pass rfl rfl rfl rfl ?_ )
            | refine sl_region rfl ?_
            | refine sl_nil ?_
            | refine thn_k ?_
            | refine swp_true rfl ?_
            | refine swp_ret ?_
            | refine thn_ret ?_
            )
          exact end_retL [stepB βx βs bt bo t k e false, specB βs bt bo n ct kk co σ.rel, HT, HO, OP] (resOk_one (resV_tmp rfl)) ⟨rfl, HT, HO, _, rfl, m⟩
end
end Go.Proofs.Ytimmclibnfdjhaa
