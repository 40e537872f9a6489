/- Leaving a monitor; looking; nothing; how a wait may end. -/
import Derived.Test.YtimmclibnfdjhaaWB5
set_option linter.unusedVariables false
set_option linter.unusedSimpArgs false
set_option linter.unusedSectionVars false
namespace Go.Proofs.Ytimmclibnfdjhaa
open Go.SL
set_option maxRecDepth 100000
set_option maxHeartbeats 16000000
attribute [local irreducible] SL.T PFn OpV SOL SWP HOp ChU
/-- OpExit. -/
def exitF (σ : St) (t k : Nat) (o : Opn) (ow dp : Int) (e : Ev) (owns : Bool) : Bool × St :=
  if (decide (e.act = 1) && (owns && decide (e.other = 0))) = true then (true, (σ.obj k (if dec dp = 0 then -1 else ow, dec dp)).opn t (doneO o 0 0))
  else if refB o e 4 (!owns) = true then (true, σ.opn t (doneO o 4 0))
  else (false, σ)
def holdsB (e : Ev) (owns : Bool) : Bool := (owns && decide (e.other = 1)) || (!owns && decide (e.other = 0))
/-- OpHolds. -/
def holdsF (σ : St) (t _k : Nat) (o : Opn) (_ow _dp : Int) (e : Ev) (owns : Bool) : Bool × St :=
  if (decide (e.act = 9) && holdsB e owns) = true then (true, σ.opn t (doneO o 0 e.other)) else (false, σ)
/-- OpDeflate. -/
def nothingF (σ : St) (t _k : Nat) (o : Opn) (_ow _dp : Int) (e : Ev) (_owns : Bool) : Bool × St :=
  if (decide (e.act = 10) && (true && decide (e.other = 0))) = true then (true, σ.opn t (doneO o 0 0)) else (false, σ)
def leavesB (o : Opn) (e : Ev) : Bool :=
  if e.other = 2 then decide (o.far = 3) else if e.other = 1 then decide (o.far = 2) && decide (o.op = 3) else decide (o.far = 2) && decide (e.other = 3)
section
variable {βx βs β : Nat} {bt bo : Option Addr} {n ct kk co t k : Nat} {e : Ev} {owns : Bool} {HT HO OP : Heap} {bs : List (Option Nat)} {σ : St} {o : Opn} {ow dp : Int}
theorem exit_calls (m : MemOk bt bo ct co HT HO OP bs σ) (hb : bs[t]? = some (some β)) (ht : ∃ c f, σ.th[t]? = some ⟨some o, c, f⟩) (hk : σ.ob[k]? = some (ow, dp)) :
    SL.T Try.prog 41 [ptr βx] [stepB βx βs bt bo t k e owns, specB βs bt bo n ct kk co σ.rel, HT, HO, OP] (StepQ βx βs bt bo n ct kk co t k e owns bs (exitF σ t k o ow dp e owns)) := by
  obtain ⟨c, f, ht⟩ := ht
  haveI := m.nT
  haveI := m.nO
  haveI slT := m.hT.sl
  haveI slO := m.hO.sl
  have osO := m.hO
  have htc : (thCells bs σ.th)[t * 3]? = some (ptr β) := (thCells_at hb ht).1
  have htc0 : (thCells bs σ.th)[t * 3 + 0]? = some (ptr β) := htc
  have htf : (thCells bs σ.th)[t * 3 + 2]? = some (.bool f) := (thCells_at hb ht).2.2
  have htl := (List.getElem?_eq_some_iff.1 htc).1
  obtain ⟨hk0, hk1⟩ := obCells_at hk
  have hk0' : (obCells σ.ob)[k * 2 + 0]? = some (i64 ow) := hk0
  have hol := obCells_length σ.ob
  have hkl : k < σ.ob.length := (List.getElem?_eq_some_iff.1 hk).1
  have hkl2 : k * 2 < (obCells σ.ob).length := by omega
  haveI i1 : InH OP β (oblk o) := ⟨by
    obtain ⟨b, g1, g2, g3⟩ := m.op.at_ _ _ ht
    obtain ⟨β', rfl, h⟩ := g3 o rfl
    rw [hb] at g1; cases g1; exact h⟩
  have hp := fun a h => plain_calls (βx := βx) (βs := βs) (bt := bt) (bo := bo) (t := t) (k := k) (e := e) (owns := owns) a h
  have hi := fun a h => is_calls (βx := βx) (βs := βs) (bt := bt) (bo := bo) (t := t) (k := k) (e := e) (owns := owns) a h
  have hr := fun c h => refuses_calls (βx := βx) (βs := βs) (β := β) (bt := bt) (bo := bo) (t := t) (k := k) (e := e) (owns := owns) HT OP (thCells bs σ.th) o c h htc
  have hd := fun c v => done_calls (βx := βx) (βs := βs) (β := β) (bt := bt) (bo := bo) (t := t) (k := k) (e := e) (owns := owns) HT OP (thCells bs σ.th) o c v htc
  have hid := updB_id i1
  have hp0 := hp 1 owns
  have hd0 := hd 0 0
  cases hg : (decide (e.act = 1) && (owns && decide (e.other = 0))) with
  | true =>
    have hF : exitF σ t k o ow dp e owns = (true, (σ.obj k (if dec dp = 0 then -1 else ow, dec dp)).opn t (doneO o 0 0)) := by simp only [exitF, hg, if_true]
    rw [hF]
    rw [hg] at hp0
    have hw : owns = true := by
      cases owns with
      | true => rfl
      | false => simp at hg
    subst hw
    have hset := obCells_set1 (dec dp) hk
    have hat := obCells_at (List.getElem?_set_self (l := σ.ob) (a := (ow, dec dp)) hkl)
    have hk2 : (obCells (σ.ob.set k (ow, dec dp)))[k * 2 + 1]? = some (i64 (dec dp)) := hat.2
    have hkl3 : k * 2 < (obCells (σ.ob.set k (ow, dec dp))).length := by rw [obCells_length, List.length_set]; omega
    by_cases h0 : dec dp = 0
    · rw [if_pos h0]
      have hset2 := obCells_set0 (-1) (List.getElem?_set_self (l := σ.ob) (a := (ow, dec dp)) hkl)
      rw [List.set_set] at hset2
      refine t_of_body Try.func41 rfl (Nat.le_of_ble_eq_true rfl) fun F => ?_
      repeat' (first
        | (refine sl_storeE rfl rfl rfl rfl rfl osO rfl rfl rfl (Nat.succ_pos _) (by rw [obCells_length]; simp; omega) hset (fun HO2 osO2 => ?_); haveI slO2 := osO2.sl)
        | refine sl_storeE rfl rfl rfl rfl rfl osO2 rfl rfl rfl (Nat.succ_pos _) (by rw [obCells_length, List.length_set]; simp; omega) hset2 (fun HO3 osO3 => ?_)
        | refine swp_seq ?_
        | (refine gk 0 rfl ?_; first | refine sl_op rfl rfl rfl (by first | exact opv_move rfl rfl | exact opv_assign rfl rfl ) ?_ )
        | (refine gk 1 rfl ?_; first | refine sl_op rfl rfl rfl (by first | exact opv_sub rfl rfl rfl ) ?_ )
        | (refine gk 2 rfl ?_; first | refine sl_yes rfl rfl rfl (by first | exact opv_eql rfl rfl rfl ) (by first | omega ) ?_ )
        | (refine gk 3 rfl ?_; first | refine sl_op rfl rfl rfl (by first | exact opv_load rfl (by exact rfl) rfl (by exact rfl) | exact opv_fieldAddr rfl rfl | exact opv_fieldAddrE rfl rfl (by first | assumption ) | exact opv_loadEx rfl (by exact rfl) (by infer_instance) (by first | assumption ) ) ?_ )
        | (refine gk 4 rfl ?_; first | refine sl_op rfl rfl rfl (opv_call rfl rfl rfl rfl rfl (hp0)) ?_ | (refine sl_callT rfl rfl rfl rfl rfl rfl rfl rfl (hd0) ?_; rintro _ _ ⟨rfl, rfl⟩; refine ⟨_, _, rfl, rfl, ?_⟩))
        | (refine gk 5 rfl ?_; first | refine sl_op rfl rfl rfl (by first | exact opv_nilCheck rfl rfl | exact opv_nilCheckE rfl rfl ) ?_ )
        | refine sl_region rfl ?_
        | refine sl_nil ?_
        | refine thn_k ?_
        | refine swp_true rfl ?_
        | refine swp_ret ?_
        | refine thn_ret ?_
        )
      exact end_retL [stepB βx βs bt bo t k e true, specB βs bt bo n ct kk co σ.rel, HT, HO3, updB OP β (oblk (doneO o 0 0))] (resOk_one (resV_tmp rfl)) ⟨rfl, HT, HO3, _, rfl, (m.obj osO3).opn hb⟩
    · rw [if_neg h0]
      refine t_of_body Try.func41 rfl (Nat.le_of_ble_eq_true rfl) fun F => ?_
      repeat' (first
        | (refine sl_storeE rfl rfl rfl rfl rfl osO rfl rfl rfl (Nat.succ_pos _) (by rw [obCells_length]; simp; omega) hset (fun HO2 osO2 => ?_); haveI slO2 := osO2.sl)
        | refine swp_seq ?_
        | (refine gk 0 rfl ?_; first | refine sl_op rfl rfl rfl (by first | exact opv_move rfl rfl | exact opv_assign rfl rfl ) ?_ )
        | (refine gk 1 rfl ?_; first | refine sl_op rfl rfl rfl (by first | exact opv_sub rfl rfl rfl ) ?_ )
        | (refine gk 2 rfl ?_; first | refine sl_no rfl rfl rfl (by first | exact opv_eql rfl rfl rfl ) (by first | omega ) ?_ )
        | (refine gk 3 rfl ?_; first | refine sl_op rfl rfl rfl (by first | exact opv_load rfl (by exact rfl) rfl (by exact rfl) | exact opv_fieldAddr rfl rfl | exact opv_fieldAddrE rfl rfl (by first | assumption ) | exact opv_loadEx rfl (by exact rfl) (by infer_instance) (by first | assumption ) ) ?_ )
        | (refine gk 4 rfl ?_; first | refine sl_op rfl rfl rfl (opv_call rfl rfl rfl rfl rfl (hp0)) ?_ | (refine sl_callT rfl rfl rfl rfl rfl rfl rfl rfl (hd0) ?_; rintro _ _ ⟨rfl, rfl⟩; refine ⟨_, _, rfl, rfl, ?_⟩))
        | (refine gk 5 rfl ?_; first | refine sl_op rfl rfl rfl (by first | exact opv_nilCheck rfl rfl | exact opv_nilCheckE rfl rfl ) ?_ )
        | refine sl_region rfl ?_
        | refine sl_nil ?_
        | refine thn_k ?_
        | refine swp_true rfl ?_
        | refine swp_false rfl ?_
        | refine swp_ret ?_
        | refine swp_skip ?_
        | refine thn_ret ?_
        )
      exact end_retL [stepB βx βs bt bo t k e true, specB βs bt bo n ct kk co σ.rel, HT, HO2, updB OP β (oblk (doneO o 0 0))] (resOk_one (resV_tmp rfl)) ⟨rfl, HT, HO2, _, rfl, (m.obj osO2).opn hb⟩
  | false =>
    have hF : exitF σ t k o ow dp e owns = if refB o e 4 (!owns) = true then (true, σ.opn t (doneO o 4 0)) else (false, σ) := by
      simp only [exitF, hg, Bool.false_eq_true, if_false]
    rw [hF]
    rw [hg] at hp0
    have hr4 := hr 4 (!owns)
    cases h4 : refB o e 4 (!owns) with
    | true =>
      simp only [h4, if_true] at hr4
      rw [if_pos rfl]
      refine t_of_body Try.func41 rfl (Nat.le_of_ble_eq_true rfl) fun F => ?_
      repeat' (first
        | refine swp_seq ?_
        | (refine gk 0 rfl ?_; first | refine sl_op rfl rfl rfl (by first | exact opv_move rfl rfl | exact opv_assign rfl rfl | exact opv_not rfl rfl ) ?_ )
        | (refine gk 3 rfl ?_; first | refine sl_op rfl rfl rfl (by first | exact opv_load rfl (by exact rfl) rfl (by exact rfl) | exact opv_fieldAddr rfl rfl ) ?_ )
        | (refine gk 4 rfl ?_; first | refine sl_op rfl rfl rfl (opv_call rfl rfl rfl rfl rfl (hp0)) ?_ | (refine sl_callT rfl rfl rfl rfl rfl rfl rfl rfl (hr4) ?_; rintro _ _ ⟨rfl, rfl⟩; refine ⟨_, _, rfl, rfl, ?_⟩))
        | (refine gk 5 rfl ?_; first | refine sl_op rfl rfl rfl (by first | exact opv_nilCheck rfl rfl ) ?_ )
        | refine sl_region rfl ?_
        | refine sl_nil ?_
        | refine thn_k ?_
        | refine swp_false rfl ?_
        | refine swp_ret ?_
        | refine swp_skip ?_
        )
      exact end_retL [stepB βx βs bt bo t k e owns, specB βs bt bo n ct kk co σ.rel, HT, HO, updB OP β (oblk (doneO o 4 0))] (resOk_one (resV_tmp rfl)) ⟨rfl, HT, HO, _, rfl, m.opn hb⟩
    | false =>
      simp only [h4, Bool.false_eq_true, if_false, hid] at hr4
      simp only [Bool.false_eq_true, if_false]
      refine t_of_body Try.func41 rfl (Nat.le_of_ble_eq_true rfl) fun F => ?_
      repeat' (first
        | refine swp_seq ?_
        | (refine gk 0 rfl ?_; first | refine sl_op rfl rfl rfl (by first | exact opv_move rfl rfl | exact opv_assign rfl rfl | exact opv_not rfl rfl ) ?_ )
        | (refine gk 3 rfl ?_; first | refine sl_op rfl rfl rfl (by first | exact opv_load rfl (by exact rfl) rfl (by exact rfl) | exact opv_fieldAddr rfl rfl ) ?_ )
        | (refine gk 4 rfl ?_; first | refine sl_op rfl rfl rfl (opv_call rfl rfl rfl rfl rfl (hp0)) ?_ | (refine sl_callT rfl rfl rfl rfl rfl rfl rfl rfl (hr4) ?_; rintro _ _ ⟨rfl, rfl⟩; refine ⟨_, _, rfl, rfl, ?_⟩))
        | (refine gk 5 rfl ?_; first | refine sl_op rfl rfl rfl (by first | exact opv_nilCheck rfl rfl ) ?_ )
        | refine sl_region rfl ?_
        | refine sl_nil ?_
        | refine thn_k ?_
        | refine swp_false rfl ?_
        | refine swp_ret ?_
        | refine swp_skip ?_
        )
      exact end_retL [stepB βx βs bt bo t k e owns, specB βs bt bo n ct kk co σ.rel, HT, HO, OP] (resOk_one (resV_tmp rfl)) ⟨rfl, HT, HO, _, rfl, m⟩
theorem holds_calls (m : MemOk bt bo ct co HT HO OP bs σ) (hb : bs[t]? = some (some β)) (ht : ∃ c f, σ.th[t]? = some ⟨some o, c, f⟩) (hk : σ.ob[k]? = some (ow, dp)) :
    SL.T Try.prog 45 [ptr βx] [stepB βx βs bt bo t k e owns, specB βs bt bo n ct kk co σ.rel, HT, HO, OP] (StepQ βx βs bt bo n ct kk co t k e owns bs (holdsF σ t k o ow dp e owns)) := by
  obtain ⟨c, f, ht⟩ := ht
  haveI := m.nT
  haveI := m.nO
  haveI slT := m.hT.sl
  haveI slO := m.hO.sl
  have osO := m.hO
  have htc : (thCells bs σ.th)[t * 3]? = some (ptr β) := (thCells_at hb ht).1
  have htc0 : (thCells bs σ.th)[t * 3 + 0]? = some (ptr β) := htc
  have htf : (thCells bs σ.th)[t * 3 + 2]? = some (.bool f) := (thCells_at hb ht).2.2
  have htl := (List.getElem?_eq_some_iff.1 htc).1
  obtain ⟨hk0, hk1⟩ := obCells_at hk
  have hk0' : (obCells σ.ob)[k * 2 + 0]? = some (i64 ow) := hk0
  have hol := obCells_length σ.ob
  have hkl : k < σ.ob.length := (List.getElem?_eq_some_iff.1 hk).1
  have hkl2 : k * 2 < (obCells σ.ob).length := by omega
  haveI i1 : InH OP β (oblk o) := ⟨by
    obtain ⟨b, g1, g2, g3⟩ := m.op.at_ _ _ ht
    obtain ⟨β', rfl, h⟩ := g3 o rfl
    rw [hb] at g1; cases g1; exact h⟩
  have hp := fun a h => plain_calls (βx := βx) (βs := βs) (bt := bt) (bo := bo) (t := t) (k := k) (e := e) (owns := owns) a h
  have hi := fun a h => is_calls (βx := βx) (βs := βs) (bt := bt) (bo := bo) (t := t) (k := k) (e := e) (owns := owns) a h
  have hr := fun c h => refuses_calls (βx := βx) (βs := βs) (β := β) (bt := bt) (bo := bo) (t := t) (k := k) (e := e) (owns := owns) HT OP (thCells bs σ.th) o c h htc
  have hd := fun c v => done_calls (βx := βx) (βs := βs) (β := β) (bt := bt) (bo := bo) (t := t) (k := k) (e := e) (owns := owns) HT OP (thCells bs σ.th) o c v htc
  have hid := updB_id i1
  have hi0 := hi 9 (holdsB e owns)
  have hd0 := hd 0 e.other
  cases hg : (decide (e.act = 9) && holdsB e owns) with
  | true =>
    have hF : holdsF σ t k o ow dp e owns = (true, σ.opn t (doneO o 0 e.other)) := by simp only [holdsF, hg, if_true]
    rw [hF]
    rw [hg] at hi0
    have hh : holdsB e owns = true := by simp only [Bool.and_eq_true] at hg; exact hg.2
    rw [hh] at hi0
    cases owns with
    | true =>
      have ho : e.other = 1 := by simpa [holdsB] using hh
      refine t_of_body Try.func45 rfl (Nat.le_of_ble_eq_true rfl) fun F => ?_
      repeat' (first
        | refine swp_seq ?_
        | (refine gk 0 rfl ?_; first | refine sl_op rfl rfl rfl (by first | exact opv_move rfl rfl | exact opv_assign rfl rfl | exact opv_pick_t rfl rfl rfl ) ?_ | refine sl_pass rfl rfl rfl rfl ?_)
        | (refine gk 2 rfl ?_; first | refine sl_pass rfl rfl rfl rfl ?_ | refine sl_yes rfl rfl rfl (by first | exact opv_eql rfl rfl rfl ) (by first | omega ) ?_ )
        | (refine gk 3 rfl ?_; first | refine sl_op rfl rfl rfl (by first | exact opv_load rfl (by exact rfl) rfl (by exact rfl) | exact opv_fieldAddr rfl rfl ) ?_ | refine sl_pass rfl rfl rfl rfl ?_)
        | (refine gk 4 rfl ?_; first | refine sl_op rfl rfl rfl (opv_call rfl rfl rfl rfl rfl (hi0)) ?_ | (refine sl_callT rfl rfl rfl rfl rfl rfl rfl rfl (hd0) ?_; rintro _ _ ⟨rfl, rfl⟩; refine ⟨_, _, rfl, rfl, ?_⟩))
        | (refine gk 5 rfl ?_; first | refine sl_op rfl rfl rfl (by first | exact opv_nilCheck rfl rfl ) ?_ | refine sl_pass rfl rfl rfl rfl ?_ )
        | refine sl_region rfl ?_
        | refine sl_nil ?_
        | refine thn_k ?_
        | refine swp_ret ?_
        )
      exact end_retL [stepB βx βs bt bo t k e true, specB βs bt bo n ct kk co σ.rel, HT, HO, updB OP β (oblk (doneO o 0 e.other))] (resOk_one (resV_tmp rfl)) ⟨rfl, HT, HO, _, rfl, m.opn hb⟩
    | false =>
      have ho : e.other = 0 := by simpa [holdsB] using hh
      refine t_of_body Try.func45 rfl (Nat.le_of_ble_eq_true rfl) fun F => ?_
      repeat' (first
        | refine swp_seq ?_
        | (refine gk 0 rfl ?_; first | refine sl_op rfl rfl rfl (by first | exact opv_move rfl rfl | exact opv_assign rfl rfl | exact opv_pick_t rfl rfl rfl | exact opv_pick_f rfl rfl rfl | exact opv_not_f rfl rfl ) ?_ | refine sl_pass rfl rfl rfl rfl ?_)
        | (refine gk 2 rfl ?_; first | refine sl_pass rfl rfl rfl rfl ?_ | refine sl_yes rfl rfl rfl (by first | exact opv_eql rfl rfl rfl ) (by first | omega ) ?_ )
        | (refine gk 3 rfl ?_; first | refine sl_op rfl rfl rfl (by first | exact opv_load rfl (by exact rfl) rfl (by exact rfl) | exact opv_fieldAddr rfl rfl ) ?_ | refine sl_pass rfl rfl rfl rfl ?_)
        | (refine gk 4 rfl ?_; first | refine sl_op rfl rfl rfl (opv_call rfl rfl rfl rfl rfl (hi0)) ?_ | (refine sl_callT rfl rfl rfl rfl rfl rfl rfl rfl (hd0) ?_; rintro _ _ ⟨rfl, rfl⟩; refine ⟨_, _, rfl, rfl, ?_⟩))
        | (refine gk 5 rfl ?_; first | refine sl_op rfl rfl rfl (by first | exact opv_nilCheck rfl rfl ) ?_ | refine sl_pass rfl rfl rfl rfl ?_ )
        | refine sl_region rfl ?_
        | refine sl_nil ?_
        | refine thn_k ?_
        | refine swp_ret ?_
        )
      exact end_retL [stepB βx βs bt bo t k e false, specB βs bt bo n ct kk co σ.rel, HT, HO, updB OP β (oblk (doneO o 0 e.other))] (resOk_one (resV_tmp rfl)) ⟨rfl, HT, HO, _, rfl, m.opn hb⟩
  | false =>
    have hF : holdsF σ t k o ow dp e owns = (false, σ) := by simp only [holdsF, hg, Bool.false_eq_true, if_false]
    rw [hF]
    rw [hg] at hi0
    obtain ⟨b, hbb⟩ : ∃ b, holdsB e owns = b := ⟨_, rfl⟩
    rw [hbb] at hi0
    cases owns with
    | true =>
      by_cases ho : e.other = 1
      · obtain rfl : b = true := by rw [← hbb]; simp [holdsB, ho]
        refine t_of_body Try.func45 rfl (Nat.le_of_ble_eq_true rfl) fun F => ?_
        repeat' (first
          | refine swp_seq ?_
          | (refine gk 0 rfl ?_; first | refine sl_op rfl rfl rfl (by first | exact opv_move rfl rfl | exact opv_assign rfl rfl | exact opv_pick_t rfl rfl rfl | exact opv_pick_f rfl rfl rfl ) ?_ | refine sl_pass rfl rfl rfl rfl ?_)
          | (refine gk 2 rfl ?_; first | refine sl_pass rfl rfl rfl rfl ?_ | refine sl_yes rfl rfl rfl (by first | exact opv_eql rfl rfl rfl ) (by first | omega ) ?_ )
          | (refine gk 3 rfl ?_; first | refine sl_op rfl rfl rfl (by first | exact opv_load rfl (by exact rfl) rfl (by exact rfl) | exact opv_fieldAddr rfl rfl ) ?_ | refine sl_pass rfl rfl rfl rfl ?_)
          | (refine gk 4 rfl ?_; first | refine sl_pass rfl rfl rfl rfl ?_ | refine sl_op rfl rfl rfl (opv_call rfl rfl rfl rfl rfl (hi0)) ?_)
          | (refine gk 5 rfl ?_; first | refine sl_op rfl rfl rfl (by first | exact opv_nilCheck rfl rfl ) ?_ | refine sl_pass rfl rfl rfl rfl ?_ )
          | refine sl_region rfl ?_
          | refine sl_nil ?_
          | refine thn_k ?_
          | refine swp_ret ?_
          )
        exact end_retL [stepB βx βs bt bo t k e true, specB βs bt bo n ct kk co σ.rel, HT, HO, OP] (resOk_one (resV_tmp rfl)) ⟨rfl, HT, HO, _, rfl, m⟩
      · obtain rfl : b = false := by rw [← hbb]; simp [holdsB, ho]
        refine t_of_body Try.func45 rfl (Nat.le_of_ble_eq_true rfl) fun F => ?_
        repeat' (first
          | refine swp_seq ?_
          | (refine gk 0 rfl ?_; first | refine sl_op rfl rfl rfl (by first | exact opv_move rfl rfl | exact opv_assign rfl rfl | exact opv_pick_t rfl rfl rfl | exact opv_pick_f rfl rfl rfl | exact opv_not_t rfl rfl ) ?_ | refine sl_pass rfl rfl rfl rfl ?_)
          | (refine gk 2 rfl ?_; first | refine sl_pass rfl rfl rfl rfl ?_ | refine sl_no rfl rfl rfl (by first | exact opv_eql rfl rfl rfl ) (by first | omega ) ?_ )
          | (refine gk 3 rfl ?_; first | refine sl_op rfl rfl rfl (by first | exact opv_load rfl (by exact rfl) rfl (by exact rfl) | exact opv_fieldAddr rfl rfl ) ?_ | refine sl_pass rfl rfl rfl rfl ?_)
          | (refine gk 4 rfl ?_; first | refine sl_pass rfl rfl rfl rfl ?_ | refine sl_op rfl rfl rfl (opv_call rfl rfl rfl rfl rfl (hi0)) ?_)
          | (refine gk 5 rfl ?_; first | refine sl_op rfl rfl rfl (by first | exact opv_nilCheck rfl rfl ) ?_ | refine sl_pass rfl rfl rfl rfl ?_ )
          | refine sl_region rfl ?_
          | refine sl_nil ?_
          | refine thn_k ?_
          | refine swp_ret ?_
          )
        exact end_retL [stepB βx βs bt bo t k e true, specB βs bt bo n ct kk co σ.rel, HT, HO, OP] (resOk_one (resV_tmp rfl)) ⟨rfl, HT, HO, _, rfl, m⟩
    | false =>
      by_cases ho : e.other = 0
      · obtain rfl : b = true := by rw [← hbb]; simp [holdsB, ho]
        refine t_of_body Try.func45 rfl (Nat.le_of_ble_eq_true rfl) fun F => ?_
        repeat' (first
          | refine swp_seq ?_
          | (refine gk 0 rfl ?_; first | refine sl_op rfl rfl rfl (by first | exact opv_move rfl rfl | exact opv_assign rfl rfl | exact opv_pick_t rfl rfl rfl | exact opv_pick_f rfl rfl rfl | exact opv_not_f rfl rfl ) ?_ | refine sl_pass rfl rfl rfl rfl ?_)
          | (refine gk 2 rfl ?_; first | refine sl_pass rfl rfl rfl rfl ?_ | refine sl_yes rfl rfl rfl (by first | exact opv_eql rfl rfl rfl ) (by first | omega ) ?_ )
          | (refine gk 3 rfl ?_; first | refine sl_op rfl rfl rfl (by first | exact opv_load rfl (by exact rfl) rfl (by exact rfl) | exact opv_fieldAddr rfl rfl ) ?_ | refine sl_pass rfl rfl rfl rfl ?_)
          | (refine gk 4 rfl ?_; first | refine sl_pass rfl rfl rfl rfl ?_ | refine sl_op rfl rfl rfl (opv_call rfl rfl rfl rfl rfl (hi0)) ?_)
          | (refine gk 5 rfl ?_; first | refine sl_op rfl rfl rfl (by first | exact opv_nilCheck rfl rfl ) ?_ | refine sl_pass rfl rfl rfl rfl ?_ )
          | refine sl_region rfl ?_
          | refine sl_nil ?_
          | refine thn_k ?_
          | refine swp_ret ?_
          )
        exact end_retL [stepB βx βs bt bo t k e false, specB βs bt bo n ct kk co σ.rel, HT, HO, OP] (resOk_one (resV_tmp rfl)) ⟨rfl, HT, HO, _, rfl, m⟩
      · obtain rfl : b = false := by rw [← hbb]; simp [holdsB, ho]
        refine t_of_body Try.func45 rfl (Nat.le_of_ble_eq_true rfl) fun F => ?_
        repeat' (first
          | refine swp_seq ?_
          | (refine gk 0 rfl ?_; first | refine sl_op rfl rfl rfl (by first | exact opv_move rfl rfl | exact opv_assign rfl rfl | exact opv_pick_t rfl rfl rfl | exact opv_pick_f rfl rfl rfl | exact opv_not_f rfl rfl ) ?_ | refine sl_pass rfl rfl rfl rfl ?_)
          | (refine gk 2 rfl ?_; first | refine sl_pass rfl rfl rfl rfl ?_ | refine sl_no rfl rfl rfl (by first | exact opv_eql rfl rfl rfl ) (by first | omega ) ?_ )
          | (refine gk 3 rfl ?_; first | refine sl_op rfl rfl rfl (by first | exact opv_load rfl (by exact rfl) rfl (by exact rfl) | exact opv_fieldAddr rfl rfl ) ?_ | refine sl_pass rfl rfl rfl rfl ?_)
          | (refine gk 4 rfl ?_; first | refine sl_pass rfl rfl rfl rfl ?_ | refine sl_op rfl rfl rfl (opv_call rfl rfl rfl rfl rfl (hi0)) ?_)
          | (refine gk 5 rfl ?_; first | refine sl_op rfl rfl rfl (by first | exact opv_nilCheck rfl rfl ) ?_ | refine sl_pass rfl rfl rfl rfl ?_ )
          | refine sl_region rfl ?_
          | refine sl_nil ?_
          | refine thn_k ?_
          | refine swp_ret ?_
          )
        exact end_retL [stepB βx βs bt bo t k e false, specB βs bt bo n ct kk co σ.rel, HT, HO, OP] (resOk_one (resV_tmp rfl)) ⟨rfl, HT, HO, _, rfl, m⟩
theorem nothing_calls (m : MemOk bt bo ct co HT HO OP bs σ) (hb : bs[t]? = some (some β)) (ht : ∃ c f, σ.th[t]? = some ⟨some o, c, f⟩) (hk : σ.ob[k]? = some (ow, dp)) :
    SL.T Try.prog 46 [ptr βx] [stepB βx βs bt bo t k e owns, specB βs bt bo n ct kk co σ.rel, HT, HO, OP] (StepQ βx βs bt bo n ct kk co t k e owns bs (nothingF σ t k o ow dp e owns)) := by
  obtain ⟨c, f, ht⟩ := ht
  haveI := m.nT
  haveI := m.nO
  haveI slT := m.hT.sl
  haveI slO := m.hO.sl
  have osO := m.hO
  have htc : (thCells bs σ.th)[t * 3]? = some (ptr β) := (thCells_at hb ht).1
  have htc0 : (thCells bs σ.th)[t * 3 + 0]? = some (ptr β) := htc
  have htf : (thCells bs σ.th)[t * 3 + 2]? = some (.bool f) := (thCells_at hb ht).2.2
  have htl := (List.getElem?_eq_some_iff.1 htc).1
  obtain ⟨hk0, hk1⟩ := obCells_at hk
  have hk0' : (obCells σ.ob)[k * 2 + 0]? = some (i64 ow) := hk0
  have hol := obCells_length σ.ob
  have hkl : k < σ.ob.length := (List.getElem?_eq_some_iff.1 hk).1
  have hkl2 : k * 2 < (obCells σ.ob).length := by omega
  haveI i1 : InH OP β (oblk o) := ⟨by
    obtain ⟨b, g1, g2, g3⟩ := m.op.at_ _ _ ht
    obtain ⟨β', rfl, h⟩ := g3 o rfl
    rw [hb] at g1; cases g1; exact h⟩
  have hp := fun a h => plain_calls (βx := βx) (βs := βs) (bt := bt) (bo := bo) (t := t) (k := k) (e := e) (owns := owns) a h
  have hi := fun a h => is_calls (βx := βx) (βs := βs) (bt := bt) (bo := bo) (t := t) (k := k) (e := e) (owns := owns) a h
  have hr := fun c h => refuses_calls (βx := βx) (βs := βs) (β := β) (bt := bt) (bo := bo) (t := t) (k := k) (e := e) (owns := owns) HT OP (thCells bs σ.th) o c h htc
  have hd := fun c v => done_calls (βx := βx) (βs := βs) (β := β) (bt := bt) (bo := bo) (t := t) (k := k) (e := e) (owns := owns) HT OP (thCells bs σ.th) o c v htc
  have hid := updB_id i1
  have hp0 := hp 10 true
  have hd0 := hd 0 0
  cases hg : (decide (e.act = 10) && (true && decide (e.other = 0))) with
  | true =>
    have hF : nothingF σ t k o ow dp e owns = (true, σ.opn t (doneO o 0 0)) := by simp only [nothingF, hg, if_true]
    rw [hF]
    rw [hg] at hp0
    refine t_of_body Try.func46 rfl (Nat.le_of_ble_eq_true rfl) fun F => ?_
    repeat' (first
      | refine swp_seq ?_
      | (refine gk 0 rfl ?_; first | refine sl_op rfl rfl rfl (by first | exact opv_move rfl rfl | exact opv_assign rfl rfl | exact opv_pick_t rfl rfl rfl ) ?_ )
      | (refine gk 4 rfl ?_; first | refine sl_op rfl rfl rfl (opv_call rfl rfl rfl rfl rfl (hp0)) ?_ | (refine sl_callT rfl rfl rfl rfl rfl rfl rfl rfl (hd0) ?_; rintro _ _ ⟨rfl, rfl⟩; refine ⟨_, _, rfl, rfl, ?_⟩))
      | refine sl_region rfl ?_
      | refine sl_nil ?_
      | refine thn_k ?_
      | refine swp_ret ?_
      )
    exact end_retL [stepB βx βs bt bo t k e owns, specB βs bt bo n ct kk co σ.rel, HT, HO, updB OP β (oblk (doneO o 0 0))] (resOk_one (resV_tmp rfl)) ⟨rfl, HT, HO, _, rfl, m.opn hb⟩
  | false =>
    have hF : nothingF σ t k o ow dp e owns = (false, σ) := by simp only [nothingF, hg, Bool.false_eq_true, if_false]
    rw [hF]
    rw [hg] at hp0
    refine t_of_body Try.func46 rfl (Nat.le_of_ble_eq_true rfl) fun F => ?_
    repeat' (first
      | refine swp_seq ?_
      | (refine gk 0 rfl ?_; first | refine sl_op rfl rfl rfl (by first | exact opv_move rfl rfl | exact opv_assign rfl rfl | exact opv_pick_f rfl rfl rfl ) ?_ | refine sl_pass rfl rfl rfl rfl ?_)
      | (refine gk 4 rfl ?_; first | refine sl_pass rfl rfl rfl rfl ?_ | refine sl_op rfl rfl rfl (opv_call rfl rfl rfl rfl rfl (hp0)) ?_)
      | refine sl_region rfl ?_
      | refine sl_nil ?_
      | refine thn_k ?_
      | refine swp_ret ?_
      )
    exact end_retL [stepB βx βs bt bo t k e owns, specB βs bt bo n ct kk co σ.rel, HT, HO, OP] (resOk_one (resV_tmp rfl)) ⟨rfl, HT, HO, _, rfl, m⟩
theorem leaves_calls {tc : List Value} [sl : Sl HT bt tc] [nn : NN bt] (ht : tc[t * 3]? = some (ptr β)) [i1 : InH OP β (oblk o)] : PFn Try.prog 60 [ptr βx] [stepB βx βs bt bo t k e owns, HT, OP] (.bool (leavesB o e)) := by
  have ht0 : tc[t * 3 + 0]? = some (ptr β) := ht
  have htl := (List.getElem?_eq_some_iff.1 ht).1
  by_cases h2 : e.other = 2
  · have hL : leavesB o e = decide (o.far = 3) := by simp only [leavesB, h2, if_true]
    rw [hL]
    refine pure_of_body Try.func60 rfl (Nat.le_of_ble_eq_true rfl) fun F => ?_
    repeat' (first
      | refine swp_seq ?_
      | (refine gk 0 rfl ?_; first | refine sl_op rfl rfl rfl (by first | exact opv_move rfl rfl | exact opv_assign rfl rfl ) ?_ )
      | (refine gk 2 rfl ?_; first | refine sl_yes rfl rfl rfl (by first | exact opv_eql rfl rfl rfl ) (by first | omega ) ?_ | refine sl_if rfl rfl rfl (by first | exact opv_eql rfl rfl rfl ) (fun h => ?_) (fun h => ?_) )
      | (refine gk 3 rfl ?_; first | refine sl_op rfl rfl rfl (by first | exact opv_load rfl (by exact rfl) rfl (by exact rfl) | exact opv_fieldAddr rfl rfl | exact opv_fieldAddrE rfl rfl (by first | assumption ) | exact opv_loadEx rfl (by exact rfl) (by infer_instance) (by first | assumption ) ) ?_ )
      | (refine gk 5 rfl ?_; first | refine sl_op rfl rfl rfl (by first | exact opv_nilCheck rfl rfl | exact opv_nilCheckE rfl rfl ) ?_ )
      | refine sl_region rfl ?_
      | refine sl_nil ?_
      | refine thn_k ?_
      | refine swp_true rfl ?_
      | refine swp_block ?_
      | refine swp_ret ?_
      | refine thn_ret ?_
      | refine inb_ret ?_
      )
    all_goals
      refine end_pure (resOk_one (resV_tmp rfl)) ?_
      refine congrArg Value.bool ?_
      symm
      first | exact decide_eq_true (by assumption) | exact decide_eq_false (by assumption) | rfl
  · by_cases h1 : e.other = 1
    · have hL : leavesB o e = (decide (o.far = 2) && decide (o.op = 3)) := by simp only [leavesB, h2, h1, if_true]; rfl
      rw [hL]
      refine pure_of_body Try.func60 rfl (Nat.le_of_ble_eq_true rfl) fun F => ?_
      repeat' (first
        | refine swp_seq ?_
        | (refine gk 0 rfl ?_; first | refine sl_op rfl rfl rfl (by first | exact opv_move rfl rfl | exact opv_assign rfl rfl | exact opv_pick_t rfl rfl rfl | exact opv_pick_f rfl rfl rfl ) ?_ | refine sl_pass rfl rfl rfl rfl ?_)
        | (refine gk 2 rfl ?_; first | refine sl_pass rfl rfl rfl rfl ?_ | refine sl_yes rfl rfl rfl (by first | exact opv_eql rfl rfl rfl ) (by first | omega ) ?_ | refine sl_no rfl rfl rfl (by first | exact opv_eql rfl rfl rfl ) (by first | omega ) ?_ | refine sl_if rfl rfl rfl (by first | exact opv_eql rfl rfl rfl ) (fun h => ?_) (fun h => ?_) )
        | (refine gk 3 rfl ?_; first | refine sl_op rfl rfl rfl (by first | exact opv_load rfl (by exact rfl) rfl (by exact rfl) | exact opv_fieldAddr rfl rfl | exact opv_fieldAddrE rfl rfl (by first | assumption ) | exact opv_loadEx rfl (by exact rfl) (by infer_instance) (by first | assumption ) ) ?_ | refine sl_pass rfl rfl rfl rfl ?_)
        | (refine gk 5 rfl ?_; first | refine sl_op rfl rfl rfl (by first | exact opv_nilCheck rfl rfl | exact opv_nilCheckE rfl rfl ) ?_ | refine sl_pass rfl rfl rfl rfl ?_ )
        | refine sl_region rfl ?_
        | refine sl_nil ?_
        | refine thn_k ?_
        | refine swp_true rfl ?_
        | refine swp_false rfl ?_
        | refine swp_block ?_
        | refine swp_ret ?_
        | refine thn_ret ?_
        | refine inb_ret ?_
        )
      all_goals
        refine end_pure (resOk_one (resV_tmp rfl)) ?_
        refine congrArg Value.bool ?_
        simp [*]
    · have hL : leavesB o e = (decide (o.far = 2) && decide (e.other = 3)) := by simp only [leavesB, h2, h1, if_false]
      rw [hL]
      refine pure_of_body Try.func60 rfl (Nat.le_of_ble_eq_true rfl) fun F => ?_
      repeat' (first
        | refine swp_seq ?_
        | (refine gk 0 rfl ?_; first | refine sl_op rfl rfl rfl (by first | exact opv_move rfl rfl | exact opv_assign rfl rfl | exact opv_pick_t rfl rfl rfl | exact opv_pick_f rfl rfl rfl ) ?_ | refine sl_pass rfl rfl rfl rfl ?_)
        | (refine gk 2 rfl ?_; first | refine sl_pass rfl rfl rfl rfl ?_ | refine sl_no rfl rfl rfl (by first | exact opv_eql rfl rfl rfl ) (by first | omega ) ?_ | refine sl_if rfl rfl rfl (by first | exact opv_eql rfl rfl rfl ) (fun h => ?_) (fun h => ?_) )
        | (refine gk 3 rfl ?_; first | refine sl_op rfl rfl rfl (by first | exact opv_load rfl (by exact rfl) rfl (by exact rfl) | exact opv_fieldAddr rfl rfl | exact opv_fieldAddrE rfl rfl (by first | assumption ) | exact opv_loadEx rfl (by exact rfl) (by infer_instance) (by first | assumption ) ) ?_ | refine sl_pass rfl rfl rfl rfl ?_)
        | (refine gk 5 rfl ?_; first | refine sl_op rfl rfl rfl (by first | exact opv_nilCheck rfl rfl | exact opv_nilCheckE rfl rfl ) ?_ | refine sl_pass rfl rfl rfl rfl ?_ )
        | refine sl_region rfl ?_
        | refine sl_nil ?_
        | refine thn_k ?_
        | refine swp_false rfl ?_
        | refine swp_block ?_
        | refine swp_ret ?_
        | refine swp_skip ?_
        )
      all_goals
        refine end_pure (resOk_one (resV_tmp rfl)) ?_
        refine congrArg Value.bool ?_
        simp [*]
end
end Go.Proofs.Ytimmclibnfdjhaa
