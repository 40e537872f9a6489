/- Waiting: a flag that is down. -/
import Derived.Test.YtimmclibnfdjhaaWB7
import Derived.Test.YtimmclibnfdjhaaSlG9
set_option linter.unusedVariables false
set_option linter.unusedSimpArgs false
set_option linter.unusedSectionVars false
namespace Go.Proofs.Ytimmclibnfdjhaa
open Go.SL
set_option maxRecDepth 100000
set_option maxHeartbeats 16000000
attribute [local irreducible] SL.T PFn OpV SOL SWP HOp ChU
section
variable {βx βs β : Nat} {bt bo : Option Addr} {n ct kk co t k : Nat} {e : Ev} {owns : Bool} {HT HO OP : Heap} {bs : List (Option Nat)} {σ : St} {o : Opn} {ow dp : Int}
theorem wait7 (m : MemOk bt bo ct co HT HO OP bs σ) (hb : bs[t]? = some (some β)) {f : Bool} (ht : ∃ c, σ.th[t]? = some ⟨some o, c, f⟩) (hk : σ.ob[k]? = some (ow, dp)) (ha : e.act = 7) (ho : e.other = 0) :
    SL.T Try.prog 42 [ptr βx] [stepB βx βs bt bo t k e owns, specB βs bt bo n ct kk co σ.rel, HT, HO, OP] (StepQ βx βs bt bo n ct kk co t k e owns bs (waitF σ t k o ow dp f e owns)) := by
  obtain ⟨c, ht⟩ := ht
  haveI := m.nT
  haveI := m.nO
  haveI slT := m.hT.sl
  haveI slO := m.hO.sl
  have osO := m.hO
  have htc : (thCells bs σ.th)[t * 3]? = some (ptr β) := (thCells_at hb ht).1
  have htc0 : (thCells bs σ.th)[t * 3 + 0]? = some (ptr β) := htc
  have htf : (thCells bs σ.th)[t * 3 + 2]? = some (.bool f) := (thCells_at hb ht).2.2
  have htl := (List.getElem?_eq_some_iff.1 htc).1
  obtain ⟨hk0, hk1⟩ := obCells_at hk
  have hk0' : (obCells σ.ob)[k * 2 + 0]? = some (i64 ow) := hk0
  have hol := obCells_length σ.ob
  have hkl : k < σ.ob.length := (List.getElem?_eq_some_iff.1 hk).1
  have hkl2 : k * 2 < (obCells σ.ob).length := by omega
  haveI i1 : InH OP β (oblk o) := ⟨by
    obtain ⟨b, g1, g2, g3⟩ := m.op.at_ _ _ ht
    obtain ⟨β', rfl, h⟩ := g3 o rfl
    rw [hb] at g1; cases g1; exact h⟩
  have hp := fun a h => plain_calls (βx := βx) (βs := βs) (bt := bt) (bo := bo) (t := t) (k := k) (e := e) (owns := owns) a h
  have hi := fun a h => is_calls (βx := βx) (βs := βs) (bt := bt) (bo := bo) (t := t) (k := k) (e := e) (owns := owns) a h
  have hr := fun c h => refuses_calls (βx := βx) (βs := βs) (β := β) (bt := bt) (bo := bo) (t := t) (k := k) (e := e) (owns := owns) HT OP (thCells bs σ.th) o c h htc
  have hd := fun c v => done_calls (βx := βx) (βs := βs) (β := β) (bt := bt) (bo := bo) (t := t) (k := k) (e := e) (owns := owns) HT OP (thCells bs σ.th) o c v htc
  have hid := updB_id i1
  have osT := m.hT
  have hl3 := thCells_length bs σ.th m.op.len
  have hfl := flagT_cells (bs := bs) (th := σ.th) (t := t) false m.op.len ht
  have hl := leaves_calls (βx := βx) (βs := βs) (β := β) (bt := bt) (bo := bo) (t := t) (k := k) (e := e) (owns := owns) (HT := HT) (OP := OP) (o := o) htc
  have p2t : PFn Try.prog 56 [ptr βx, i64 2, .bool true] [stepB βx βs bt bo t k e owns] (.bool false) := (hp 2 true).to (by simp [ha])
  have p2f : PFn Try.prog 56 [ptr βx, i64 2, .bool false] [stepB βx βs bt bo t k e owns] (.bool false) := (hp 2 false).to (by simp [ha])
  have p5t : PFn Try.prog 56 [ptr βx, i64 5, .bool true] [stepB βx βs bt bo t k e owns] (.bool false) := (hp 5 true).to (by simp [ha])
  have p5f : PFn Try.prog 56 [ptr βx, i64 5, .bool false] [stepB βx βs bt bo t k e owns] (.bool false) := (hp 5 false).to (by simp [ha])
  have hi4 : PFn Try.prog 59 [ptr βx, i64 4, .bool (leavesB o e)] [stepB βx βs bt bo t k e owns] (.bool false) := (hi 4 (leavesB o e)).to (by simp [ha])
  have r4 : refB o e 4 (!owns) = false := by simp [refB, ha]
  have r3 : refB o e 3 true = false := by simp [refB, ha]
  have hr4 := hr 4 (!owns)
  have hr3 := hr 3 true
  simp only [r4, r3, Bool.false_eq_true, if_false, hid] at hr4 hr3
  have p7f : PFn Try.prog 56 [ptr βx, i64 7, .bool false] [stepB βx βs bt bo t k e owns] (.bool false) := (hp 7 false).to (by simp)
  have p7t : PFn Try.prog 56 [ptr βx, i64 7, .bool true] [stepB βx βs bt bo t k e owns] (.bool true) := (hp 7 true).to (by simp [ha, ho])
  have hd0 := hd 0 2
  by_cases g1 : f = true ∧ o.far = 0 ∧ owns = true
  · obtain ⟨rfl, hf, rfl⟩ := g1
    have hF : waitF σ t k o ow dp true e true = (true, (σ.flg t false).opn t (doneO o 0 2)) := by simp [waitF, ha, ho, hf]
    rw [hF]
    refine t_of_body Try.func42 rfl (Nat.le_of_ble_eq_true rfl) fun F => ?_
    repeat' (first
      | (refine sl_storeE rfl rfl rfl rfl rfl osT rfl rfl rfl (Nat.succ_pos _) (by simp; omega) hfl (fun HT2 osT2 => ?_); haveI slT2 := osT2.sl; have htc2 : (thCells bs (flagT σ.th t false))[t * 3]? = some (ptr β) := (thCells_at hb (by rw [flagT_at, ht]; rfl)).1; have hd2 := done_calls (βx := βx) (βs := βs) (β := β) (bt := bt) (bo := bo) (t := t) (k := k) (e := e) (owns := true) HT2 OP (thCells bs (flagT σ.th t false)) o 0 2 htc2)
      | refine swp_seq ?_
      | (refine gk 0 rfl ?_; first | refine sl_op rfl rfl rfl (by first | exact opv_move rfl rfl | exact opv_assign rfl rfl | exact opv_pick_t rfl rfl rfl ) ?_ )
      | (refine gk 2 rfl ?_; first | refine sl_yes rfl rfl rfl (by first | exact opv_eql rfl rfl rfl ) (by first | omega ) ?_ )
      | (refine gk 3 rfl ?_; first | refine sl_op rfl rfl rfl (by first | exact opv_load rfl (by exact rfl) rfl (by exact rfl) | exact opv_fieldAddr rfl rfl | exact opv_fieldAddrE rfl rfl (by first | assumption ) | exact opv_loadEx rfl (by exact rfl) (by infer_instance) (by first | assumption ) ) ?_ )
      | (refine gk 4 rfl ?_; first | refine sl_op rfl rfl rfl (opv_call rfl rfl rfl rfl rfl (p7t)) ?_ | (refine sl_callT rfl rfl rfl rfl rfl rfl rfl rfl (hd2) ?_; rintro _ _ ⟨rfl, rfl⟩; refine ⟨_, _, rfl, rfl, ?_⟩))
      | (refine gk 5 rfl ?_; first | refine sl_op rfl rfl rfl (by first | exact opv_nilCheck rfl rfl | exact opv_nilCheckE rfl rfl ) ?_ )
      | refine sl_region rfl ?_
      | refine sl_nil ?_
      | refine thn_k ?_
      | refine swp_true rfl ?_
      | refine swp_block ?_
      | refine swp_ret ?_
      | refine thn_ret ?_
      | refine inb_ret ?_
      )
    exact end_retL [stepB βx βs bt bo t k e true, specB βs bt bo n ct kk co σ.rel, HT2, HO, updB OP β (oblk (doneO o 0 2))] (resOk_one (resV_tmp rfl)) ⟨rfl, HT2, HO, _, rfl, (m.flg osT2).opn hb⟩
  · by_cases g2 : f = true ∧ o.far = 2
    · obtain ⟨rfl, hf⟩ := g2
      have hF : waitF σ t k o ow dp true e owns = (true, (σ.flg t false).opn t { o with far := 3 }) := by simp [waitF, ha, ho, hf]
      rw [hF]
      refine t_of_body Try.func42 rfl (Nat.le_of_ble_eq_true rfl) fun F => ?_
      repeat' (first
        | (refine sl_storeE rfl rfl rfl rfl rfl osT rfl rfl rfl (Nat.succ_pos _) (by simp; omega) hfl (fun HT2 osT2 => ?_); haveI slT2 := osT2.sl)
        | refine sl_storeU rfl rfl rfl rfl rfl i1 rfl rfl rfl rfl ?_
        | refine swp_seq ?_
        | (refine gk 0 rfl ?_; first | refine sl_op rfl rfl rfl (by first | exact opv_move rfl rfl | exact opv_assign rfl rfl | exact opv_pick_t rfl rfl rfl | exact opv_pick_f rfl rfl rfl ) ?_ | refine sl_pass rfl rfl rfl rfl ?_)
        | (refine gk 2 rfl ?_; first | refine sl_yes rfl rfl rfl (by first | exact opv_eql rfl rfl rfl ) (by first | omega ) ?_ | refine sl_no rfl rfl rfl (by first | exact opv_eql rfl rfl rfl ) (by first | omega ) ?_ )
        | (refine gk 3 rfl ?_; first | refine sl_op rfl rfl rfl (by first | exact opv_load rfl (by exact rfl) rfl (by exact rfl) | exact opv_fieldAddr rfl rfl | exact opv_fieldAddrE rfl rfl (by first | assumption ) | exact opv_loadEx rfl (by exact rfl) (by infer_instance) (by first | assumption ) ) ?_ | refine sl_pass rfl rfl rfl rfl ?_)
        | (refine gk 4 rfl ?_; first | refine sl_op rfl rfl rfl (opv_call rfl rfl rfl rfl rfl (p7f)) ?_ | refine sl_op rfl rfl rfl (opv_call rfl rfl rfl rfl rfl (p7t)) ?_)
        | (refine gk 5 rfl ?_; first | refine sl_op rfl rfl rfl (by first | exact opv_nilCheck rfl rfl | exact opv_nilCheckE rfl rfl ) ?_ | refine sl_pass rfl rfl rfl rfl ?_ )
        | refine sl_region rfl ?_
        | refine sl_nil ?_
        | refine thn_k ?_
        | refine swp_true rfl ?_
        | refine swp_false rfl ?_
        | refine swp_block ?_
        | refine swp_ret ?_
        )
      exact end_retL [stepB βx βs bt bo t k e owns, specB βs bt bo n ct kk co σ.rel, HT2, HO, updB OP β (oblk { o with far := 3 })] (resOk_one (resV_tmp rfl)) ⟨rfl, HT2, HO, _, rfl, (m.flg osT2).opn hb⟩
    · have hF : waitF σ t k o ow dp f e owns = (false, σ) := by
        have g1' : ¬ (e.act = 7 ∧ e.other = 0 ∧ f = true ∧ o.far = 0 ∧ owns = true) := fun h => g1 h.2.2
        have g2' : ¬ (e.act = 7 ∧ e.other = 0 ∧ f = true ∧ o.far = 2) := fun h => g2 h.2.2
        simp only [waitF, if_neg g1', if_neg g2', r4, r3]
        simp [ha]
      rw [hF]
      cases f with
      | false =>
        cases owns
        all_goals
          refine t_of_body Try.func42 rfl (Nat.le_of_ble_eq_true rfl) fun F => ?_
          repeat' (first
            | refine swp_seq ?_
            | (refine gk 0 rfl ?_; first | refine sl_op rfl rfl rfl (by first | exact opv_move rfl rfl | exact opv_assign rfl rfl | exact opv_pick_t rfl rfl rfl | exact opv_pick_f rfl rfl rfl | exact opv_not_t rfl rfl | exact opv_not_f rfl rfl ) ?_ | refine sl_pass rfl rfl rfl rfl ?_)
            | (refine gk 2 rfl ?_; first | refine sl_pass rfl rfl rfl rfl ?_ | refine sl_no rfl rfl rfl (by first | exact opv_lss rfl rfl rfl | exact opv_eql rfl rfl rfl ) (by first | omega ) ?_ | refine sl_if rfl rfl rfl (by first | exact opv_lss rfl rfl rfl | exact opv_eql rfl rfl rfl ) (fun h => ?_) (fun h => ?_) )
            | (refine gk 3 rfl ?_; first | refine sl_op rfl rfl rfl (by first | exact opv_load rfl (by exact rfl) rfl (by exact rfl) | exact opv_fieldAddr rfl rfl | exact opv_fieldAddrE rfl rfl (by first | assumption ) | exact opv_loadEx rfl (by exact rfl) (by infer_instance) (by first | assumption ) ) ?_ | refine sl_pass rfl rfl rfl rfl ?_)
            | (refine gk 4 rfl ?_; first | refine sl_op rfl rfl rfl (opv_call rfl rfl rfl rfl rfl (hl)) ?_ | refine sl_op rfl rfl rfl (opv_call rfl rfl rfl rfl rfl (hi4)) ?_ | refine sl_op rfl rfl rfl (opv_call rfl rfl rfl rfl rfl (p7f)) ?_ | (refine sl_callT rfl rfl rfl rfl rfl rfl rfl rfl (hr4) ?_; rintro _ _ ⟨rfl, rfl⟩; refine ⟨_, _, rfl, rfl, ?_⟩) | (refine sl_callT rfl rfl rfl rfl rfl rfl rfl rfl (hr3) ?_; rintro _ _ ⟨rfl, rfl⟩; refine ⟨_, _, rfl, rfl, ?_⟩) | refine sl_op rfl rfl rfl (opv_call rfl rfl rfl rfl rfl (p2t)) ?_ | refine sl_op rfl rfl rfl (opv_call rfl rfl rfl rfl rfl (p2f)) ?_ | refine sl_op rfl rfl rfl (opv_call rfl rfl rfl rfl rfl (p5t)) ?_ | refine sl_op rfl rfl rfl (opv_call rfl rfl rfl rfl rfl (p5f)) ?_)
            | (refine gk 5 rfl ?_; first | refine sl_op rfl rfl rfl (by first | exact opv_nilCheck rfl rfl | exact opv_nilCheckE rfl rfl ) ?_ | refine sl_pass rfl rfl rfl rfl ?_ )
            | refine sl_region rfl ?_
            | refine sl_nil ?_
            | refine thn_k ?_
            | refine swp_false rfl ?_
            | refine swp_block ?_
            | refine swp_ret ?_
            | refine thn_ret ?_
            | refine inb_ret ?_
            )
        all_goals first | (exfalso; omega) | exact end_retL [stepB βx βs bt bo t k e _, specB βs bt bo n ct kk co σ.rel, HT, HO, OP] (resOk_one (resV_tmp rfl)) ⟨rfl, HT, HO, _, rfl, m⟩
      | true =>
        have hf2 : o.far ≠ 2 := fun h => g2 ⟨rfl, h⟩
        by_cases hf0 : o.far = 0
        · obtain rfl : owns = false := by
            cases owns with
            | false => rfl
            | true => exact absurd ⟨rfl, hf0, rfl⟩ g1
          refine t_of_body Try.func42 rfl (Nat.le_of_ble_eq_true rfl) fun F => ?_
          repeat' (first
            | refine swp_seq ?_
            | (refine gk 0 rfl ?_; first | refine sl_op rfl rfl rfl (by first | exact opv_move rfl rfl | exact opv_assign rfl rfl | exact opv_pick_t rfl rfl rfl | exact opv_pick_f rfl rfl rfl | exact opv_not_f rfl rfl ) ?_ | refine sl_pass rfl rfl rfl rfl ?_)
            | (refine gk 2 rfl ?_; first | refine sl_pass rfl rfl rfl rfl ?_ | refine sl_yes rfl rfl rfl (by first | exact opv_eql rfl rfl rfl ) (by first | omega ) ?_ | refine sl_no rfl rfl rfl (by first | exact opv_eql rfl rfl rfl ) (by first | omega ) ?_ )
            | (refine gk 3 rfl ?_; first | refine sl_op rfl rfl rfl (by first | exact opv_load rfl (by exact rfl) rfl (by exact rfl) | exact opv_fieldAddr rfl rfl | exact opv_fieldAddrE rfl rfl (by first | assumption ) | exact opv_loadEx rfl (by exact rfl) (by infer_instance) (by first | assumption ) ) ?_ | refine sl_pass rfl rfl rfl rfl ?_)
            | (refine gk 4 rfl ?_; first | refine sl_op rfl rfl rfl (opv_call rfl rfl rfl rfl rfl (hl)) ?_ | refine sl_op rfl rfl rfl (opv_call rfl rfl rfl rfl rfl (hi4)) ?_ | refine sl_op rfl rfl rfl (opv_call rfl rfl rfl rfl rfl (p7f)) ?_ | (refine sl_callT rfl rfl rfl rfl rfl rfl rfl rfl (hr4) ?_; rintro _ _ ⟨rfl, rfl⟩; refine ⟨_, _, rfl, rfl, ?_⟩) | (refine sl_callT rfl rfl rfl rfl rfl rfl rfl rfl (hr3) ?_; rintro _ _ ⟨rfl, rfl⟩; refine ⟨_, _, rfl, rfl, ?_⟩) | refine sl_op rfl rfl rfl (opv_call rfl rfl rfl rfl rfl (p2f)) ?_ | refine sl_op rfl rfl rfl (opv_call rfl rfl rfl rfl rfl (p5f)) ?_)
            | (refine gk 5 rfl ?_; first | refine sl_op rfl rfl rfl (by first | exact opv_nilCheck rfl rfl | exact opv_nilCheckE rfl rfl ) ?_ | refine sl_pass rfl rfl rfl rfl ?_ )
            | refine sl_region rfl ?_
            | refine sl_nil ?_
            | refine thn_k ?_
            | refine swp_false rfl ?_
            | refine swp_block ?_
            | refine swp_ret ?_
            | refine thn_ret ?_
            | refine inb_ret ?_
            )
          all_goals first | (exfalso; omega) | exact end_retL [stepB βx βs bt bo t k e _, specB βs bt bo n ct kk co σ.rel, HT, HO, OP] (resOk_one (resV_tmp rfl)) ⟨rfl, HT, HO, _, rfl, m⟩
        · refine t_of_body Try.func42 rfl (Nat.le_of_ble_eq_true rfl) fun F => ?_
          repeat' (first
            | refine swp_seq ?_
            | (refine gk 0 rfl ?_; first | refine sl_op rfl rfl rfl (by first | exact opv_move rfl rfl | exact opv_assign rfl rfl | exact opv_pick_t rfl rfl rfl | exact opv_pick_f rfl rfl rfl | exact opv_not rfl rfl ) ?_ | refine sl_pass rfl rfl rfl rfl ?_)
            | (refine gk 2 rfl ?_; first | refine sl_pass rfl rfl rfl rfl ?_ | refine sl_no rfl rfl rfl (by first | exact opv_lss rfl rfl rfl | exact opv_eql rfl rfl rfl ) (by first | omega ) ?_ | refine sl_if rfl rfl rfl (by first | exact opv_lss rfl rfl rfl | exact opv_eql rfl rfl rfl ) (fun h => ?_) (fun h => ?_) )
            | (refine gk 3 rfl ?_; first | refine sl_op rfl rfl rfl (by first | exact opv_load rfl (by exact rfl) rfl (by exact rfl) | exact opv_fieldAddr rfl rfl | exact opv_fieldAddrE rfl rfl (by first | assumption ) | exact opv_loadEx rfl (by exact rfl) (by infer_instance) (by first | assumption ) ) ?_ | refine sl_pass rfl rfl rfl rfl ?_)
            | (refine gk 4 rfl ?_; first | refine sl_op rfl rfl rfl (opv_call rfl rfl rfl rfl rfl (hl)) ?_ | refine sl_op rfl rfl rfl (opv_call rfl rfl rfl rfl rfl (hi4)) ?_ | refine sl_op rfl rfl rfl (opv_call rfl rfl rfl rfl rfl (p7f)) ?_ | (refine sl_callT rfl rfl rfl rfl rfl rfl rfl rfl (hr4) ?_; rintro _ _ ⟨rfl, rfl⟩; refine ⟨_, _, rfl, rfl, ?_⟩) | (refine sl_callT rfl rfl rfl rfl rfl rfl rfl rfl (hr3) ?_; rintro _ _ ⟨rfl, rfl⟩; refine ⟨_, _, rfl, rfl, ?_⟩) | refine sl_op rfl rfl rfl (opv_call rfl rfl rfl rfl rfl (p2f)) ?_ | refine sl_op rfl rfl rfl (opv_call rfl rfl rfl rfl rfl (p5t)) ?_ | refine sl_op rfl rfl rfl (opv_call rfl rfl rfl rfl rfl (p5f)) ?_)
            | (refine gk 5 rfl ?_; first | refine sl_op rfl rfl rfl (by first | exact opv_nilCheck rfl rfl | exact opv_nilCheckE rfl rfl ) ?_ | refine sl_pass rfl rfl rfl rfl ?_ )
            | refine sl_region rfl ?_
            | refine sl_nil ?_
            | refine thn_k ?_
            | refine swp_false rfl ?_
            | refine swp_block ?_
            | refine swp_ret ?_
            | refine thn_ret ?_
            | refine inb_ret ?_
            )
          all_goals first | (exfalso; omega) | exact end_retL [stepB βx βs bt bo t k e _, specB βs bt bo n ct kk co σ.rel, HT, HO, OP] (resOk_one (resV_tmp rfl)) ⟨rfl, HT, HO, _, rfl, m⟩
end
end Go.Proofs.Ytimmclibnfdjhaa
