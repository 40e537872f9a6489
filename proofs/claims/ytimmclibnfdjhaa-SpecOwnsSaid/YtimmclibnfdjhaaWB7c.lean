/- Waiting: the wait ends. -/
import Derived.Test.YtimmclibnfdjhaaWB7
import Derived.Test.YtimmclibnfdjhaaSlG9
set_option linter.unusedVariables false
set_option linter.unusedSimpArgs false
set_option linter.unusedSectionVars false
namespace Go.Proofs.Ytimmclibnfdjhaa
open Go.SL
set_option maxRecDepth 100000
set_option maxHeartbeats 16000000
attribute [local irreducible] SL.T PFn OpV SOL SWP HOp ChU
section
variable {βx βs β : Nat} {bt bo : Option Addr} {n ct kk co t k : Nat} {e : Ev} {owns : Bool} {HT HO OP : Heap} {bs : List (Option Nat)} {σ : St} {o : Opn} {ow dp : Int}
theorem wait4 (m : MemOk bt bo ct co HT HO OP bs σ) (hb : bs[t]? = some (some β)) {f : Bool} (ht : ∃ c, σ.th[t]? = some ⟨some o, c, f⟩) (hk : σ.ob[k]? = some (ow, dp)) (ha : e.act = 4) :
    SL.T Try.prog 42 [ptr βx] [stepB βx βs bt bo t k e owns, specB βs bt bo n ct kk co σ.rel, HT, HO, OP] (StepQ βx βs bt bo n ct kk co t k e owns bs (waitF σ t k o ow dp f e owns)) := by
  obtain ⟨c, ht⟩ := ht
  haveI := m.nT
  haveI := m.nO
  haveI slT := m.hT.sl
  haveI slO := m.hO.sl
  have osO := m.hO
  have htc : (thCells bs σ.th)[t * 3]? = some (ptr β) := (thCells_at hb ht).1
  have htc0 : (thCells bs σ.th)[t * 3 + 0]? = some (ptr β) := htc
  have htf : (thCells bs σ.th)[t * 3 + 2]? = some (.bool f) := (thCells_at hb ht).2.2
  have htl := (List.getElem?_eq_some_iff.1 htc).1
  obtain ⟨hk0, hk1⟩ := obCells_at hk
  have hk0' : (obCells σ.ob)[k * 2 + 0]? = some (i64 ow) := hk0
  have hol := obCells_length σ.ob
  have hkl : k < σ.ob.length := (List.getElem?_eq_some_iff.1 hk).1
  have hkl2 : k * 2 < (obCells σ.ob).length := by omega
  haveI i1 : InH OP β (oblk o) := ⟨by
    obtain ⟨b, g1, g2, g3⟩ := m.op.at_ _ _ ht
    obtain ⟨β', rfl, h⟩ := g3 o rfl
    rw [hb] at g1; cases g1; exact h⟩
  have hp := fun a h => plain_calls (βx := βx) (βs := βs) (bt := bt) (bo := bo) (t := t) (k := k) (e := e) (owns := owns) a h
  have hi := fun a h => is_calls (βx := βx) (βs := βs) (bt := bt) (bo := bo) (t := t) (k := k) (e := e) (owns := owns) a h
  have hr := fun c h => refuses_calls (βx := βx) (βs := βs) (β := β) (bt := bt) (bo := bo) (t := t) (k := k) (e := e) (owns := owns) HT OP (thCells bs σ.th) o c h htc
  have hd := fun c v => done_calls (βx := βx) (βs := βs) (β := β) (bt := bt) (bo := bo) (t := t) (k := k) (e := e) (owns := owns) HT OP (thCells bs σ.th) o c v htc
  have hid := updB_id i1
  have osT := m.hT
  have hl3 := thCells_length bs σ.th m.op.len
  have hfl := flagT_cells (bs := bs) (th := σ.th) (t := t) false m.op.len ht
  have hl := leaves_calls (βx := βx) (βs := βs) (β := β) (bt := bt) (bo := bo) (t := t) (k := k) (e := e) (owns := owns) (HT := HT) (OP := OP) (o := o) htc
  have p7t : PFn Try.prog 56 [ptr βx, i64 7, .bool true] [stepB βx βs bt bo t k e owns] (.bool false) := (hp 7 true).to (by simp [ha])
  have p7f : PFn Try.prog 56 [ptr βx, i64 7, .bool false] [stepB βx βs bt bo t k e owns] (.bool false) := (hp 7 false).to (by simp [ha])
  have p2t : PFn Try.prog 56 [ptr βx, i64 2, .bool true] [stepB βx βs bt bo t k e owns] (.bool false) := (hp 2 true).to (by simp [ha])
  have p2f : PFn Try.prog 56 [ptr βx, i64 2, .bool false] [stepB βx βs bt bo t k e owns] (.bool false) := (hp 2 false).to (by simp [ha])
  have p5t : PFn Try.prog 56 [ptr βx, i64 5, .bool true] [stepB βx βs bt bo t k e owns] (.bool false) := (hp 5 true).to (by simp [ha])
  have p5f : PFn Try.prog 56 [ptr βx, i64 5, .bool false] [stepB βx βs bt bo t k e owns] (.bool false) := (hp 5 false).to (by simp [ha])
  have r4 : refB o e 4 (!owns) = false := by simp [refB, ha]
  have r3 : refB o e 3 true = false := by simp [refB, ha]
  have hr4 := hr 4 (!owns)
  have hr3 := hr 3 true
  simp only [r4, r3, Bool.false_eq_true, if_false, hid] at hr4 hr3
  have hi4 := hi 4 (leavesB o e)
  rw [decide_eq_true ha, Bool.true_and] at hi4
  cases hv : leavesB o e with
  | true =>
    have hF : waitF σ t k o ow dp f e owns = (true, σ.opn t { o with far := 4, code := 0, val := e.other }) := by simp [waitF, ha, hv]
    rw [hF]
    rw [hv] at hl hi4
    refine t_of_body Try.func42 rfl (Nat.le_of_ble_eq_true rfl) fun F => ?_
    repeat' ((fail_if_success (refine stop_at2 3 ?_)); (first
      | refine swp_seq ?_
      | (refine gk 0 rfl ?_; first | refine sl_op rfl rfl rfl (by first | exact opv_move rfl rfl | exact opv_assign rfl rfl ) ?_ )
      | (refine gk 3 rfl ?_; first | refine sl_op rfl rfl rfl (by first | exact opv_load rfl (by exact rfl) rfl (by exact rfl) | exact opv_fieldAddr rfl rfl ) ?_ )
      | (refine gk 5 rfl ?_; first | refine sl_op rfl rfl rfl (by first | exact opv_nilCheck rfl rfl ) ?_ )
      | refine sl_region rfl ?_
      | refine sl_nil ?_
      | refine swp_block ?_
      ))
    refine swp_seq ?_
    refine swp_joinS (S := Unit) (fun _ => [(0, ptr βx), (2, .bool false), (3, ept bt (t * 3)), (19, .bool false)]) (fun _ => [stepB βx βs bt bo t k e owns, specB βs bt bo n ct kk co σ.rel, HT, HO, OP]) (fun _ => True) ?_ ?_
    · cases f <;> cases owns
      all_goals
        repeat' (first
          | (refine gk 0 rfl ?_; first | refine sl_op rfl rfl rfl (by first | exact opv_move rfl rfl | exact opv_assign rfl rfl | exact opv_pick_t rfl rfl rfl | exact opv_pick_f rfl rfl rfl ) ?_ | refine sl_pass rfl rfl rfl rfl ?_)
          | (refine gk 2 rfl ?_; first | refine sl_pass rfl rfl rfl rfl ?_ | refine sl_if rfl rfl rfl (by first | exact opv_eql rfl rfl rfl ) (fun h => ?_) (fun h => ?_) )
          | (refine gk 3 rfl ?_; first | refine sl_op rfl rfl rfl (by first | exact opv_load rfl (by exact rfl) rfl (by exact rfl) | exact opv_fieldAddr rfl rfl | exact opv_fieldAddrE rfl rfl (by first | assumption ) | exact opv_loadEx rfl (by exact rfl) (by infer_instance) (by first | assumption ) ) ?_ | refine sl_pass rfl rfl rfl rfl ?_)
          | (refine gk 4 rfl ?_; first | refine sl_op rfl rfl rfl (opv_call rfl rfl rfl rfl rfl (p7t)) ?_ | refine sl_op rfl rfl rfl (opv_call rfl rfl rfl rfl rfl (p7f)) ?_ )
          | (refine gk 5 rfl ?_; first | refine sl_op rfl rfl rfl (by first | exact opv_nilCheck rfl rfl | exact opv_nilCheckE rfl rfl ) ?_ | refine sl_pass rfl rfl rfl rfl ?_ )
          | refine sl_region rfl ?_
          | refine sl_nil ?_
          | refine thn_k ?_
          )
      all_goals first | (exfalso; omega) | exact ⟨rfl, (), next_ok (by repeat first | exact Sub.nil _ | refine Sub.cons rfl ?_), trivial⟩
    rintro _ _
    repeat' ((fail_if_success (refine stop_at2 6 ?_)); (first
      | refine swp_false rfl ?_
      ))
    refine swp_seq ?_
    refine swp_joinS (S := Unit) (fun _ => [(0, ptr βx), (2, .bool false), (3, ept bt (t * 3)), (47, .bool false)]) (fun _ => [stepB βx βs bt bo t k e owns, specB βs bt bo n ct kk co σ.rel, HT, HO, OP]) (fun _ => True) ?_ ?_
    · cases f <;> cases owns
      all_goals
        repeat' (first
          | (refine gk 0 rfl ?_; first | refine sl_op rfl rfl rfl (by first | exact opv_move rfl rfl | exact opv_assign rfl rfl | exact opv_pick_t rfl rfl rfl | exact opv_pick_f rfl rfl rfl ) ?_ | refine sl_pass rfl rfl rfl rfl ?_)
          | (refine gk 2 rfl ?_; first | refine sl_pass rfl rfl rfl rfl ?_ | refine sl_if rfl rfl rfl (by first | exact opv_eql rfl rfl rfl ) (fun h => ?_) (fun h => ?_) )
          | (refine gk 3 rfl ?_; first | refine sl_op rfl rfl rfl (by first | exact opv_load rfl (by exact rfl) rfl (by exact rfl) | exact opv_fieldAddr rfl rfl | exact opv_fieldAddrE rfl rfl (by first | assumption ) | exact opv_loadEx rfl (by exact rfl) (by infer_instance) (by first | assumption ) ) ?_ | refine sl_pass rfl rfl rfl rfl ?_)
          | (refine gk 4 rfl ?_; first | refine sl_op rfl rfl rfl (opv_call rfl rfl rfl rfl rfl (p7t)) ?_ | refine sl_op rfl rfl rfl (opv_call rfl rfl rfl rfl rfl (p7f)) ?_ )
          | (refine gk 5 rfl ?_; first | refine sl_op rfl rfl rfl (by first | exact opv_nilCheck rfl rfl | exact opv_nilCheckE rfl rfl ) ?_ | refine sl_pass rfl rfl rfl rfl ?_ )
          | refine sl_region rfl ?_
          | refine sl_nil ?_
          | refine thn_k ?_
          )
      all_goals first | (exfalso; omega) | exact ⟨rfl, (), next_ok (by repeat first | exact Sub.nil _ | refine Sub.cons rfl ?_), trivial⟩
    rintro _ _
    repeat' ((fail_if_success (refine stop_at2 8 ?_)); (first
      | refine swp_false rfl ?_
      ))
    refine swp_seq ?_
    refine swp_joinS (S := Unit) (fun _ => [(0, ptr βx), (2, .bool false), (3, ept bt (t * 3)), (73, .bool false)]) (fun _ => [stepB βx βs bt bo t k e owns, specB βs bt bo n ct kk co σ.rel, HT, HO, OP]) (fun _ => True) ?_ ?_
    · cases f <;> cases owns
      all_goals
        repeat' (first
          | (refine gk 0 rfl ?_; first | refine sl_op rfl rfl rfl (by first | exact opv_move rfl rfl | exact opv_assign rfl rfl | exact opv_pick_t rfl rfl rfl | exact opv_pick_f rfl rfl rfl ) ?_ | refine sl_pass rfl rfl rfl rfl ?_)
          | (refine gk 2 rfl ?_; first | refine sl_if rfl rfl rfl (by first | exact opv_eql rfl rfl rfl ) (fun h => ?_) (fun h => ?_) )
          | (refine gk 3 rfl ?_; first | refine sl_op rfl rfl rfl (by first | exact opv_load rfl (by exact rfl) rfl (by exact rfl) | exact opv_fieldAddr rfl rfl | exact opv_fieldAddrE rfl rfl (by first | assumption ) | exact opv_loadEx rfl (by exact rfl) (by infer_instance) (by first | assumption ) ) ?_ | refine sl_pass rfl rfl rfl rfl ?_)
          | (refine gk 4 rfl ?_; first | refine sl_op rfl rfl rfl (opv_call rfl rfl rfl rfl rfl (p2t)) ?_ | refine sl_op rfl rfl rfl (opv_call rfl rfl rfl rfl rfl (p2f)) ?_ )
          | (refine gk 5 rfl ?_; first | refine sl_op rfl rfl rfl (by first | exact opv_nilCheck rfl rfl | exact opv_nilCheckE rfl rfl ) ?_ | refine sl_pass rfl rfl rfl rfl ?_ )
          | refine sl_region rfl ?_
          | refine sl_nil ?_
          | refine thn_k ?_
          )
      all_goals first | (exfalso; omega) | exact ⟨rfl, (), next_ok (by repeat first | exact Sub.nil _ | refine Sub.cons rfl ?_), trivial⟩
    rintro _ _
    repeat' (first
      | refine swp_seq ?_
      | (refine gk 0 rfl ?_; first | refine sl_op rfl rfl rfl (by first | exact opv_move rfl rfl | exact opv_assign rfl rfl ) ?_ )
      | (refine gk 4 rfl ?_; first | refine sl_op rfl rfl rfl (opv_call rfl rfl rfl rfl rfl (hl)) ?_ | refine sl_op rfl rfl rfl (opv_call rfl rfl rfl rfl rfl (hi4)) ?_)
      | refine sl_region rfl ?_
      | refine sl_nil ?_
      | refine thn_k ?_
      | refine swp_true rfl ?_
      | refine swp_false rfl ?_
      )
    refine sl_drawC [.q [0, 1, 2, 3, 4, 5, 6, 7, 8, 9, 10, 11, 12], .f [13], .q [14, 15], .h true 16, .q [17, 18], .h true 19] [] (by kernel_rfl) (by kernel_rfl) (by kernel_rfl) (by kernel_rfl) ?_
    repeat' (first
      | refine swp_seq ?_
      | (refine gk 0 rfl ?_; first | refine sl_op rfl rfl rfl (by first | exact opv_move rfl rfl | exact opv_assign rfl rfl ) ?_ )
      | (refine gk 3 rfl ?_; first | refine sl_op rfl rfl rfl (by first | exact opv_load rfl (by exact rfl) rfl (by exact rfl) | exact opv_fieldAddr rfl rfl | exact opv_fieldAddrE rfl rfl (by first | assumption ) | exact opv_loadEx rfl (by exact rfl) (by infer_instance) (by first | assumption ) ) ?_ )
      | (refine gk 5 rfl ?_; first | refine sl_op rfl rfl rfl (by first | exact opv_nilCheck rfl rfl | exact opv_nilCheckE rfl rfl | exact opv_build rfl rfl (by exact rfl) ) ?_ )
      | refine sl_region rfl ?_
      | refine chu_nil ?_
      | refine chu_q rfl ?_
      | refine chu_f rfl ?_
      | refine chu_storeU rfl rfl rfl rfl rfl rfl i1 rfl rfl rfl rfl ?_
      | refine chu_storeU (h := updB OP β (oblk { o with far := 4 })) rfl rfl rfl rfl rfl rfl InH.upd rfl rfl rfl rfl ?_
      | refine sl_nil ?_
      | refine thn_k ?_
      | refine swp_ret ?_
      )
    rw [updB_updB]
    exact end_retL [stepB βx βs bt bo t k e owns, specB βs bt bo n ct kk co σ.rel, HT, HO, updB OP β (oblk { o with far := 4, code := 0, val := e.other })] (resOk_one (resV_tmp rfl)) ⟨rfl, HT, HO, _, rfl, m.opn hb⟩
  | false =>
    have hF : waitF σ t k o ow dp f e owns = (false, σ) := by simp [waitF, ha, hv, r4, r3]
    rw [hF]
    rw [hv] at hl hi4
    refine t_of_body Try.func42 rfl (Nat.le_of_ble_eq_true rfl) fun F => ?_
    repeat' ((fail_if_success (refine stop_at2 3 ?_)); (first
      | refine swp_seq ?_
      | (refine gk 0 rfl ?_; first | refine sl_op rfl rfl rfl (by first | exact opv_move rfl rfl | exact opv_assign rfl rfl ) ?_ )
      | (refine gk 3 rfl ?_; first | refine sl_op rfl rfl rfl (by first | exact opv_load rfl (by exact rfl) rfl (by exact rfl) | exact opv_fieldAddr rfl rfl ) ?_ )
      | (refine gk 5 rfl ?_; first | refine sl_op rfl rfl rfl (by first | exact opv_nilCheck rfl rfl ) ?_ )
      | refine sl_region rfl ?_
      | refine sl_nil ?_
      | refine swp_block ?_
      ))
    refine swp_seq ?_
    refine swp_joinS (S := Unit) (fun _ => [(0, ptr βx), (2, .bool false), (3, ept bt (t * 3)), (19, .bool false)]) (fun _ => [stepB βx βs bt bo t k e owns, specB βs bt bo n ct kk co σ.rel, HT, HO, OP]) (fun _ => True) ?_ ?_
    · cases f <;> cases owns
      all_goals
        repeat' (first
          | (refine gk 0 rfl ?_; first | refine sl_op rfl rfl rfl (by first | exact opv_move rfl rfl | exact opv_assign rfl rfl | exact opv_pick_t rfl rfl rfl | exact opv_pick_f rfl rfl rfl ) ?_ | refine sl_pass rfl rfl rfl rfl ?_)
          | (refine gk 2 rfl ?_; first | refine sl_pass rfl rfl rfl rfl ?_ | refine sl_if rfl rfl rfl (by first | exact opv_eql rfl rfl rfl ) (fun h => ?_) (fun h => ?_) )
          | (refine gk 3 rfl ?_; first | refine sl_op rfl rfl rfl (by first | exact opv_load rfl (by exact rfl) rfl (by exact rfl) | exact opv_fieldAddr rfl rfl | exact opv_fieldAddrE rfl rfl (by first | assumption ) | exact opv_loadEx rfl (by exact rfl) (by infer_instance) (by first | assumption ) ) ?_ | refine sl_pass rfl rfl rfl rfl ?_)
          | (refine gk 4 rfl ?_; first | refine sl_op rfl rfl rfl (opv_call rfl rfl rfl rfl rfl (p7t)) ?_ | refine sl_op rfl rfl rfl (opv_call rfl rfl rfl rfl rfl (p7f)) ?_ )
          | (refine gk 5 rfl ?_; first | refine sl_op rfl rfl rfl (by first | exact opv_nilCheck rfl rfl | exact opv_nilCheckE rfl rfl ) ?_ | refine sl_pass rfl rfl rfl rfl ?_ )
          | refine sl_region rfl ?_
          | refine sl_nil ?_
          | refine thn_k ?_
          )
      all_goals first | (exfalso; omega) | exact ⟨rfl, (), next_ok (by repeat first | exact Sub.nil _ | refine Sub.cons rfl ?_), trivial⟩
    rintro _ _
    repeat' ((fail_if_success (refine stop_at2 6 ?_)); (first
      | refine swp_false rfl ?_
      ))
    refine swp_seq ?_
    refine swp_joinS (S := Unit) (fun _ => [(0, ptr βx), (2, .bool false), (3, ept bt (t * 3)), (47, .bool false)]) (fun _ => [stepB βx βs bt bo t k e owns, specB βs bt bo n ct kk co σ.rel, HT, HO, OP]) (fun _ => True) ?_ ?_
    · cases f <;> cases owns
      all_goals
        repeat' (first
          | (refine gk 0 rfl ?_; first | refine sl_op rfl rfl rfl (by first | exact opv_move rfl rfl | exact opv_assign rfl rfl | exact opv_pick_t rfl rfl rfl | exact opv_pick_f rfl rfl rfl ) ?_ | refine sl_pass rfl rfl rfl rfl ?_)
          | (refine gk 2 rfl ?_; first | refine sl_pass rfl rfl rfl rfl ?_ | refine sl_if rfl rfl rfl (by first | exact opv_eql rfl rfl rfl ) (fun h => ?_) (fun h => ?_) )
          | (refine gk 3 rfl ?_; first | refine sl_op rfl rfl rfl (by first | exact opv_load rfl (by exact rfl) rfl (by exact rfl) | exact opv_fieldAddr rfl rfl | exact opv_fieldAddrE rfl rfl (by first | assumption ) | exact opv_loadEx rfl (by exact rfl) (by infer_instance) (by first | assumption ) ) ?_ | refine sl_pass rfl rfl rfl rfl ?_)
          | (refine gk 4 rfl ?_; first | refine sl_op rfl rfl rfl (opv_call rfl rfl rfl rfl rfl (p7t)) ?_ | refine sl_op rfl rfl rfl (opv_call rfl rfl rfl rfl rfl (p7f)) ?_ )
          | (refine gk 5 rfl ?_; first | refine sl_op rfl rfl rfl (by first | exact opv_nilCheck rfl rfl | exact opv_nilCheckE rfl rfl ) ?_ | refine sl_pass rfl rfl rfl rfl ?_ )
          | refine sl_region rfl ?_
          | refine sl_nil ?_
          | refine thn_k ?_
          )
      all_goals first | (exfalso; omega) | exact ⟨rfl, (), next_ok (by repeat first | exact Sub.nil _ | refine Sub.cons rfl ?_), trivial⟩
    rintro _ _
    repeat' ((fail_if_success (refine stop_at2 8 ?_)); (first
      | refine swp_false rfl ?_
      ))
    refine swp_seq ?_
    refine swp_joinS (S := Unit) (fun _ => [(0, ptr βx), (2, .bool false), (3, ept bt (t * 3)), (73, .bool false)]) (fun _ => [stepB βx βs bt bo t k e owns, specB βs bt bo n ct kk co σ.rel, HT, HO, OP]) (fun _ => True) ?_ ?_
    · cases f <;> cases owns
      all_goals
        repeat' (first
          | (refine gk 0 rfl ?_; first | refine sl_op rfl rfl rfl (by first | exact opv_move rfl rfl | exact opv_assign rfl rfl | exact opv_pick_t rfl rfl rfl | exact opv_pick_f rfl rfl rfl ) ?_ | refine sl_pass rfl rfl rfl rfl ?_)
          | (refine gk 2 rfl ?_; first | refine sl_if rfl rfl rfl (by first | exact opv_eql rfl rfl rfl ) (fun h => ?_) (fun h => ?_) )
          | (refine gk 3 rfl ?_; first | refine sl_op rfl rfl rfl (by first | exact opv_load rfl (by exact rfl) rfl (by exact rfl) | exact opv_fieldAddr rfl rfl | exact opv_fieldAddrE rfl rfl (by first | assumption ) | exact opv_loadEx rfl (by exact rfl) (by infer_instance) (by first | assumption ) ) ?_ | refine sl_pass rfl rfl rfl rfl ?_)
          | (refine gk 4 rfl ?_; first | refine sl_op rfl rfl rfl (opv_call rfl rfl rfl rfl rfl (p2t)) ?_ | refine sl_op rfl rfl rfl (opv_call rfl rfl rfl rfl rfl (p2f)) ?_ )
          | (refine gk 5 rfl ?_; first | refine sl_op rfl rfl rfl (by first | exact opv_nilCheck rfl rfl | exact opv_nilCheckE rfl rfl ) ?_ | refine sl_pass rfl rfl rfl rfl ?_ )
          | refine sl_region rfl ?_
          | refine sl_nil ?_
          | refine thn_k ?_
          )
      all_goals first | (exfalso; omega) | exact ⟨rfl, (), next_ok (by repeat first | exact Sub.nil _ | refine Sub.cons rfl ?_), trivial⟩
    rintro _ _
    repeat' ((fail_if_success (refine stop_at2 12 ?_)); (first
      | refine swp_false rfl ?_
      ))
    refine swp_seq ?_
    refine swp_joinS (S := Unit) (fun _ => [(0, ptr βx), (2, .bool false), (3, ept bt (t * 3)), (138, .bool false)]) (fun _ => [stepB βx βs bt bo t k e owns, specB βs bt bo n ct kk co σ.rel, HT, HO, OP]) (fun _ => True) ?_ ?_
    · cases f <;> cases owns
      all_goals
        repeat' (first
          | (refine gk 0 rfl ?_; first | refine sl_op rfl rfl rfl (by first | exact opv_move rfl rfl | exact opv_assign rfl rfl ) ?_ )
          | (refine gk 4 rfl ?_; first | refine sl_op rfl rfl rfl (opv_call rfl rfl rfl rfl rfl (hl)) ?_ | refine sl_op rfl rfl rfl (opv_call rfl rfl rfl rfl rfl (hi4)) ?_ )
          | refine sl_region rfl ?_
          | refine sl_nil ?_
          | refine thn_k ?_
          )
      all_goals first | (exfalso; omega) | exact ⟨rfl, (), next_ok (by repeat first | exact Sub.nil _ | refine Sub.cons rfl ?_), trivial⟩
    rintro _ _
    repeat' ((fail_if_success (refine stop_at2 14 ?_)); (first
      | refine swp_false rfl ?_
      ))
    refine swp_seq ?_
    refine swp_joinS (S := Unit) (fun _ => [(0, ptr βx), (2, .bool false), (3, ept bt (t * 3)), (161, .bool false)]) (fun _ => [stepB βx βs bt bo t k e owns, specB βs bt bo n ct kk co σ.rel, HT, HO, OP]) (fun _ => True) ?_ ?_
    · cases f <;> cases owns
      all_goals
        repeat' (first
          | (refine gk 0 rfl ?_; first | refine sl_op rfl rfl rfl (by first | exact opv_move rfl rfl | exact opv_assign rfl rfl | exact opv_pick_t rfl rfl rfl | exact opv_pick_f rfl rfl rfl ) ?_ | refine sl_pass rfl rfl rfl rfl ?_)
          | (refine gk 2 rfl ?_; first | refine sl_pass rfl rfl rfl rfl ?_ | refine sl_if rfl rfl rfl (by first | exact opv_lss rfl rfl rfl | exact opv_eql rfl rfl rfl ) (fun h => ?_) (fun h => ?_) )
          | (refine gk 3 rfl ?_; first | refine sl_op rfl rfl rfl (by first | exact opv_load rfl (by exact rfl) rfl (by exact rfl) | exact opv_fieldAddr rfl rfl | exact opv_fieldAddrE rfl rfl (by first | assumption ) | exact opv_loadEx rfl (by exact rfl) (by infer_instance) (by first | assumption ) ) ?_ | refine sl_pass rfl rfl rfl rfl ?_)
          | (refine gk 4 rfl ?_; first | refine sl_op rfl rfl rfl (opv_call rfl rfl rfl rfl rfl (p5t)) ?_ | refine sl_op rfl rfl rfl (opv_call rfl rfl rfl rfl rfl (p5f)) ?_)
          | (refine gk 5 rfl ?_; first | refine sl_op rfl rfl rfl (by first | exact opv_nilCheck rfl rfl | exact opv_nilCheckE rfl rfl ) ?_ | refine sl_pass rfl rfl rfl rfl ?_ )
          | refine sl_region rfl ?_
          | refine sl_nil ?_
          | refine thn_k ?_
          )
      all_goals first | (exfalso; omega) | exact ⟨rfl, (), next_ok (by repeat first | exact Sub.nil _ | refine Sub.cons rfl ?_), trivial⟩
    rintro _ _
    repeat' (first
      | refine swp_seq ?_
      | (refine gk 0 rfl ?_; first | refine sl_op rfl rfl rfl (by first | exact opv_move rfl rfl | exact opv_assign rfl rfl | exact opv_pick_f rfl rfl rfl | exact opv_not rfl rfl ) ?_ )
      | (refine gk 3 rfl ?_; first | refine sl_op rfl rfl rfl (by first | exact opv_load rfl (by exact rfl) rfl (by exact rfl) | exact opv_fieldAddr rfl rfl ) ?_ )
      | (refine gk 4 rfl ?_; first | (refine sl_callT rfl rfl rfl rfl rfl rfl rfl rfl (hr4) ?_; rintro _ _ ⟨rfl, rfl⟩; refine ⟨_, _, rfl, rfl, ?_⟩) | (refine sl_callT rfl rfl rfl rfl rfl rfl rfl rfl (hr3) ?_; rintro _ _ ⟨rfl, rfl⟩; refine ⟨_, _, rfl, rfl, ?_⟩))
      | (refine gk 5 rfl ?_; first | refine sl_op rfl rfl rfl (by first | exact opv_nilCheck rfl rfl ) ?_ )
      | refine sl_region rfl ?_
      | refine sl_nil ?_
      | refine thn_k ?_
      | refine swp_false rfl ?_
      | refine swp_ret ?_
      | refine thn_ret ?_
      | refine inb_ret ?_
      )
    exact end_retL [stepB βx βs bt bo t k e owns, specB βs bt bo n ct kk co σ.rel, HT, HO, OP] (resOk_one (resV_tmp rfl)) ⟨rfl, HT, HO, _, rfl, m⟩
end
end Go.Proofs.Ytimmclibnfdjhaa
