/- What is answered. -/
import Derived.Test.YtimmclibnfdjhaaWB10
set_option linter.unusedVariables false
set_option linter.unusedSimpArgs false
set_option linter.unusedSectionVars false
namespace Go.Proofs.Ytimmclibnfdjhaa
open Go.SL
set_option maxRecDepth 100000
set_option maxHeartbeats 16000000
attribute [local irreducible] SL.T PFn OpV SOL SWP HOp ChU
-- FIELDS_READ
section
variable {βs t : Nat} {bt bo : Option Addr} {n ct kk co : Nat} {e : Ev} {HT HO OP : Heap} {bs : List (Option Nat)} {σ : St} {x : Th} {o : Opn}
theorem answer_none (m : MemOk bt bo ct co HT HO OP bs σ) (ht : σ.th[t]? = some x) (hx : x.opn = none) : PFn Try.prog 28 [ptr βs, ept bt (t * 3), .agg ⟨ecells e⟩] [HT] (.bool false) := by
  haveI := m.nT
  haveI slT := m.hT.sl
  obtain ⟨b, hb, hb1, hb2⟩ := m.op.at_ _ _ ht
  obtain ⟨c1, c2, c3⟩ := thCells_at hb ht
  have htl : t * 3 < (thCells bs σ.th).length := (List.getElem?_eq_some_iff.1 c1).1
  obtain rfl := hb1 hx
  have c0 : (thCells bs σ.th)[t * 3 + 0]? = some (.pointer none) := c1
  refine pure_of_body Try.func28 rfl (Nat.le_of_ble_eq_true rfl) fun F => ?_
  repeat' (first
    | refine swp_seq ?_
    | (refine gk 0 rfl ?_; first | refine sl_op rfl rfl rfl (by first | exact opv_move rfl rfl | exact opv_assign rfl rfl | exact opv_pick_t rfl rfl rfl ) ?_ | refine sl_pass rfl rfl rfl rfl ?_)
    | (refine gk 1 rfl ?_; first | refine sl_pass rfl rfl rfl rfl ?_)
    | (refine gk 2 rfl ?_; first | refine sl_pass rfl rfl rfl rfl ?_ | refine sl_op rfl rfl rfl (by first | exact opv_ptrEql rfl rfl ) ?_ )
    | (refine gk 3 rfl ?_; first | refine sl_op rfl rfl rfl (by first | exact opv_fieldAddr rfl rfl | exact opv_fieldAddrE rfl rfl (by first | assumption ) | exact opv_loadEx rfl (by exact rfl) (by infer_instance) (by first | assumption ) ) ?_ | refine sl_pass rfl rfl rfl rfl ?_)
    | (refine gk 5 rfl ?_; first | refine sl_op rfl rfl rfl (by first | exact opv_nilCheckE rfl rfl ) ?_ | refine sl_pass rfl rfl rfl rfl ?_ | refine sl_box rfl rfl rfl rfl rfl rfl (fun β => ?_) )
    | refine sl_region rfl ?_
    | refine sl_draw (by kernel_rfl) (by kernel_rfl) rfl ?_
    | refine sl_nil ?_
    | refine thn_k ?_
    | refine swp_true rfl ?_
    | refine swp_ret ?_
    | refine thn_ret ?_
    )
  refine end_pure (resOk_one (resV_tmp rfl)) ?_
  rfl
theorem answer_calls (m : MemOk bt bo ct co HT HO OP bs σ) (ht : σ.th[t]? = some x) (hx : x.opn = some o) :
    SL.T Try.prog 28 [ptr βs, ept bt (t * 3), .agg ⟨ecells e⟩] [specB βs bt bo n ct kk co σ.rel, HT, OP] fun en w =>
      (ansNo n kk x o e ∧ en = .returned (.bool false) ∧ w = [specB βs bt bo n ct kk co σ.rel, HT, OP]) ∨
      (¬ ansNo n kk x o e ∧ en = .returned (.bool true) ∧ ∃ HT', w = [specB βs bt bo n ct kk co σ.rel, HT', OP] ∧ OS HT' bt σ.th.length ct 73 3 (thCells (bs.set t none) σ.th)) := by
  haveI := m.nT
  haveI slT := m.hT.sl
  have osT := m.hT
  obtain ⟨b, hb, hb1, hb2⟩ := m.op.at_ _ _ ht
  obtain ⟨β, rfl, hβ⟩ := hb2 o hx
  haveI : InH OP β (oblk o) := ⟨hβ⟩
  obtain ⟨c1, c2, c3⟩ := thCells_at hb ht
  have htl : t * 3 < (thCells bs σ.th).length := (List.getElem?_eq_some_iff.1 c1).1
  have c0 : (thCells bs σ.th)[t * 3 + 0]? = some (ptr β) := c1
  have hw := wrong_calls (βs := βs) (bt := bt) (bo := bo) (n := n) (ct := ct) (k := kk) (co := co) (rel := σ.rel) o.op o.obj o.arg
  have hpc := ptr_cells (bs := bs) (th := σ.th) (t := t) none m.op.len (List.getElem?_eq_some_iff.1 ht).1
  have no : ∀ {P : Prop}, P → (P → ansNo n kk x o e) → (ansNo n kk x o e ∧ Ending.returned (.bool false) = .returned (.bool false) ∧ [specB βs bt bo n ct kk co σ.rel, HT, OP] = [specB βs bt bo n ct kk co σ.rel, HT, OP]) := fun h g => ⟨g h, rfl, rfl⟩
  by_cases g : e.index = dec x.calls ∧ e.act = 0 ∧ e.obj = 0 ∧ e.other = 0
  · obtain ⟨g1, g2, g3, g4⟩ := g
    have g1' : e.index = IntKind.i64.wrap (x.calls - 1) := g1
    refine t_of_body Try.func28 rfl (Nat.le_of_ble_eq_true rfl) fun F => ?_
    repeat' (first
      | refine swp_seq ?_
      | (refine gk 0 rfl ?_; first | refine sl_op rfl rfl rfl (by first | exact opv_assign rfl rfl ) ?_ )
      | (refine gk 5 rfl ?_; first | refine sl_box rfl rfl rfl rfl rfl rfl (fun β => ?_) )
      | refine sl_region rfl ?_
      | refine sl_nil ?_
      )
    refine sl_draw (by kernel_rfl) (by kernel_rfl) rfl ?_
    repeat' (first
      | refine swp_seq ?_
      | (refine gk 0 rfl ?_; first | refine sl_op rfl rfl rfl (by first | exact opv_move rfl rfl | exact opv_pick_f rfl rfl rfl ) ?_ )
      | (refine gk 1 rfl ?_; first | refine sl_op rfl rfl rfl (by first | exact opv_sub rfl rfl rfl ) ?_ )
      | (refine gk 2 rfl ?_; first | refine sl_no rfl rfl rfl (by first | exact opv_neq rfl rfl rfl) (by first | omega ) ?_ | refine sl_op rfl rfl rfl (by first | exact opv_ptrEql rfl rfl ) ?_ )
      | (refine gk 3 rfl ?_; first | refine sl_op rfl rfl rfl (by first | exact opv_load rfl (by exact rfl) rfl (by exact rfl) | exact opv_fieldAddr rfl rfl | exact opv_fieldAddrE rfl rfl (by first | assumption ) | exact opv_loadEx rfl (by exact rfl) (by infer_instance) (by first | assumption ) ) ?_ )
      | (refine gk 5 rfl ?_; first | refine sl_op rfl rfl rfl (by first | exact opv_nilCheckE rfl rfl ) ?_ )
      | refine sl_nil ?_
      | refine thn_k ?_
      | refine swp_false rfl ?_
      | refine swp_skip ?_
      )
    refine sl_drawC [.q [0, 1, 2, 3, 4, 5, 6, 7, 8, 9, 10, 11, 12, 13, 14, 15, 16, 17, 18, 19, 20, 21, 22, 23, 24, 25], .f [26], .r [27, 28, 29, 30, 31, 32], .f [33, 34, 35], .an 36, .rv 36, .h true 37, .q [38]] [HT, OP] (by kernel_rfl) (by kernel_rfl) (by kernel_rfl) (by kernel_rfl) ?_
    by_cases hwr : wrongB n kk o.op o.obj o.arg
    · rw [decide_eq_true hwr] at hw
      have hwc : wantC n kk o = (2, 0) := by simp only [wantC, if_pos hwr]
      have hm : mayB n kk o := .inl hwr
      by_cases hr : e.code = 2 ∧ e.val = 0
      · have hres : (!(decide (e.code = 2) && (decide (e.val = 0) && true))) = false := by simp [hr.1, hr.2]
        repeat' (first
          | refine sl_storeE rfl rfl rfl rfl rfl osT rfl rfl rfl (Nat.succ_pos _) (by simp; omega) hpc (fun HT2 osT2 => ?_)
          | refine swp_seq ?_
          | (refine gk 0 rfl ?_; first | refine sl_op rfl rfl rfl (by first | exact opv_move rfl rfl | exact opv_assign rfl rfl | exact opv_pick_t rfl rfl rfl | exact opv_pick_f rfl rfl rfl | exact opv_not_t rfl rfl ) ?_ | refine sl_pass rfl rfl rfl rfl ?_)
          | (refine gk 2 rfl ?_; first | refine sl_pass rfl rfl rfl rfl ?_ | refine sl_if rfl rfl rfl (by first | exact opv_eql rfl rfl rfl ) (fun h => ?_) (fun h => ?_) | refine sl_ff rfl rfl rfl (by first | exact opv_neqS rfl rfl rfl rfl) (by first | assumption) ?_ )
          | (refine gk 3 rfl ?_; first | refine sl_op rfl rfl rfl (by first | exact opv_load rfl (by exact rfl) rfl (by exact rfl) | exact opv_fieldAddr rfl rfl | exact opv_loadA rfl (by exact rfl) rfl (by exact rfl) (by exact rfl) | exact opv_fieldAddrE rfl rfl (by first | assumption ) | exact opv_loadEx rfl (by exact rfl) (by infer_instance) (by first | assumption ) ) ?_ | refine sl_pass rfl rfl rfl rfl ?_)
          | (refine gk 4 rfl ?_; first | refine sl_op rfl rfl rfl (opv_call rfl rfl rfl rfl rfl (hw)) ?_)
          | (refine gk 5 rfl ?_; first | refine sl_op rfl rfl rfl (by first | exact opv_nilCheck rfl rfl | exact opv_nilCheckE rfl rfl | exact opv_build rfl rfl (by exact rfl) ) ?_ | refine sl_pass rfl rfl rfl rfl ?_ | refine sl_store rfl rfl rfl rfl rfl rfl (by exact rfl) rfl (by exact rfl) ?_)
          | refine sl_region rfl ?_
          | refine chu_nil ?_
          | refine chu_q rfl ?_
          | refine chu_f rfl ?_
          | refine chu_r rfl ?_
          | refine chu_new rfl rfl (by first | exact new_alloc rfl (by exact rfl) ) ?_
          | refine chu_rv rfl rfl rfl (fun β => ?_)
          | refine chu_store rfl rfl rfl rfl rfl rfl (by exact rfl) rfl (by exact rfl) (by exact rfl) ?_
          | refine sl_nil ?_
          | refine thn_k ?_
          | refine swp_true rfl ?_
          | refine swp_false rfl ?_
          | refine swp_ret ?_
          | refine swp_skip ?_
          )
        all_goals exact end_retL [specB βs bt bo n ct kk co σ.rel, HT2, OP] (resOk_one (resV_tmp rfl)) (.inr ⟨by simp [ansNo, hwc, hm, g1, g2, g3, g4, hr.1, hr.2], rfl, HT2, rfl, osT2⟩)
      · have hres : (!(decide (e.code = 2) && (decide (e.val = 0) && true))) = true := by
          simp
          by_cases a : e.code = 2
          · exact .inr fun b => hr ⟨a, b⟩
          · exact .inl a
        repeat' (first
          | refine swp_seq ?_
          | (refine gk 0 rfl ?_; first | refine sl_op rfl rfl rfl (by first | exact opv_move rfl rfl | exact opv_assign rfl rfl | exact opv_pick_t rfl rfl rfl | exact opv_pick_f rfl rfl rfl | exact opv_not_t rfl rfl ) ?_ | refine sl_pass rfl rfl rfl rfl ?_)
          | (refine gk 2 rfl ?_; first | refine sl_pass rfl rfl rfl rfl ?_ | refine sl_if rfl rfl rfl (by first | exact opv_eql rfl rfl rfl ) (fun h => ?_) (fun h => ?_) | refine sl_tt rfl rfl rfl (by first | exact opv_neqS rfl rfl rfl rfl) (by first | assumption) ?_ )
          | (refine gk 3 rfl ?_; first | refine sl_op rfl rfl rfl (by first | exact opv_load rfl (by exact rfl) rfl (by exact rfl) | exact opv_fieldAddr rfl rfl | exact opv_loadA rfl (by exact rfl) rfl (by exact rfl) (by exact rfl) | exact opv_fieldAddrE rfl rfl (by first | assumption ) | exact opv_loadEx rfl (by exact rfl) (by infer_instance) (by first | assumption ) ) ?_ | refine sl_pass rfl rfl rfl rfl ?_)
          | (refine gk 4 rfl ?_; first | refine sl_op rfl rfl rfl (opv_call rfl rfl rfl rfl rfl (hw)) ?_)
          | (refine gk 5 rfl ?_; first | refine sl_op rfl rfl rfl (by first | exact opv_nilCheck rfl rfl | exact opv_nilCheckE rfl rfl | exact opv_build rfl rfl (by exact rfl) ) ?_ | refine sl_pass rfl rfl rfl rfl ?_ | refine sl_store rfl rfl rfl rfl rfl rfl (by exact rfl) rfl (by exact rfl) ?_)
          | refine sl_region rfl ?_
          | refine chu_nil ?_
          | refine chu_q rfl ?_
          | refine chu_f rfl ?_
          | refine chu_r rfl ?_
          | refine chu_new rfl rfl (by first | exact new_alloc rfl (by exact rfl) ) ?_
          | refine chu_rv rfl rfl rfl (fun β => ?_)
          | refine chu_store rfl rfl rfl rfl rfl rfl (by exact rfl) rfl (by exact rfl) (by exact rfl) ?_
          | refine sl_nil ?_
          | refine thn_k ?_
          | refine swp_true rfl ?_
          | refine swp_ret ?_
          | refine thn_ret ?_
          )
        all_goals exact end_retL [specB βs bt bo n ct kk co σ.rel, HT, OP] (resOk_one (resV_tmp rfl)) (.inl (no hr fun h => by
          unfold ansNo; rw [hwc]
          by_cases a : e.code = 2
          · exact .inr (.inr (.inr (.inr (.inr (.inr fun b => h ⟨a, b⟩)))))
          · exact .inr (.inr (.inr (.inr (.inr (.inl a)))))))
    · rw [decide_eq_false hwr] at hw
      have hwc : wantC n kk o = (o.code, o.val) := by simp only [wantC, if_neg hwr]
      by_cases hm : o.far = 5 ∨ (o.op = 8 ∧ o.far = 0)
      · have hm2 : mayB n kk o := .inr hm
        by_cases hr : e.code = o.code ∧ e.val = o.val
        · have hres : (!(decide (e.code = o.code) && (decide (e.val = o.val) && true))) = false := by simp [hr.1, hr.2]
          repeat' (first
            | refine sl_storeE rfl rfl rfl rfl rfl osT rfl rfl rfl (Nat.succ_pos _) (by simp; omega) hpc (fun HT2 osT2 => ?_)
            | refine swp_seq ?_
            | (refine gk 0 rfl ?_; first | refine sl_op rfl rfl rfl (by first | exact opv_move rfl rfl | exact opv_assign rfl rfl | exact opv_pick_t rfl rfl rfl | exact opv_pick_f rfl rfl rfl | exact opv_not_t rfl rfl ) ?_ | refine sl_pass rfl rfl rfl rfl ?_)
            | (refine gk 2 rfl ?_; first | refine sl_pass rfl rfl rfl rfl ?_ | refine sl_yes rfl rfl rfl (by first | exact opv_eql rfl rfl rfl ) (by first | omega ) ?_ | refine sl_if rfl rfl rfl (by first | exact opv_eql rfl rfl rfl ) (fun h => ?_) (fun h => ?_) | refine sl_ff rfl rfl rfl (by first | exact opv_neqS rfl rfl rfl rfl) (by first | assumption) ?_ )
            | (refine gk 3 rfl ?_; first | refine sl_op rfl rfl rfl (by first | exact opv_load rfl (by exact rfl) rfl (by exact rfl) | exact opv_fieldAddr rfl rfl | exact opv_loadA rfl (by exact rfl) rfl (by exact rfl) (by exact rfl) | exact opv_fieldAddrE rfl rfl (by first | assumption ) | exact opv_loadEx rfl (by exact rfl) (by infer_instance) (by first | assumption ) ) ?_ | refine sl_pass rfl rfl rfl rfl ?_)
            | (refine gk 4 rfl ?_; first | refine sl_op rfl rfl rfl (opv_call rfl rfl rfl rfl rfl (hw)) ?_)
            | (refine gk 5 rfl ?_; first | refine sl_op rfl rfl rfl (by first | exact opv_nilCheck rfl rfl | exact opv_nilCheckE rfl rfl ) ?_ | refine sl_pass rfl rfl rfl rfl ?_ )
            | refine sl_region rfl ?_
            | refine chu_nil ?_
            | refine chu_q rfl ?_
            | refine chu_f rfl ?_
            | refine chu_r rfl ?_
            | refine chu_new rfl rfl (by first | exact new_alloc rfl (by exact rfl) ) ?_
            | refine chu_rv rfl rfl rfl (fun β => ?_)
            | refine chu_store rfl rfl rfl rfl rfl rfl (by exact rfl) rfl (by exact rfl) (by exact rfl) ?_
            | refine sl_nil ?_
            | refine thn_k ?_
            | refine swp_false rfl ?_
            | refine swp_ret ?_
            | refine swp_skip ?_
            )
          all_goals first | (exfalso; omega) | exact end_retL [specB βs bt bo n ct kk co σ.rel, HT2, OP] (resOk_one (resV_tmp rfl)) (.inr ⟨by simp [ansNo, hwc, hm2, g1, g2, g3, g4, hr.1, hr.2], rfl, HT2, rfl, osT2⟩)
        · have hres : (!(decide (e.code = o.code) && (decide (e.val = o.val) && true))) = true := by
            simp
            by_cases a : e.code = o.code
            · exact .inr fun b => hr ⟨a, b⟩
            · exact .inl a
          repeat' (first
            | refine swp_seq ?_
            | (refine gk 0 rfl ?_; first | refine sl_op rfl rfl rfl (by first | exact opv_move rfl rfl | exact opv_assign rfl rfl | exact opv_pick_t rfl rfl rfl | exact opv_pick_f rfl rfl rfl | exact opv_not_t rfl rfl ) ?_ | refine sl_pass rfl rfl rfl rfl ?_)
            | (refine gk 2 rfl ?_; first | refine sl_pass rfl rfl rfl rfl ?_ | refine sl_yes rfl rfl rfl (by first | exact opv_eql rfl rfl rfl ) (by first | omega ) ?_ | refine sl_if rfl rfl rfl (by first | exact opv_eql rfl rfl rfl ) (fun h => ?_) (fun h => ?_) | refine sl_tt rfl rfl rfl (by first | exact opv_neqS rfl rfl rfl rfl) (by first | assumption) ?_ )
            | (refine gk 3 rfl ?_; first | refine sl_op rfl rfl rfl (by first | exact opv_load rfl (by exact rfl) rfl (by exact rfl) | exact opv_fieldAddr rfl rfl | exact opv_loadA rfl (by exact rfl) rfl (by exact rfl) (by exact rfl) | exact opv_fieldAddrE rfl rfl (by first | assumption ) | exact opv_loadEx rfl (by exact rfl) (by infer_instance) (by first | assumption ) ) ?_ | refine sl_pass rfl rfl rfl rfl ?_)
            | (refine gk 4 rfl ?_; first | refine sl_op rfl rfl rfl (opv_call rfl rfl rfl rfl rfl (hw)) ?_)
            | (refine gk 5 rfl ?_; first | refine sl_op rfl rfl rfl (by first | exact opv_nilCheck rfl rfl | exact opv_nilCheckE rfl rfl ) ?_ | refine sl_pass rfl rfl rfl rfl ?_ )
            | refine sl_region rfl ?_
            | refine chu_nil ?_
            | refine chu_q rfl ?_
            | refine chu_f rfl ?_
            | refine chu_r rfl ?_
            | refine chu_new rfl rfl (by first | exact new_alloc rfl (by exact rfl) ) ?_
            | refine chu_rv rfl rfl rfl (fun β => ?_)
            | refine chu_store rfl rfl rfl rfl rfl rfl (by exact rfl) rfl (by exact rfl) (by exact rfl) ?_
            | refine sl_nil ?_
            | refine thn_k ?_
            | refine swp_true rfl ?_
            | refine swp_false rfl ?_
            | refine swp_ret ?_
            | refine swp_skip ?_
            | refine thn_ret ?_
            )
          all_goals first | (exfalso; omega) | exact end_retL [specB βs bt bo n ct kk co σ.rel, HT, OP] (resOk_one (resV_tmp rfl)) (.inl (no hr fun h => by
            unfold ansNo; rw [hwc]
            by_cases a : e.code = o.code
            · exact .inr (.inr (.inr (.inr (.inr (.inr fun b => h ⟨a, b⟩)))))
            · exact .inr (.inr (.inr (.inr (.inr (.inl a)))))))
      · have hm2 : ¬ mayB n kk o := fun h => h.elim hwr hm
        repeat' (first
          | refine swp_seq ?_
          | (refine gk 0 rfl ?_; first | refine sl_op rfl rfl rfl (by first | exact opv_move rfl rfl | exact opv_assign rfl rfl | exact opv_pick_t rfl rfl rfl | exact opv_pick_f rfl rfl rfl | exact opv_not_f rfl rfl ) ?_ | refine sl_pass rfl rfl rfl rfl ?_)
          | (refine gk 2 rfl ?_; first | refine sl_pass rfl rfl rfl rfl ?_ | refine sl_no rfl rfl rfl (by first | exact opv_eql rfl rfl rfl ) (by first | omega ) ?_ | refine sl_if rfl rfl rfl (by first | exact opv_eql rfl rfl rfl ) (fun h => ?_) (fun h => ?_) )
          | (refine gk 3 rfl ?_; first | refine sl_op rfl rfl rfl (by first | exact opv_load rfl (by exact rfl) rfl (by exact rfl) | exact opv_fieldAddr rfl rfl | exact opv_loadA rfl (by exact rfl) rfl (by exact rfl) (by exact rfl) | exact opv_fieldAddrE rfl rfl (by first | assumption ) | exact opv_loadEx rfl (by exact rfl) (by infer_instance) (by first | assumption ) ) ?_ | refine sl_pass rfl rfl rfl rfl ?_)
          | (refine gk 4 rfl ?_; first | refine sl_op rfl rfl rfl (opv_call rfl rfl rfl rfl rfl (hw)) ?_)
          | (refine gk 5 rfl ?_; first | refine sl_op rfl rfl rfl (by first | exact opv_nilCheck rfl rfl | exact opv_nilCheckE rfl rfl ) ?_ | refine sl_pass rfl rfl rfl rfl ?_ )
          | refine sl_region rfl ?_
          | refine chu_nil ?_
          | refine chu_q rfl ?_
          | refine chu_f rfl ?_
          | refine chu_r rfl ?_
          | refine chu_new rfl rfl (by first | exact new_alloc rfl (by exact rfl) ) ?_
          | refine chu_rv rfl rfl rfl (fun β => ?_)
          | refine chu_store rfl rfl rfl rfl rfl rfl (by exact rfl) rfl (by exact rfl) (by exact rfl) ?_
          | refine sl_nil ?_
          | refine thn_k ?_
          | refine swp_true rfl ?_
          | refine swp_false rfl ?_
          | refine swp_ret ?_
          | refine swp_skip ?_
          | refine thn_ret ?_
          )
        all_goals first | (exfalso; omega) | exact end_retL [specB βs bt bo n ct kk co σ.rel, HT, OP] (resOk_one (resV_tmp rfl)) (.inl (no hm2 fun h => .inr (.inr (.inr (.inr (.inl h))))))
  · have hno : ansNo n kk x o e := by
      unfold ansNo
      by_cases g1 : e.index = dec x.calls
      · by_cases g2 : e.act = 0
        · by_cases g3 : e.obj = 0
          · by_cases g4 : e.other = 0
            · exact absurd ⟨g1, g2, g3, g4⟩ g
            · exact .inr (.inr (.inr (.inl g4)))
          · exact .inr (.inr (.inl g3))
        · exact .inr (.inl g2)
      · exact .inl g1
    have g' : ¬ (e.index = IntKind.i64.wrap (x.calls - 1) ∧ e.act = 0 ∧ e.obj = 0 ∧ e.other = 0) := g
    refine t_of_body Try.func28 rfl (Nat.le_of_ble_eq_true rfl) fun F => ?_
    repeat' (first
      | refine swp_seq ?_
      | (refine gk 0 rfl ?_; first | refine sl_op rfl rfl rfl (by first | exact opv_assign rfl rfl ) ?_ )
      | (refine gk 5 rfl ?_; first | refine sl_box rfl rfl rfl rfl rfl rfl (fun β => ?_) )
      | refine sl_region rfl ?_
      | refine sl_nil ?_
      )
    refine sl_draw (by kernel_rfl) (by kernel_rfl) rfl ?_
    repeat' (first
      | refine swp_seq ?_
      | (refine gk 0 rfl ?_; first | refine sl_op rfl rfl rfl (by first | exact opv_move rfl rfl | exact opv_assign rfl rfl | exact opv_pick_t rfl rfl rfl | exact opv_pick_f rfl rfl rfl ) ?_ )
      | (refine gk 1 rfl ?_; first | refine sl_op rfl rfl rfl (by first | exact opv_sub rfl rfl rfl ) ?_ )
      | (refine gk 2 rfl ?_; first | refine sl_pass rfl rfl rfl rfl ?_ | refine sl_yes rfl rfl rfl (by first | exact opv_neq rfl rfl rfl) (by first | omega ) ?_ | refine sl_if rfl rfl rfl (by first | exact opv_neq rfl rfl rfl) (fun h => ?_) (fun h => ?_) | refine sl_op rfl rfl rfl (by first | exact opv_ptrEql rfl rfl ) ?_ )
      | (refine gk 3 rfl ?_; first | refine sl_op rfl rfl rfl (by first | exact opv_load rfl (by exact rfl) rfl (by exact rfl) | exact opv_fieldAddr rfl rfl | exact opv_fieldAddrE rfl rfl (by first | assumption ) | exact opv_loadEx rfl (by exact rfl) (by infer_instance) (by first | assumption ) ) ?_ | refine sl_pass rfl rfl rfl rfl ?_)
      | (refine gk 5 rfl ?_; first | refine sl_op rfl rfl rfl (by first | exact opv_nilCheckE rfl rfl ) ?_ )
      | refine sl_region rfl ?_
      | refine sl_nil ?_
      | refine thn_k ?_
      | refine swp_true rfl ?_
      | refine swp_ret ?_
      | refine thn_ret ?_
      )
    all_goals first | (exfalso; omega) | exact end_retL [specB βs bt bo n ct kk co σ.rel, HT, OP] (resOk_one (resV_tmp rfl)) (.inl ⟨hno, rfl, rfl⟩)
end
end Go.Proofs.Ytimmclibnfdjhaa
