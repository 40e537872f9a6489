/- An act of a thread. -/
import Derived.Test.YtimmclibnfdjhaaWB7a
import Derived.Test.YtimmclibnfdjhaaWB7b
import Derived.Test.YtimmclibnfdjhaaWB7c
import Derived.Test.YtimmclibnfdjhaaWB7d
import Derived.Test.YtimmclibnfdjhaaWB7e
import Derived.Test.YtimmclibnfdjhaaWB8
import Derived.Test.YtimmclibnfdjhaaSlG9
set_option linter.unusedVariables false
set_option linter.unusedSimpArgs false
set_option linter.unusedSectionVars false
namespace Go.Proofs.Ytimmclibnfdjhaa
open Go.SL
set_option maxRecDepth 100000
set_option maxHeartbeats 16000000
attribute [local irreducible] SL.T PFn OpV SOL SWP HOp ChU
section
variable {βx βs β : Nat} {bt bo : Option Addr} {n ct kk co t k : Nat} {e : Ev} {owns : Bool} {HT HO OP : Heap} {bs : List (Option Nat)} {σ : St} {o : Opn} {ow dp : Int}
theorem wait_calls (m : MemOk bt bo ct co HT HO OP bs σ) (hb : bs[t]? = some (some β)) {f : Bool} (ht : ∃ c, σ.th[t]? = some ⟨some o, c, f⟩) (hk : σ.ob[k]? = some (ow, dp)) :
    SL.T Try.prog 42 [ptr βx] [stepB βx βs bt bo t k e owns, specB βs bt bo n ct kk co σ.rel, HT, HO, OP] (StepQ βx βs bt bo n ct kk co t k e owns bs (waitF σ t k o ow dp f e owns)) := by
  by_cases h4 : e.act = 4
  · exact wait4 m hb ht hk h4
  · by_cases h7 : e.act = 7 ∧ e.other = 0
    · exact wait7 m hb ht hk h7.1 h7.2
    · by_cases h2 : e.act = 2 ∧ e.other = 0
      · exact wait2 m hb ht hk h2.1 h2.2
      · by_cases h5 : e.act = 5 ∧ e.other = 0
        · exact wait5 m hb ht hk h5.1 h5.2
        · exact waitE m hb ht hk (fun a b => h7 ⟨a, b⟩) (fun a b => h2 ⟨a, b⟩) h4 (fun a b => h5 ⟨a, b⟩)
end
/-- An act, by what call is open. -/
def stepF (σ : St) (t k : Nat) (o : Opn) (ow dp : Int) (f : Bool) (e : Ev) (owns : Bool) : Bool × St :=
  if o.op = 0 then enterF σ t k o ow dp e owns
  else if o.op = 1 then exitF σ t k o ow dp e owns
  else if o.op = 2 ∨ o.op = 3 then waitF σ t k o ow dp f e owns
  else if o.op = 4 ∨ o.op = 5 then notifyF σ t k o ow dp e owns
  else if o.op = 6 then interruptF σ t k o ow dp e owns
  else if o.op = 7 then holdsF σ t k o ow dp e owns
  else if o.op = 8 then nothingF σ t k o ow dp e owns
  else (false, σ)
def actNo (σ : St) (o : Opn) (e : Ev) : Prop := wrongB σ.th.length σ.ob.length o.op o.obj o.arg ∨ e.obj ≠ o.obj ∨ o.far = 5 ∨ e.index ≠ 0 ∨ e.code ≠ 0 ∨ e.val ≠ 0
instance {σ : St} {o : Opn} {e : Ev} : Decidable (actNo σ o e) := by unfold actNo; infer_instance
def actF (σ : St) (e : Ev) : Bool × St := match σ.th[e.thread.toNat]? with
  | none => (false, σ)
  | some x => match x.opn with
    | none => (false, σ)
    | some o => if actNo σ o e then (false, σ) else match σ.ob[e.obj.toNat]? with
      | none => (false, σ)
      | some p => stepF σ e.thread.toNat e.obj.toNat o p.1 p.2 x.flag e (decide (p.1 = e.thread))
def ActQ (βs : Nat) (bt bo : Option Addr) (n ct kk co : Nat) (bs : List (Option Nat)) (r : Bool × St) (en : Ending) (w : List Heap) : Prop :=
  en = .returned (.bool r.1) ∧ ∃ HT' HO' OP', w = [specB βs bt bo n ct kk co r.2.rel, HT', HO', OP'] ∧ MemOk bt bo ct co HT' HO' OP' bs r.2
section
variable {βs : Nat} {bt bo : Option Addr} {n ct kk co : Nat} {e : Ev} {HT HO OP : Heap} {bs : List (Option Nat)} {σ : St}
theorem act_none (m : MemOk bt bo ct co HT HO OP bs σ) (hn : σ.th.length = n) (h0 : 0 ≤ e.thread ∧ e.thread < n) {c : Int} {f : Bool} (ht : σ.th[e.thread.toNat]? = some ⟨none, c, f⟩) (hsm : n ≤ 1000000) :
    PFn Try.prog 27 [ptr βs, .agg ⟨ecells e⟩] [specB βs bt bo n ct kk co σ.rel, HT] (.bool false) := by
  haveI := m.nT
  haveI slT := m.hT.sl
  obtain ⟨b, hb, hb1, -⟩ := m.op.at_ _ _ ht
  obtain rfl := hb1 rfl
  have htc : (thCells bs σ.th)[e.thread.toNat * 3 + 0]? = some (.pointer none) := (thCells_at hb ht).1
  have hl3 := thCells_length bs σ.th m.op.len
  have htl : e.thread.toNat * 3 < (thCells bs σ.th).length := by omega
  refine pure_of_body Try.func27 rfl (Nat.le_of_ble_eq_true rfl) fun F => ?_
  repeat' (first
    | refine swp_seq ?_
    | (refine gk 0 rfl ?_; first | refine sl_op rfl rfl rfl (by first | exact opv_move rfl rfl | exact opv_assign rfl rfl | exact opv_pick_t rfl rfl rfl ) ?_ | refine sl_pass rfl rfl rfl rfl ?_)
    | (refine gk 2 rfl ?_; first | refine sl_pass rfl rfl rfl rfl ?_ | refine sl_op rfl rfl rfl (by first | exact opv_ptrEql rfl rfl ) ?_ )
    | (refine gk 3 rfl ?_; first | refine sl_op rfl rfl rfl (by first | exact opv_load rfl (by exact rfl) rfl (by exact rfl) | exact opv_fieldAddr rfl rfl | exact opv_indexAddrI rfl rfl rfl (by omega) (by omega) (by first | omega ) | exact opv_fieldAddrE rfl rfl (by first | assumption ) | exact opv_loadEx rfl (by exact rfl) (by infer_instance) (by first | assumption ) ) ?_ | refine sl_pass rfl rfl rfl rfl ?_)
    | (refine gk 4 rfl ?_; first | refine sl_pass rfl rfl rfl rfl ?_ )
    | (refine gk 5 rfl ?_; first | refine sl_op rfl rfl rfl (by first | exact opv_nilCheck rfl rfl | exact opv_nilCheckE rfl rfl | exact opv_build rfl rfl (by exact rfl) ) ?_ | refine sl_pass rfl rfl rfl rfl ?_ | refine sl_box rfl rfl rfl rfl rfl rfl (fun β => ?_) )
    | refine sl_region rfl ?_
    | refine sl_draw (by kernel_rfl) (by kernel_rfl) rfl ?_
    | refine sl_nil ?_
    | refine thn_k ?_
    | refine swp_true rfl ?_
    | refine swp_ret ?_
    | refine thn_ret ?_
    )
  refine end_pure (resOk_one (resV_tmp rfl)) ?_
  rfl
theorem act_no (m : MemOk bt bo ct co HT HO OP bs σ) (hn : σ.th.length = n) (hk : σ.ob.length = kk) (h0 : 0 ≤ e.thread ∧ e.thread < n) {o : Opn} {c : Int} {f : Bool} (ht : σ.th[e.thread.toNat]? = some ⟨some o, c, f⟩) (hsm : n ≤ 1000000) (hno : actNo σ o e) :
    PFn Try.prog 27 [ptr βs, .agg ⟨ecells e⟩] [specB βs bt bo n ct kk co σ.rel, HT, OP] (.bool false) := by
  haveI := m.nT
  haveI slT := m.hT.sl
  obtain ⟨b, hb, -, hb2⟩ := m.op.at_ _ _ ht
  obtain ⟨β, rfl, hβ⟩ := hb2 o rfl
  haveI : InH OP β (oblk o) := ⟨hβ⟩
  have htc : (thCells bs σ.th)[e.thread.toNat * 3 + 0]? = some (ptr β) := (thCells_at hb ht).1
  have hl3 := thCells_length bs σ.th m.op.len
  have htl : e.thread.toNat * 3 < (thCells bs σ.th).length := by omega
  have hw := wrong_calls (βs := βs) (bt := bt) (bo := bo) (n := n) (ct := ct) (k := kk) (co := co) (rel := σ.rel) o.op o.obj o.arg
  unfold actNo at hno
  rw [hn, hk] at hno
  by_cases hwr : wrongB n kk o.op o.obj o.arg
  · rw [decide_eq_true hwr] at hw
    refine pure_of_body Try.func27 rfl (Nat.le_of_ble_eq_true rfl) fun F => ?_
    repeat' (first
      | refine swp_seq ?_
      | (refine gk 0 rfl ?_; first | refine sl_op rfl rfl rfl (by first | exact opv_move rfl rfl | exact opv_assign rfl rfl | exact opv_pick_t rfl rfl rfl | exact opv_pick_f rfl rfl rfl ) ?_ | refine sl_pass rfl rfl rfl rfl ?_)
      | (refine gk 2 rfl ?_; first | refine sl_pass rfl rfl rfl rfl ?_ | refine sl_op rfl rfl rfl (by first | exact opv_ptrEql rfl rfl ) ?_ )
      | (refine gk 3 rfl ?_; first | refine sl_op rfl rfl rfl (by first | exact opv_load rfl (by exact rfl) rfl (by exact rfl) | exact opv_fieldAddr rfl rfl | exact opv_loadA rfl (by exact rfl) rfl (by exact rfl) (by exact rfl) | exact opv_indexAddrI rfl rfl rfl (by omega) (by omega) (by first | omega ) | exact opv_fieldAddrE rfl rfl (by first | assumption ) | exact opv_loadEx rfl (by exact rfl) (by infer_instance) (by first | assumption ) ) ?_ | refine sl_pass rfl rfl rfl rfl ?_)
      | (refine gk 4 rfl ?_; first | refine sl_op rfl rfl rfl (opv_call rfl rfl rfl rfl rfl (hw)) ?_)
      | (refine gk 5 rfl ?_; first | refine sl_op rfl rfl rfl (by first | exact opv_nilCheck rfl rfl | exact opv_nilCheckE rfl rfl | exact opv_build rfl rfl (by exact rfl) ) ?_ | refine sl_pass rfl rfl rfl rfl ?_ | refine sl_box rfl rfl rfl rfl rfl rfl (fun β => ?_) )
      | refine sl_region rfl ?_
      | refine sl_draw (by kernel_rfl) (by kernel_rfl) rfl ?_
      | refine sl_nil ?_
      | refine thn_k ?_
      | refine swp_true rfl ?_
      | refine swp_ret ?_
      | refine thn_ret ?_
      )
    refine end_pure (resOk_one (resV_tmp rfl)) ?_
    rfl
  · rw [decide_eq_false hwr] at hw
    have hno2 : e.obj ≠ o.obj ∨ o.far = 5 ∨ e.index ≠ 0 ∨ e.code ≠ 0 ∨ e.val ≠ 0 := by rcases hno with h | h <;> first | exact absurd h hwr | exact h
    by_cases q1 : e.obj = o.obj
    · by_cases q2 : o.far = 5
      · refine pure_of_body Try.func27 rfl (Nat.le_of_ble_eq_true rfl) fun F => ?_
        repeat' (first
          | refine swp_seq ?_
          | (refine gk 0 rfl ?_; first | refine sl_op rfl rfl rfl (by first | exact opv_move rfl rfl | exact opv_assign rfl rfl | exact opv_pick_t rfl rfl rfl | exact opv_pick_f rfl rfl rfl ) ?_ )
          | (refine gk 2 rfl ?_; first | refine sl_pass rfl rfl rfl rfl ?_ | refine sl_yes rfl rfl rfl (by first | exact opv_eql rfl rfl rfl | exact opv_neq rfl rfl rfl) (by first | omega ) ?_ | refine sl_no rfl rfl rfl (by first | exact opv_neq rfl rfl rfl) (by first | omega ) ?_ | refine sl_op rfl rfl rfl (by first | exact opv_ptrEql rfl rfl ) ?_ )
          | (refine gk 3 rfl ?_; first | refine sl_op rfl rfl rfl (by first | exact opv_load rfl (by exact rfl) rfl (by exact rfl) | exact opv_fieldAddr rfl rfl | exact opv_loadA rfl (by exact rfl) rfl (by exact rfl) (by exact rfl) | exact opv_indexAddrI rfl rfl rfl (by omega) (by omega) (by first | omega ) | exact opv_fieldAddrE rfl rfl (by first | assumption ) | exact opv_loadEx rfl (by exact rfl) (by infer_instance) (by first | assumption ) ) ?_ | refine sl_pass rfl rfl rfl rfl ?_)
          | (refine gk 4 rfl ?_; first | refine sl_op rfl rfl rfl (opv_call rfl rfl rfl rfl rfl (hw)) ?_)
          | (refine gk 5 rfl ?_; first | refine sl_op rfl rfl rfl (by first | exact opv_nilCheck rfl rfl | exact opv_nilCheckE rfl rfl | exact opv_build rfl rfl (by exact rfl) ) ?_ | refine sl_pass rfl rfl rfl rfl ?_ | refine sl_box rfl rfl rfl rfl rfl rfl (fun β => ?_) )
          | refine sl_region rfl ?_
          | refine sl_draw (by kernel_rfl) (by kernel_rfl) rfl ?_
          | refine sl_nil ?_
          | refine thn_k ?_
          | refine swp_true rfl ?_
          | refine swp_ret ?_
          | refine thn_ret ?_
          )
        refine end_pure (resOk_one (resV_tmp rfl)) ?_
        rfl
      · by_cases q3 : e.index = 0
        · have hres : (!(decide (e.code = 0) && (decide (e.val = 0) && true))) = true := by
            have : ¬ (e.code = 0 ∧ e.val = 0) := fun q => by
              rcases hno2 with h | h | h | h | h
              · exact h q1
              · exact q2 h
              · exact h q3
              · exact h q.1
              · exact h q.2
            simp
            by_cases a : e.code = 0
            · exact .inr fun b => this ⟨a, b⟩
            · exact .inl a
          refine pure_of_body Try.func27 rfl (Nat.le_of_ble_eq_true rfl) fun F => ?_
          repeat' (first
            | refine swp_seq ?_
            | (refine gk 0 rfl ?_; first | refine sl_op rfl rfl rfl (by first | exact opv_move rfl rfl | exact opv_assign rfl rfl | exact opv_pick_f rfl rfl rfl ) ?_ )
            | (refine gk 2 rfl ?_; first | refine sl_no rfl rfl rfl (by first | exact opv_eql rfl rfl rfl | exact opv_neq rfl rfl rfl) (by first | omega ) ?_ | refine sl_op rfl rfl rfl (by first | exact opv_ptrEql rfl rfl ) ?_ | refine sl_tt rfl rfl rfl (by first | exact opv_neqS rfl rfl rfl rfl) (by first | assumption) ?_ )
            | (refine gk 3 rfl ?_; first | refine sl_op rfl rfl rfl (by first | exact opv_load rfl (by exact rfl) rfl (by exact rfl) | exact opv_fieldAddr rfl rfl | exact opv_loadA rfl (by exact rfl) rfl (by exact rfl) (by exact rfl) | exact opv_indexAddrI rfl rfl rfl (by omega) (by omega) (by first | omega ) | exact opv_fieldAddrE rfl rfl (by first | assumption ) | exact opv_loadEx rfl (by exact rfl) (by infer_instance) (by first | assumption ) ) ?_ )
            | (refine gk 4 rfl ?_; first | refine sl_op rfl rfl rfl (opv_call rfl rfl rfl rfl rfl (hw)) ?_)
            | (refine gk 5 rfl ?_; first | refine sl_op rfl rfl rfl (by first | exact opv_nilCheck rfl rfl | exact opv_nilCheckE rfl rfl | exact opv_build rfl rfl (by exact rfl) ) ?_ | refine sl_box rfl rfl rfl rfl rfl rfl (fun β => ?_) )
            | refine sl_region rfl ?_
            | refine sl_draw (by kernel_rfl) (by kernel_rfl) rfl ?_
            | refine sl_nil ?_
            | refine thn_k ?_
            | refine swp_true rfl ?_
            | refine swp_ret ?_
            | refine thn_ret ?_
            )
          refine end_pure (resOk_one (resV_tmp rfl)) ?_
          rfl
        · refine pure_of_body Try.func27 rfl (Nat.le_of_ble_eq_true rfl) fun F => ?_
          repeat' (first
            | refine swp_seq ?_
            | (refine gk 0 rfl ?_; first | refine sl_op rfl rfl rfl (by first | exact opv_move rfl rfl | exact opv_assign rfl rfl | exact opv_pick_t rfl rfl rfl | exact opv_pick_f rfl rfl rfl ) ?_ )
            | (refine gk 2 rfl ?_; first | refine sl_pass rfl rfl rfl rfl ?_ | refine sl_yes rfl rfl rfl (by first | exact opv_eql rfl rfl rfl | exact opv_neq rfl rfl rfl) (by first | omega ) ?_ | refine sl_no rfl rfl rfl (by first | exact opv_eql rfl rfl rfl | exact opv_neq rfl rfl rfl) (by first | omega ) ?_ | refine sl_op rfl rfl rfl (by first | exact opv_ptrEql rfl rfl ) ?_ )
            | (refine gk 3 rfl ?_; first | refine sl_op rfl rfl rfl (by first | exact opv_load rfl (by exact rfl) rfl (by exact rfl) | exact opv_fieldAddr rfl rfl | exact opv_loadA rfl (by exact rfl) rfl (by exact rfl) (by exact rfl) | exact opv_indexAddrI rfl rfl rfl (by omega) (by omega) (by first | omega ) | exact opv_fieldAddrE rfl rfl (by first | assumption ) | exact opv_loadEx rfl (by exact rfl) (by infer_instance) (by first | assumption ) ) ?_ | refine sl_pass rfl rfl rfl rfl ?_)
            | (refine gk 4 rfl ?_; first | refine sl_op rfl rfl rfl (opv_call rfl rfl rfl rfl rfl (hw)) ?_)
            | (refine gk 5 rfl ?_; first | refine sl_op rfl rfl rfl (by first | exact opv_nilCheck rfl rfl | exact opv_nilCheckE rfl rfl | exact opv_build rfl rfl (by exact rfl) ) ?_ | refine sl_pass rfl rfl rfl rfl ?_ | refine sl_box rfl rfl rfl rfl rfl rfl (fun β => ?_) )
            | refine sl_region rfl ?_
            | refine sl_draw (by kernel_rfl) (by kernel_rfl) rfl ?_
            | refine sl_nil ?_
            | refine thn_k ?_
            | refine swp_true rfl ?_
            | refine swp_ret ?_
            | refine thn_ret ?_
            )
          refine end_pure (resOk_one (resV_tmp rfl)) ?_
          rfl
    · refine pure_of_body Try.func27 rfl (Nat.le_of_ble_eq_true rfl) fun F => ?_
      repeat' (first
        | refine swp_seq ?_
        | (refine gk 0 rfl ?_; first | refine sl_op rfl rfl rfl (by first | exact opv_move rfl rfl | exact opv_assign rfl rfl | exact opv_pick_t rfl rfl rfl | exact opv_pick_f rfl rfl rfl ) ?_ | refine sl_pass rfl rfl rfl rfl ?_)
        | (refine gk 2 rfl ?_; first | refine sl_pass rfl rfl rfl rfl ?_ | refine sl_yes rfl rfl rfl (by first | exact opv_neq rfl rfl rfl) (by first | omega ) ?_ | refine sl_op rfl rfl rfl (by first | exact opv_ptrEql rfl rfl ) ?_ )
        | (refine gk 3 rfl ?_; first | refine sl_op rfl rfl rfl (by first | exact opv_load rfl (by exact rfl) rfl (by exact rfl) | exact opv_fieldAddr rfl rfl | exact opv_loadA rfl (by exact rfl) rfl (by exact rfl) (by exact rfl) | exact opv_indexAddrI rfl rfl rfl (by omega) (by omega) (by first | omega ) | exact opv_fieldAddrE rfl rfl (by first | assumption ) | exact opv_loadEx rfl (by exact rfl) (by infer_instance) (by first | assumption ) ) ?_ | refine sl_pass rfl rfl rfl rfl ?_)
        | (refine gk 4 rfl ?_; first | refine sl_op rfl rfl rfl (opv_call rfl rfl rfl rfl rfl (hw)) ?_)
        | (refine gk 5 rfl ?_; first | refine sl_op rfl rfl rfl (by first | exact opv_nilCheck rfl rfl | exact opv_nilCheckE rfl rfl | exact opv_build rfl rfl (by exact rfl) ) ?_ | refine sl_pass rfl rfl rfl rfl ?_ | refine sl_box rfl rfl rfl rfl rfl rfl (fun β => ?_) )
        | refine sl_region rfl ?_
        | refine sl_draw (by kernel_rfl) (by kernel_rfl) rfl ?_
        | refine sl_nil ?_
        | refine thn_k ?_
        | refine swp_true rfl ?_
        | refine swp_ret ?_
        | refine thn_ret ?_
        )
      refine end_pure (resOk_one (resV_tmp rfl)) ?_
      rfl
/-- What no act may change: a wait is not of another call. -/
def WF (σ : St) : Prop := ∀ (u : Nat) (x : Th) (o : Opn), σ.th[u]? = some x → x.opn = some o → (o.op = 4 ∨ o.op = 5) → o.far ≠ 2
theorem mpx {h : Heap} {b : Nat} {f : Int → Option Value} (mp : MP h b .i64 f) : MP h b .i64 f := mp
theorem act_go (m : MemOk bt bo ct co HT HO OP bs σ) (hn : σ.th.length = n) (hkk : σ.ob.length = kk) (h0 : 0 ≤ e.thread ∧ e.thread < n) {o : Opn} {c : Int} {f : Bool} (ht : σ.th[e.thread.toNat]? = some ⟨some o, c, f⟩) (hsm : n ≤ 1000000) (hsk : kk ≤ 1000000) (hgo : ¬ actNo σ o e) {p : Int × Int} (hp : σ.ob[e.obj.toNat]? = some p) (wf : WF σ) :
    SL.T Try.prog 27 [ptr βs, .agg ⟨ecells e⟩] [specB βs bt bo n ct kk co σ.rel, HT, HO, OP] (ActQ βs bt bo n ct kk co bs (stepF σ e.thread.toNat e.obj.toNat o p.1 p.2 f e (decide (p.1 = e.thread)))) := by
  haveI := m.nT
  haveI := m.nO
  haveI slT := m.hT.sl
  haveI slO := m.hO.sl
  obtain ⟨b, hb, -, hb2⟩ := m.op.at_ _ _ ht
  obtain ⟨β, rfl, hβ⟩ := hb2 o rfl
  haveI : InH OP β (oblk o) := ⟨hβ⟩
  have htc : (thCells bs σ.th)[e.thread.toNat * 3 + 0]? = some (ptr β) := (thCells_at hb ht).1
  have hl3 := thCells_length bs σ.th m.op.len
  have htl : e.thread.toNat * 3 < (thCells bs σ.th).length := by omega
  have hol := obCells_length σ.ob
  have hkl := (List.getElem?_eq_some_iff.1 hp).1
  have hpc : (obCells σ.ob)[e.obj.toNat * 2 + 0]? = some (i64 p.1) := (obCells_at hp).1
  have hkl2 : e.obj.toNat * 2 < (obCells σ.ob).length := by omega
  have hw := wrong_calls (βs := βs) (bt := bt) (bo := bo) (n := n) (ct := ct) (k := kk) (co := co) (rel := σ.rel) o.op o.obj o.arg
  unfold actNo at hgo
  rw [hn, hkk] at hgo
  simp only [not_or] at hgo
  obtain ⟨hwr, q1, q2, q3, q4, q5⟩ := hgo
  have q1 : e.obj = o.obj := Classical.byContradiction q1
  have q3 : e.index = 0 := Classical.byContradiction q3
  have q4 : e.code = 0 := Classical.byContradiction q4
  have q5 : e.val = 0 := Classical.byContradiction q5
  have hres : (!(decide (e.code = 0) && (decide (e.val = 0) && true))) = false := by simp [q4, q5]
  rw [decide_eq_false hwr] at hw
  unfold wrongB at hwr
  have ht' : ∃ c f, σ.th[e.thread.toNat]? = some ⟨some o, c, f⟩ := ⟨c, f, ht⟩
  have ht'' : ∃ c, σ.th[e.thread.toNat]? = some ⟨some o, c, f⟩ := ⟨c, ht⟩
  obtain ⟨owns, how⟩ : ∃ b, decide (p.1 = e.thread) = b := ⟨_, rfl⟩
  rw [how]
  refine t_of_body Try.func27 rfl (Nat.le_of_ble_eq_true rfl) fun F => ?_
  repeat' (first
    | refine swp_seq ?_
    | (refine gk 0 rfl ?_; first | refine sl_op rfl rfl rfl (by first | exact opv_assign rfl rfl ) ?_ )
    | (refine gk 5 rfl ?_; first | refine sl_box rfl rfl rfl rfl rfl rfl (fun β => ?_) )
    | refine sl_region rfl ?_
    | refine sl_nil ?_
    )
  refine sl_draw (by kernel_rfl) (by kernel_rfl) rfl ?_
  repeat' (first
    | refine swp_seq ?_
    | (refine gk 0 rfl ?_; first | refine sl_op rfl rfl rfl (by first | exact opv_move rfl rfl | exact opv_assign rfl rfl ) ?_ )
    | (refine gk 3 rfl ?_; first | refine sl_op rfl rfl rfl (by first | exact opv_load rfl (by exact rfl) rfl (by exact rfl) | exact opv_fieldAddr rfl rfl | exact opv_indexAddrI rfl rfl rfl (by omega) (by omega) (by first | omega ) ) ?_ )
    | (refine gk 5 rfl ?_; first | refine sl_op rfl rfl rfl (by first | exact opv_nilCheck rfl rfl ) ?_ )
    | refine sl_nil ?_
    )
  refine sl_draw (by kernel_rfl) (by kernel_rfl) rfl ?_
  repeat' (first
    | refine swp_seq ?_
    | (refine gk 0 rfl ?_; first | refine sl_op rfl rfl rfl (by first | exact opv_move rfl rfl | exact opv_pick_f rfl rfl rfl ) ?_ )
    | (refine gk 2 rfl ?_; first | refine sl_no rfl rfl rfl (by first | exact opv_eql rfl rfl rfl | exact opv_neq rfl rfl rfl) (by first | omega ) ?_ | refine sl_op rfl rfl rfl (by first | exact opv_ptrEql rfl rfl ) ?_ | refine sl_ff rfl rfl rfl (by first | exact opv_neqS rfl rfl rfl rfl) (by first | assumption) ?_ )
    | (refine gk 3 rfl ?_; first | refine sl_op rfl rfl rfl (by first | exact opv_load rfl (by exact rfl) rfl (by exact rfl) | exact opv_fieldAddr rfl rfl | exact opv_loadA rfl (by exact rfl) rfl (by exact rfl) (by exact rfl) | exact opv_fieldAddrE rfl rfl (by first | assumption ) | exact opv_loadEx rfl (by exact rfl) (by infer_instance) (by first | assumption ) ) ?_ )
    | (refine gk 4 rfl ?_; first | refine sl_op rfl rfl rfl (opv_call rfl rfl rfl rfl rfl (hw)) ?_)
    | (refine gk 5 rfl ?_; first | refine sl_op rfl rfl rfl (by first | exact opv_nilCheck rfl rfl | exact opv_nilCheckE rfl rfl | exact opv_build rfl rfl (by exact rfl) ) ?_ )
    | refine sl_nil ?_
    | refine thn_k ?_
    | refine swp_false rfl ?_
    | refine swp_skip ?_
    )
  refine sl_drawC [.q [0, 1, 2, 3, 4, 5, 6, 7, 8, 9, 10, 11, 12, 13, 14, 15, 16, 17, 18, 19, 20, 21, 22], .an 23, .rv 23, .q [24]] [] (by kernel_rfl) (by kernel_rfl) (by kernel_rfl) (by kernel_rfl) ?_
  repeat' (first
    | refine swp_seq ?_
    | (refine gk 0 rfl ?_; first | refine sl_op rfl rfl rfl (by first | exact opv_move rfl rfl | exact opv_assign rfl rfl ) ?_ )
    | (refine gk 2 rfl ?_; first | refine sl_if rfl rfl rfl (by first | exact opv_eql rfl rfl rfl ) (fun h => ?_) (fun h => ?_) )
    | (refine gk 3 rfl ?_; first | refine sl_op rfl rfl rfl (by first | exact opv_load rfl (by exact rfl) rfl (by exact rfl) | exact opv_fieldAddr rfl rfl | exact opv_loadA rfl (by exact rfl) rfl (by exact rfl) (by exact rfl) | exact opv_indexAddrI rfl rfl rfl (by omega) (by omega) (by first | omega ) | exact opv_fieldAddrE rfl rfl (by first | assumption ) | exact opv_loadEx rfl (by exact rfl) (by infer_instance) (by first | assumption ) ) ?_ )
    | (refine gk 5 rfl ?_; first | refine sl_op rfl rfl rfl (by first | exact opv_nilCheck rfl rfl | exact opv_build rfl rfl (by exact rfl) ) ?_ )
    | refine sl_region rfl ?_
    | refine chu_nil ?_
    | refine chu_q rfl ?_
    | refine chu_new rfl rfl (by first | exact new_box rfl rfl rfl ) ?_
    | refine chu_rv rfl rfl rfl (fun β => ?_)
    | refine sl_nil ?_
    )
  · obtain rfl : owns = true := by rw [← how]; exact decide_eq_true (by assumption)
    repeat' (first
      | (refine sl_makeMap rfl rfl rfl rfl (fun bm => ?_); have mp1 : MP (blk bm (.map #[] 0)) bm .i64 (fun _ => none) := MP.nil)
      | refine sl_insert rfl rfl rfl rfl rfl rfl (by assumption) (fun h2 mp2 => ?_)
      | (refine gk 0 rfl ?_; first | refine sl_op rfl rfl rfl (by first | exact opv_move rfl rfl | exact opv_makeFunc rfl rfl rfl) ?_ )
      | (refine gk 3 rfl ?_; first | refine sl_op rfl rfl rfl (by first | exact opv_load rfl (by exact rfl) rfl (by exact rfl) | exact opv_fieldAddr rfl rfl | exact opv_fieldAddrE rfl rfl (by first | assumption ) | exact opv_loadEx rfl (by exact rfl) (by infer_instance) (by first | assumption ) ) ?_ )
      | (refine gk 5 rfl ?_; first | refine sl_op rfl rfl rfl (by first | exact opv_nilCheck rfl rfl | exact opv_nilCheckE rfl rfl ) ?_ )
      )
    rcases (by omega : o.op = 0 ∨ o.op = 1 ∨ o.op = 2 ∨ o.op = 3 ∨ o.op = 4 ∨ o.op = 5 ∨ o.op = 6 ∨ o.op = 7 ∨ o.op = 8) with hop | hop | hop | hop | hop | hop | hop | hop | hop
    · rw [show stepF σ e.thread.toNat e.obj.toNat o p.1 p.2 f e true = enterF σ e.thread.toNat e.obj.toNat o p.1 p.2 e true from by unfold stepF; simp [hop]]
      refine sl_op rfl rfl rfl (opv_lookS mp2 rfl rfl rfl (by rw [hop]; rfl)) ?_
      repeat' (first
        | (refine gk 0 rfl ?_; first | refine sl_op rfl rfl rfl (by first | exact opv_assign rfl rfl ) ?_ )
        | (refine gk 4 rfl ?_; first | (refine sl_callT rfl rfl rfl rfl rfl rfl rfl rfl (enter_calls (βx := β) (βs := βs) (bt := bt) (bo := bo) (n := n) (ct := ct) (kk := kk) (co := co) (t := e.thread.toNat) (k := e.obj.toNat) (e := e) (owns := true) m hb ht' hp) ?_; rintro _ _ ⟨rfl, HT2, HO2, OP2, rfl, m2⟩; refine ⟨_, _, rfl, rfl, ?_⟩))
        | refine sl_nil ?_
        | refine thn_k ?_
        | refine swp_ret ?_
        )
      exact end_retL [specB βs bt bo n ct kk co _, HT2, HO2, OP2] (resOk_one (resV_tmp rfl)) ⟨rfl, HT2, HO2, OP2, rfl, m2⟩
    · rw [show stepF σ e.thread.toNat e.obj.toNat o p.1 p.2 f e true = exitF σ e.thread.toNat e.obj.toNat o p.1 p.2 e true from by unfold stepF; simp [hop]]
      refine sl_op rfl rfl rfl (opv_lookS mp2 rfl rfl rfl (by rw [hop]; rfl)) ?_
      repeat' (first
        | (refine gk 0 rfl ?_; first | refine sl_op rfl rfl rfl (by first | exact opv_assign rfl rfl ) ?_ )
        | (refine gk 4 rfl ?_; first | (refine sl_callT rfl rfl rfl rfl rfl rfl rfl rfl (exit_calls (βx := β) (βs := βs) (bt := bt) (bo := bo) (n := n) (ct := ct) (kk := kk) (co := co) (t := e.thread.toNat) (k := e.obj.toNat) (e := e) (owns := true) m hb ht' hp) ?_; rintro _ _ ⟨rfl, HT2, HO2, OP2, rfl, m2⟩; refine ⟨_, _, rfl, rfl, ?_⟩))
        | refine sl_nil ?_
        | refine thn_k ?_
        | refine swp_ret ?_
        )
      exact end_retL [specB βs bt bo n ct kk co _, HT2, HO2, OP2] (resOk_one (resV_tmp rfl)) ⟨rfl, HT2, HO2, OP2, rfl, m2⟩
    · rw [show stepF σ e.thread.toNat e.obj.toNat o p.1 p.2 f e true = waitF σ e.thread.toNat e.obj.toNat o p.1 p.2 f e true from by unfold stepF; simp [hop]]
      refine sl_op rfl rfl rfl (opv_lookS mp2 rfl rfl rfl (by rw [hop]; rfl)) ?_
      repeat' (first
        | (refine gk 0 rfl ?_; first | refine sl_op rfl rfl rfl (by first | exact opv_assign rfl rfl ) ?_ )
        | (refine gk 4 rfl ?_; first | (refine sl_callT rfl rfl rfl rfl rfl rfl rfl rfl (wait_calls (βx := β) (βs := βs) (bt := bt) (bo := bo) (n := n) (ct := ct) (kk := kk) (co := co) (t := e.thread.toNat) (k := e.obj.toNat) (e := e) (owns := true) m hb ht'' hp) ?_; rintro _ _ ⟨rfl, HT2, HO2, OP2, rfl, m2⟩; refine ⟨_, _, rfl, rfl, ?_⟩))
        | refine sl_nil ?_
        | refine thn_k ?_
        | refine swp_ret ?_
        )
      exact end_retL [specB βs bt bo n ct kk co _, HT2, HO2, OP2] (resOk_one (resV_tmp rfl)) ⟨rfl, HT2, HO2, OP2, rfl, m2⟩
    · rw [show stepF σ e.thread.toNat e.obj.toNat o p.1 p.2 f e true = waitF σ e.thread.toNat e.obj.toNat o p.1 p.2 f e true from by unfold stepF; simp [hop]]
      refine sl_op rfl rfl rfl (opv_lookS mp2 rfl rfl rfl (by rw [hop]; rfl)) ?_
      repeat' (first
        | (refine gk 0 rfl ?_; first | refine sl_op rfl rfl rfl (by first | exact opv_assign rfl rfl ) ?_ )
        | (refine gk 4 rfl ?_; first | (refine sl_callT rfl rfl rfl rfl rfl rfl rfl rfl (wait_calls (βx := β) (βs := βs) (bt := bt) (bo := bo) (n := n) (ct := ct) (kk := kk) (co := co) (t := e.thread.toNat) (k := e.obj.toNat) (e := e) (owns := true) m hb ht'' hp) ?_; rintro _ _ ⟨rfl, HT2, HO2, OP2, rfl, m2⟩; refine ⟨_, _, rfl, rfl, ?_⟩))
        | refine sl_nil ?_
        | refine thn_k ?_
        | refine swp_ret ?_
        )
      exact end_retL [specB βs bt bo n ct kk co _, HT2, HO2, OP2] (resOk_one (resV_tmp rfl)) ⟨rfl, HT2, HO2, OP2, rfl, m2⟩
    · rw [show stepF σ e.thread.toNat e.obj.toNat o p.1 p.2 f e true = notifyF σ e.thread.toNat e.obj.toNat o p.1 p.2 e true from by unfold stepF; simp [hop]]
      refine sl_op rfl rfl rfl (opv_lookS mp2 rfl rfl rfl (by rw [hop]; rfl)) ?_
      repeat' (first
        | (refine gk 0 rfl ?_; first | refine sl_op rfl rfl rfl (by first | exact opv_assign rfl rfl ) ?_ )
        | (refine gk 4 rfl ?_; first | (refine sl_callT rfl rfl rfl rfl rfl rfl rfl rfl (notify_calls (βx := β) (βs := βs) (bt := bt) (bo := bo) (n := n) (ct := ct) (kk := kk) (co := co) (t := e.thread.toNat) (k := e.obj.toNat) (e := e) (owns := true) m hb ht' hp hn hsm (wf _ _ _ ht rfl (by omega))) ?_; rintro _ _ ⟨rfl, HT2, HO2, OP2, rfl, m2⟩; refine ⟨_, _, rfl, rfl, ?_⟩))
        | refine sl_nil ?_
        | refine thn_k ?_
        | refine swp_ret ?_
        )
      exact end_retL [specB βs bt bo n ct kk co _, HT2, HO2, OP2] (resOk_one (resV_tmp rfl)) ⟨rfl, HT2, HO2, OP2, rfl, m2⟩
    · rw [show stepF σ e.thread.toNat e.obj.toNat o p.1 p.2 f e true = notifyF σ e.thread.toNat e.obj.toNat o p.1 p.2 e true from by unfold stepF; simp [hop]]
      refine sl_op rfl rfl rfl (opv_lookS mp2 rfl rfl rfl (by rw [hop]; rfl)) ?_
      repeat' (first
        | (refine gk 0 rfl ?_; first | refine sl_op rfl rfl rfl (by first | exact opv_assign rfl rfl ) ?_ )
        | (refine gk 4 rfl ?_; first | (refine sl_callT rfl rfl rfl rfl rfl rfl rfl rfl (notify_calls (βx := β) (βs := βs) (bt := bt) (bo := bo) (n := n) (ct := ct) (kk := kk) (co := co) (t := e.thread.toNat) (k := e.obj.toNat) (e := e) (owns := true) m hb ht' hp hn hsm (wf _ _ _ ht rfl (by omega))) ?_; rintro _ _ ⟨rfl, HT2, HO2, OP2, rfl, m2⟩; refine ⟨_, _, rfl, rfl, ?_⟩))
        | refine sl_nil ?_
        | refine thn_k ?_
        | refine swp_ret ?_
        )
      exact end_retL [specB βs bt bo n ct kk co _, HT2, HO2, OP2] (resOk_one (resV_tmp rfl)) ⟨rfl, HT2, HO2, OP2, rfl, m2⟩
    · rw [show stepF σ e.thread.toNat e.obj.toNat o p.1 p.2 f e true = interruptF σ e.thread.toNat e.obj.toNat o p.1 p.2 e true from by unfold stepF; simp [hop]]
      refine sl_op rfl rfl rfl (opv_lookS mp2 rfl rfl rfl (by rw [hop]; rfl)) ?_
      repeat' (first
        | (refine gk 0 rfl ?_; first | refine sl_op rfl rfl rfl (by first | exact opv_assign rfl rfl ) ?_ )
        | (refine gk 4 rfl ?_; first | (refine sl_callT rfl rfl rfl rfl rfl rfl rfl rfl (interrupt_calls (βx := β) (βs := βs) (bt := bt) (bo := bo) (n := n) (ct := ct) (kk := kk) (co := co) (t := e.thread.toNat) (k := e.obj.toNat) (e := e) (owns := true) m hb ht' hp hn hsm (by omega)) ?_; rintro _ _ ⟨rfl, HT2, HO2, OP2, rfl, m2⟩; refine ⟨_, _, rfl, rfl, ?_⟩))
        | refine sl_nil ?_
        | refine thn_k ?_
        | refine swp_ret ?_
        )
      exact end_retL [specB βs bt bo n ct kk co _, HT2, HO2, OP2] (resOk_one (resV_tmp rfl)) ⟨rfl, HT2, HO2, OP2, rfl, m2⟩
    · rw [show stepF σ e.thread.toNat e.obj.toNat o p.1 p.2 f e true = holdsF σ e.thread.toNat e.obj.toNat o p.1 p.2 e true from by unfold stepF; simp [hop]]
      refine sl_op rfl rfl rfl (opv_lookS mp2 rfl rfl rfl (by rw [hop]; rfl)) ?_
      repeat' (first
        | (refine gk 0 rfl ?_; first | refine sl_op rfl rfl rfl (by first | exact opv_assign rfl rfl ) ?_ )
        | (refine gk 4 rfl ?_; first | (refine sl_callT rfl rfl rfl rfl rfl rfl rfl rfl (holds_calls (βx := β) (βs := βs) (bt := bt) (bo := bo) (n := n) (ct := ct) (kk := kk) (co := co) (t := e.thread.toNat) (k := e.obj.toNat) (e := e) (owns := true) m hb ht' hp) ?_; rintro _ _ ⟨rfl, HT2, HO2, OP2, rfl, m2⟩; refine ⟨_, _, rfl, rfl, ?_⟩))
        | refine sl_nil ?_
        | refine thn_k ?_
        | refine swp_ret ?_
        )
      exact end_retL [specB βs bt bo n ct kk co _, HT2, HO2, OP2] (resOk_one (resV_tmp rfl)) ⟨rfl, HT2, HO2, OP2, rfl, m2⟩
    · rw [show stepF σ e.thread.toNat e.obj.toNat o p.1 p.2 f e true = nothingF σ e.thread.toNat e.obj.toNat o p.1 p.2 e true from by unfold stepF; simp [hop]]
      refine sl_op rfl rfl rfl (opv_lookS mp2 rfl rfl rfl (by rw [hop]; rfl)) ?_
      repeat' (first
        | (refine gk 0 rfl ?_; first | refine sl_op rfl rfl rfl (by first | exact opv_assign rfl rfl ) ?_ )
        | (refine gk 4 rfl ?_; first | (refine sl_callT rfl rfl rfl rfl rfl rfl rfl rfl (nothing_calls (βx := β) (βs := βs) (bt := bt) (bo := bo) (n := n) (ct := ct) (kk := kk) (co := co) (t := e.thread.toNat) (k := e.obj.toNat) (e := e) (owns := true) m hb ht' hp) ?_; rintro _ _ ⟨rfl, HT2, HO2, OP2, rfl, m2⟩; refine ⟨_, _, rfl, rfl, ?_⟩))
        | refine sl_nil ?_
        | refine thn_k ?_
        | refine swp_ret ?_
        )
      exact end_retL [specB βs bt bo n ct kk co _, HT2, HO2, OP2] (resOk_one (resV_tmp rfl)) ⟨rfl, HT2, HO2, OP2, rfl, m2⟩
  · obtain rfl : owns = false := by rw [← how]; exact decide_eq_false (by assumption)
    repeat' (first
      | (refine sl_makeMap rfl rfl rfl rfl (fun bm => ?_); have mp1 : MP (blk bm (.map #[] 0)) bm .i64 (fun _ => none) := MP.nil)
      | refine sl_insert rfl rfl rfl rfl rfl rfl (by assumption) (fun h2 mp2 => ?_)
      | (refine gk 0 rfl ?_; first | refine sl_op rfl rfl rfl (by first | exact opv_move rfl rfl | exact opv_makeFunc rfl rfl rfl) ?_ )
      | (refine gk 3 rfl ?_; first | refine sl_op rfl rfl rfl (by first | exact opv_load rfl (by exact rfl) rfl (by exact rfl) | exact opv_fieldAddr rfl rfl | exact opv_fieldAddrE rfl rfl (by first | assumption ) | exact opv_loadEx rfl (by exact rfl) (by infer_instance) (by first | assumption ) ) ?_ )
      | (refine gk 5 rfl ?_; first | refine sl_op rfl rfl rfl (by first | exact opv_nilCheck rfl rfl | exact opv_nilCheckE rfl rfl ) ?_ )
      )
    rcases (by omega : o.op = 0 ∨ o.op = 1 ∨ o.op = 2 ∨ o.op = 3 ∨ o.op = 4 ∨ o.op = 5 ∨ o.op = 6 ∨ o.op = 7 ∨ o.op = 8) with hop | hop | hop | hop | hop | hop | hop | hop | hop
    · rw [show stepF σ e.thread.toNat e.obj.toNat o p.1 p.2 f e false = enterF σ e.thread.toNat e.obj.toNat o p.1 p.2 e false from by unfold stepF; simp [hop]]
      refine sl_op rfl rfl rfl (opv_lookS mp2 rfl rfl rfl (by rw [hop]; rfl)) ?_
      repeat' (first
        | (refine gk 0 rfl ?_; first | refine sl_op rfl rfl rfl (by first | exact opv_assign rfl rfl ) ?_ )
        | (refine gk 4 rfl ?_; first | (refine sl_callT rfl rfl rfl rfl rfl rfl rfl rfl (enter_calls (βx := β) (βs := βs) (bt := bt) (bo := bo) (n := n) (ct := ct) (kk := kk) (co := co) (t := e.thread.toNat) (k := e.obj.toNat) (e := e) (owns := false) m hb ht' hp) ?_; rintro _ _ ⟨rfl, HT2, HO2, OP2, rfl, m2⟩; refine ⟨_, _, rfl, rfl, ?_⟩))
        | refine sl_nil ?_
        | refine thn_k ?_
        | refine swp_ret ?_
        )
      exact end_retL [specB βs bt bo n ct kk co _, HT2, HO2, OP2] (resOk_one (resV_tmp rfl)) ⟨rfl, HT2, HO2, OP2, rfl, m2⟩
    · rw [show stepF σ e.thread.toNat e.obj.toNat o p.1 p.2 f e false = exitF σ e.thread.toNat e.obj.toNat o p.1 p.2 e false from by unfold stepF; simp [hop]]
      refine sl_op rfl rfl rfl (opv_lookS mp2 rfl rfl rfl (by rw [hop]; rfl)) ?_
      repeat' (first
        | (refine gk 0 rfl ?_; first | refine sl_op rfl rfl rfl (by first | exact opv_assign rfl rfl ) ?_ )
        | (refine gk 4 rfl ?_; first | (refine sl_callT rfl rfl rfl rfl rfl rfl rfl rfl (exit_calls (βx := β) (βs := βs) (bt := bt) (bo := bo) (n := n) (ct := ct) (kk := kk) (co := co) (t := e.thread.toNat) (k := e.obj.toNat) (e := e) (owns := false) m hb ht' hp) ?_; rintro _ _ ⟨rfl, HT2, HO2, OP2, rfl, m2⟩; refine ⟨_, _, rfl, rfl, ?_⟩))
        | refine sl_nil ?_
        | refine thn_k ?_
        | refine swp_ret ?_
        )
      exact end_retL [specB βs bt bo n ct kk co _, HT2, HO2, OP2] (resOk_one (resV_tmp rfl)) ⟨rfl, HT2, HO2, OP2, rfl, m2⟩
    · rw [show stepF σ e.thread.toNat e.obj.toNat o p.1 p.2 f e false = waitF σ e.thread.toNat e.obj.toNat o p.1 p.2 f e false from by unfold stepF; simp [hop]]
      refine sl_op rfl rfl rfl (opv_lookS mp2 rfl rfl rfl (by rw [hop]; rfl)) ?_
      repeat' (first
        | (refine gk 0 rfl ?_; first | refine sl_op rfl rfl rfl (by first | exact opv_assign rfl rfl ) ?_ )
        | (refine gk 4 rfl ?_; first | (refine sl_callT rfl rfl rfl rfl rfl rfl rfl rfl (wait_calls (βx := β) (βs := βs) (bt := bt) (bo := bo) (n := n) (ct := ct) (kk := kk) (co := co) (t := e.thread.toNat) (k := e.obj.toNat) (e := e) (owns := false) m hb ht'' hp) ?_; rintro _ _ ⟨rfl, HT2, HO2, OP2, rfl, m2⟩; refine ⟨_, _, rfl, rfl, ?_⟩))
        | refine sl_nil ?_
        | refine thn_k ?_
        | refine swp_ret ?_
        )
      exact end_retL [specB βs bt bo n ct kk co _, HT2, HO2, OP2] (resOk_one (resV_tmp rfl)) ⟨rfl, HT2, HO2, OP2, rfl, m2⟩
    · rw [show stepF σ e.thread.toNat e.obj.toNat o p.1 p.2 f e false = waitF σ e.thread.toNat e.obj.toNat o p.1 p.2 f e false from by unfold stepF; simp [hop]]
      refine sl_op rfl rfl rfl (opv_lookS mp2 rfl rfl rfl (by rw [hop]; rfl)) ?_
      repeat' (first
        | (refine gk 0 rfl ?_; first | refine sl_op rfl rfl rfl (by first | exact opv_assign rfl rfl ) ?_ )
        | (refine gk 4 rfl ?_; first | (refine sl_callT rfl rfl rfl rfl rfl rfl rfl rfl (wait_calls (βx := β) (βs := βs) (bt := bt) (bo := bo) (n := n) (ct := ct) (kk := kk) (co := co) (t := e.thread.toNat) (k := e.obj.toNat) (e := e) (owns := false) m hb ht'' hp) ?_; rintro _ _ ⟨rfl, HT2, HO2, OP2, rfl, m2⟩; refine ⟨_, _, rfl, rfl, ?_⟩))
        | refine sl_nil ?_
        | refine thn_k ?_
        | refine swp_ret ?_
        )
      exact end_retL [specB βs bt bo n ct kk co _, HT2, HO2, OP2] (resOk_one (resV_tmp rfl)) ⟨rfl, HT2, HO2, OP2, rfl, m2⟩
    · rw [show stepF σ e.thread.toNat e.obj.toNat o p.1 p.2 f e false = notifyF σ e.thread.toNat e.obj.toNat o p.1 p.2 e false from by unfold stepF; simp [hop]]
      refine sl_op rfl rfl rfl (opv_lookS mp2 rfl rfl rfl (by rw [hop]; rfl)) ?_
      repeat' (first
        | (refine gk 0 rfl ?_; first | refine sl_op rfl rfl rfl (by first | exact opv_assign rfl rfl ) ?_ )
        | (refine gk 4 rfl ?_; first | (refine sl_callT rfl rfl rfl rfl rfl rfl rfl rfl (notify_calls (βx := β) (βs := βs) (bt := bt) (bo := bo) (n := n) (ct := ct) (kk := kk) (co := co) (t := e.thread.toNat) (k := e.obj.toNat) (e := e) (owns := false) m hb ht' hp hn hsm (wf _ _ _ ht rfl (by omega))) ?_; rintro _ _ ⟨rfl, HT2, HO2, OP2, rfl, m2⟩; refine ⟨_, _, rfl, rfl, ?_⟩))
        | refine sl_nil ?_
        | refine thn_k ?_
        | refine swp_ret ?_
        )
      exact end_retL [specB βs bt bo n ct kk co _, HT2, HO2, OP2] (resOk_one (resV_tmp rfl)) ⟨rfl, HT2, HO2, OP2, rfl, m2⟩
    · rw [show stepF σ e.thread.toNat e.obj.toNat o p.1 p.2 f e false = notifyF σ e.thread.toNat e.obj.toNat o p.1 p.2 e false from by unfold stepF; simp [hop]]
      refine sl_op rfl rfl rfl (opv_lookS mp2 rfl rfl rfl (by rw [hop]; rfl)) ?_
      repeat' (first
        | (refine gk 0 rfl ?_; first | refine sl_op rfl rfl rfl (by first | exact opv_assign rfl rfl ) ?_ )
        | (refine gk 4 rfl ?_; first | (refine sl_callT rfl rfl rfl rfl rfl rfl rfl rfl (notify_calls (βx := β) (βs := βs) (bt := bt) (bo := bo) (n := n) (ct := ct) (kk := kk) (co := co) (t := e.thread.toNat) (k := e.obj.toNat) (e := e) (owns := false) m hb ht' hp hn hsm (wf _ _ _ ht rfl (by omega))) ?_; rintro _ _ ⟨rfl, HT2, HO2, OP2, rfl, m2⟩; refine ⟨_, _, rfl, rfl, ?_⟩))
        | refine sl_nil ?_
        | refine thn_k ?_
        | refine swp_ret ?_
        )
      exact end_retL [specB βs bt bo n ct kk co _, HT2, HO2, OP2] (resOk_one (resV_tmp rfl)) ⟨rfl, HT2, HO2, OP2, rfl, m2⟩
    · rw [show stepF σ e.thread.toNat e.obj.toNat o p.1 p.2 f e false = interruptF σ e.thread.toNat e.obj.toNat o p.1 p.2 e false from by unfold stepF; simp [hop]]
      refine sl_op rfl rfl rfl (opv_lookS mp2 rfl rfl rfl (by rw [hop]; rfl)) ?_
      repeat' (first
        | (refine gk 0 rfl ?_; first | refine sl_op rfl rfl rfl (by first | exact opv_assign rfl rfl ) ?_ )
        | (refine gk 4 rfl ?_; first | (refine sl_callT rfl rfl rfl rfl rfl rfl rfl rfl (interrupt_calls (βx := β) (βs := βs) (bt := bt) (bo := bo) (n := n) (ct := ct) (kk := kk) (co := co) (t := e.thread.toNat) (k := e.obj.toNat) (e := e) (owns := false) m hb ht' hp hn hsm (by omega)) ?_; rintro _ _ ⟨rfl, HT2, HO2, OP2, rfl, m2⟩; refine ⟨_, _, rfl, rfl, ?_⟩))
        | refine sl_nil ?_
        | refine thn_k ?_
        | refine swp_ret ?_
        )
      exact end_retL [specB βs bt bo n ct kk co _, HT2, HO2, OP2] (resOk_one (resV_tmp rfl)) ⟨rfl, HT2, HO2, OP2, rfl, m2⟩
    · rw [show stepF σ e.thread.toNat e.obj.toNat o p.1 p.2 f e false = holdsF σ e.thread.toNat e.obj.toNat o p.1 p.2 e false from by unfold stepF; simp [hop]]
      refine sl_op rfl rfl rfl (opv_lookS mp2 rfl rfl rfl (by rw [hop]; rfl)) ?_
      repeat' (first
        | (refine gk 0 rfl ?_; first | refine sl_op rfl rfl rfl (by first | exact opv_assign rfl rfl ) ?_ )
        | (refine gk 4 rfl ?_; first | (refine sl_callT rfl rfl rfl rfl rfl rfl rfl rfl (holds_calls (βx := β) (βs := βs) (bt := bt) (bo := bo) (n := n) (ct := ct) (kk := kk) (co := co) (t := e.thread.toNat) (k := e.obj.toNat) (e := e) (owns := false) m hb ht' hp) ?_; rintro _ _ ⟨rfl, HT2, HO2, OP2, rfl, m2⟩; refine ⟨_, _, rfl, rfl, ?_⟩))
        | refine sl_nil ?_
        | refine thn_k ?_
        | refine swp_ret ?_
        )
      exact end_retL [specB βs bt bo n ct kk co _, HT2, HO2, OP2] (resOk_one (resV_tmp rfl)) ⟨rfl, HT2, HO2, OP2, rfl, m2⟩
    · rw [show stepF σ e.thread.toNat e.obj.toNat o p.1 p.2 f e false = nothingF σ e.thread.toNat e.obj.toNat o p.1 p.2 e false from by unfold stepF; simp [hop]]
      refine sl_op rfl rfl rfl (opv_lookS mp2 rfl rfl rfl (by rw [hop]; rfl)) ?_
      repeat' (first
        | (refine gk 0 rfl ?_; first | refine sl_op rfl rfl rfl (by first | exact opv_assign rfl rfl ) ?_ )
        | (refine gk 4 rfl ?_; first | (refine sl_callT rfl rfl rfl rfl rfl rfl rfl rfl (nothing_calls (βx := β) (βs := βs) (bt := bt) (bo := bo) (n := n) (ct := ct) (kk := kk) (co := co) (t := e.thread.toNat) (k := e.obj.toNat) (e := e) (owns := false) m hb ht' hp) ?_; rintro _ _ ⟨rfl, HT2, HO2, OP2, rfl, m2⟩; refine ⟨_, _, rfl, rfl, ?_⟩))
        | refine sl_nil ?_
        | refine thn_k ?_
        | refine swp_ret ?_
        )
      exact end_retL [specB βs bt bo n ct kk co _, HT2, HO2, OP2] (resOk_one (resV_tmp rfl)) ⟨rfl, HT2, HO2, OP2, rfl, m2⟩
end
end Go.Proofs.Ytimmclibnfdjhaa
