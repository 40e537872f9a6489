/- The automaton: what its steps look at. -/
import Derived.Test.YtimmclibnfdjhaaSlG9
import Derived.Test.YtimmclibnfdjhaaWTy
set_option linter.unusedVariables false
set_option linter.unusedSimpArgs false
set_option linter.unusedSectionVars false
namespace Go.Proofs.Ytimmclibnfdjhaa
open Go.SL
set_option maxRecDepth 100000
set_option maxHeartbeats 16000000
attribute [local irreducible] SL.T PFn OpV SOL SWP HOp ChU
abbrev i64 (a : Int) : Value := .int .i64 a
abbrev ptr (b : Nat) : Value := .pointer (some ⟨b, 0, none⟩)
/-- A call that is open. -/
structure Opn where
  op : Int
  obj : Int
  arg : Int
  far : Int
  saved : Int
  since : Int
  code : Int
  val : Int
abbrev ocells (o : Opn) : List Value := [i64 o.op, i64 o.obj, i64 o.arg, i64 o.far, i64 o.saved, i64 o.since, i64 o.code, i64 o.val]
abbrev oblk (o : Opn) : Obj := .cells ⟨ocells o⟩ 83 (0, 0)
/-- An event. -/
structure Ev where
  kind : Int
  thread : Int
  index : Int
  act : Int
  obj : Int
  other : Int
  code : Int
  val : Int
abbrev ecells (e : Ev) : List Value := [i64 e.kind, i64 e.thread, i64 e.index, i64 e.act, i64 e.obj, i64 e.other, i64 e.code, i64 e.val]
abbrev stepB (βx βs : Nat) (bt bo : Option Addr) (t k : Nat) (e : Ev) (owns : Bool) : Heap := blk βx (.cells ⟨[ptr βs, ept bt (t * 3), ept bo (k * 2), i64 e.kind, i64 e.thread, i64 e.index, i64 e.act, i64 e.obj, i64 e.other, i64 e.code, i64 e.val, .bool owns]⟩ 95 (0, 0))
theorem updB_updB {h : Heap} {b : Nat} {o o' : Obj} : updB (updB h b o) b o' = updB h b o' := by
  funext k
  cases k with
  | b n => by_cases e : n = b <;> simp [updB, e]
  | _ => rfl
theorem updB_id {h : Heap} {b : Nat} {o : Obj} (i : InH h b o) : updB h b o = h := by
  funext k
  cases k with
  | b n =>
    by_cases e : n = b
    · subst e; rw [updB_self]; exact i.eq.symm
    · rw [updB_ne e]
  | _ => rfl
section
variable {βx βs β : Nat} {bt bo : Option Addr} {t k : Nat} {e : Ev} {owns : Bool}
theorem is_calls (a : Int) (h : Bool) : PFn Try.prog 59 [ptr βx, i64 a, .bool h] [stepB βx βs bt bo t k e owns] (.bool (decide (e.act = a) && h)) := by
  by_cases ha : e.act = a
  · rw [decide_eq_true ha, Bool.true_and]
    refine pure_of_body Try.func59 rfl (Nat.le_of_ble_eq_true rfl) fun F => ?_
    repeat' (first
      | refine swp_seq ?_
      | (refine gk 0 rfl ?_; first | refine sl_op rfl rfl rfl (by first | exact opv_move rfl rfl | exact opv_assign rfl rfl | exact opv_pick_t rfl rfl rfl ) ?_ )
      | (refine gk 2 rfl ?_; first | refine sl_yes rfl rfl rfl (by first | exact opv_eql rfl rfl rfl ) (by first | omega ) ?_ )
      | (refine gk 3 rfl ?_; first | refine sl_op rfl rfl rfl (by first | exact opv_load rfl (by exact rfl) rfl (by exact rfl) | exact opv_fieldAddr rfl rfl ) ?_ )
      | (refine gk 5 rfl ?_; first | refine sl_op rfl rfl rfl (by first | exact opv_nilCheck rfl rfl ) ?_ )
      | refine sl_region rfl ?_
      | refine sl_nil ?_
      | refine thn_k ?_
      | refine swp_ret ?_
      )
    refine end_pure (resOk_one (resV_tmp rfl)) ?_
    rfl
  · rw [decide_eq_false ha, Bool.false_and]
    refine pure_of_body Try.func59 rfl (Nat.le_of_ble_eq_true rfl) fun F => ?_
    repeat' (first
      | refine swp_seq ?_
      | (refine gk 0 rfl ?_; first | refine sl_op rfl rfl rfl (by first | exact opv_move rfl rfl | exact opv_assign rfl rfl | exact opv_pick_f rfl rfl rfl ) ?_ | refine sl_pass rfl rfl rfl rfl ?_)
      | (refine gk 2 rfl ?_; first | refine sl_no rfl rfl rfl (by first | exact opv_eql rfl rfl rfl ) (by first | omega ) ?_ )
      | (refine gk 3 rfl ?_; first | refine sl_op rfl rfl rfl (by first | exact opv_load rfl (by exact rfl) rfl (by exact rfl) | exact opv_fieldAddr rfl rfl ) ?_ )
      | (refine gk 5 rfl ?_; first | refine sl_op rfl rfl rfl (by first | exact opv_nilCheck rfl rfl ) ?_ )
      | refine sl_region rfl ?_
      | refine sl_nil ?_
      | refine thn_k ?_
      | refine swp_ret ?_
      )
    refine end_pure (resOk_one (resV_tmp rfl)) ?_
    rfl
theorem plain_calls (a : Int) (h : Bool) : PFn Try.prog 56 [ptr βx, i64 a, .bool h] [stepB βx βs bt bo t k e owns] (.bool (decide (e.act = a) && (h && decide (e.other = 0)))) := by
  cases h with
  | false =>
    have hi := is_calls (βx := βx) (βs := βs) (bt := bt) (bo := bo) (t := t) (k := k) (e := e) (owns := owns) a false
    refine pure_of_body Try.func56 rfl (Nat.le_of_ble_eq_true rfl) fun F => ?_
    repeat' (first
      | refine swp_seq ?_
      | (refine gk 0 rfl ?_; first | refine sl_op rfl rfl rfl (by first | exact opv_move rfl rfl | exact opv_assign rfl rfl | exact opv_pick_f rfl rfl rfl ) ?_ | refine sl_pass rfl rfl rfl rfl ?_)
      | (refine gk 2 rfl ?_; first | refine sl_pass rfl rfl rfl rfl ?_ )
      | (refine gk 3 rfl ?_; first | refine sl_pass rfl rfl rfl rfl ?_)
      | (refine gk 4 rfl ?_; first | refine sl_op rfl rfl rfl (opv_call rfl rfl rfl rfl rfl (hi)) ?_)
      | (refine gk 5 rfl ?_; first | refine sl_pass rfl rfl rfl rfl ?_ )
      | refine sl_region rfl ?_
      | refine sl_nil ?_
      | refine thn_k ?_
      | refine swp_ret ?_
      )
    refine end_pure (resOk_one (resV_tmp rfl)) ?_
    rfl
  | true =>
    by_cases ho : e.other = 0
    · have hi := is_calls (βx := βx) (βs := βs) (bt := bt) (bo := bo) (t := t) (k := k) (e := e) (owns := owns) a true
      rw [decide_eq_true ho]
      refine pure_of_body Try.func56 rfl (Nat.le_of_ble_eq_true rfl) fun F => ?_
      repeat' (first
        | refine swp_seq ?_
        | (refine gk 0 rfl ?_; first | refine sl_op rfl rfl rfl (by first | exact opv_move rfl rfl | exact opv_assign rfl rfl | exact opv_pick_t rfl rfl rfl ) ?_ )
        | (refine gk 2 rfl ?_; first | refine sl_yes rfl rfl rfl (by first | exact opv_eql rfl rfl rfl ) (by first | omega ) ?_ )
        | (refine gk 3 rfl ?_; first | refine sl_op rfl rfl rfl (by first | exact opv_load rfl (by exact rfl) rfl (by exact rfl) | exact opv_fieldAddr rfl rfl ) ?_ )
        | (refine gk 4 rfl ?_; first | refine sl_op rfl rfl rfl (opv_call rfl rfl rfl rfl rfl (hi)) ?_)
        | (refine gk 5 rfl ?_; first | refine sl_op rfl rfl rfl (by first | exact opv_nilCheck rfl rfl ) ?_ )
        | refine sl_region rfl ?_
        | refine sl_nil ?_
        | refine thn_k ?_
        | refine swp_ret ?_
        )
      refine end_pure (resOk_one (resV_tmp rfl)) ?_
      rfl
    · have hi := is_calls (βx := βx) (βs := βs) (bt := bt) (bo := bo) (t := t) (k := k) (e := e) (owns := owns) a false
      rw [decide_eq_false ho]
      refine pure_of_body Try.func56 rfl (Nat.le_of_ble_eq_true rfl) fun F => ?_
      repeat' (first
        | refine swp_seq ?_
        | (refine gk 0 rfl ?_; first | refine sl_op rfl rfl rfl (by first | exact opv_move rfl rfl | exact opv_assign rfl rfl | exact opv_pick_t rfl rfl rfl ) ?_ )
        | (refine gk 2 rfl ?_; first | refine sl_no rfl rfl rfl (by first | exact opv_eql rfl rfl rfl ) (by first | omega ) ?_ )
        | (refine gk 3 rfl ?_; first | refine sl_op rfl rfl rfl (by first | exact opv_load rfl (by exact rfl) rfl (by exact rfl) | exact opv_fieldAddr rfl rfl ) ?_ )
        | (refine gk 4 rfl ?_; first | refine sl_op rfl rfl rfl (opv_call rfl rfl rfl rfl rfl (hi)) ?_)
        | (refine gk 5 rfl ?_; first | refine sl_op rfl rfl rfl (by first | exact opv_nilCheck rfl rfl ) ?_ )
        | refine sl_region rfl ?_
        | refine sl_nil ?_
        | refine thn_k ?_
        | refine swp_ret ?_
        )
      refine end_pure (resOk_one (resV_tmp rfl)) ?_
      rfl
abbrev doneO (o : Opn) (c v : Int) : Opn := { o with far := 5, code := c, val := v }
theorem done_calls (HT OP : Heap) (tc : List Value) (o : Opn) (c v : Int) [sl : Sl HT bt tc] [nn : NN bt] (ht : tc[t * 3]? = some (ptr β)) [i1 : InH OP β (oblk o)] :
    SL.T Try.prog 57 [ptr βx, i64 c, i64 v] [stepB βx βs bt bo t k e owns, HT, OP] fun en w => en = .returned (.bool true) ∧ w = [stepB βx βs bt bo t k e owns, HT, updB OP β (oblk (doneO o c v))] := by
  have ht0 : tc[t * 3 + 0]? = some (ptr β) := ht
  have hlt : t * 3 < tc.length := (List.getElem?_eq_some_iff.1 ht).1
  refine t_of_body Try.func57 rfl (Nat.le_of_ble_eq_true rfl) fun F => ?_
  repeat' (first
    | refine swp_seq ?_
    | (refine gk 0 rfl ?_; first | refine sl_op rfl rfl rfl (by first | exact opv_assign rfl rfl ) ?_ )
    | refine sl_region rfl ?_
    | refine sl_nil ?_
    )
  refine sl_drawC [.q [0, 1, 2, 3, 4, 5, 6, 7, 8, 9, 10, 11, 12, 13], .f [14, 15, 16], .q [17, 18], .h true 19, .q [20, 21], .h true 22] [] (by kernel_rfl) (by kernel_rfl) (by kernel_rfl) (by kernel_rfl) ?_
  repeat' (first
    | refine swp_seq ?_
    | (refine gk 0 rfl ?_; first | refine sl_op rfl rfl rfl (by first | exact opv_move rfl rfl | exact opv_assign rfl rfl ) ?_ )
    | (refine gk 3 rfl ?_; first | refine sl_op rfl rfl rfl (by first | exact opv_load rfl (by exact rfl) rfl (by exact rfl) | exact opv_fieldAddr rfl rfl | exact opv_fieldAddrE rfl rfl (by first | assumption ) | exact opv_loadEx rfl (by exact rfl) (by infer_instance) (by first | assumption ) ) ?_ )
    | (refine gk 5 rfl ?_; first | refine sl_op rfl rfl rfl (by first | exact opv_nilCheck rfl rfl | exact opv_nilCheckE rfl rfl | exact opv_build rfl rfl (by exact rfl) ) ?_ )
    | refine sl_region rfl ?_
    | refine chu_nil ?_
    | refine chu_q rfl ?_
    | refine chu_f rfl ?_
    | refine chu_storeU rfl rfl rfl rfl rfl rfl i1 rfl rfl rfl rfl ?_
    | refine chu_storeU (h := updB OP β (oblk { o with far := 5 })) rfl rfl rfl rfl rfl rfl InH.upd rfl rfl rfl rfl ?_
    | refine sl_nil ?_
    | refine thn_k ?_
    | refine swp_ret ?_
    )
  rw [updB_updB]
  exact end_retL [stepB βx βs bt bo t k e owns, HT, updB OP β (oblk (doneO o c v))] (resOk_one (resV_tmp rfl)) ⟨rfl, rfl⟩
def refB (o : Opn) (e : Ev) (c : Int) (h : Bool) : Bool := decide (e.act = 8) && (h && decide (o.far = 0) && decide (e.other = c))
theorem refuses_calls (HT OP : Heap) (tc : List Value) (o : Opn) (c : Int) (h : Bool) [sl : Sl HT bt tc] [nn : NN bt] (ht : tc[t * 3]? = some (ptr β)) [i1 : InH OP β (oblk o)] :
    SL.T Try.prog 58 [ptr βx, i64 c, .bool h] [stepB βx βs bt bo t k e owns, HT, OP] fun en w => en = .returned (.bool (refB o e c h)) ∧ w = [stepB βx βs bt bo t k e owns, HT, updB OP β (oblk (if refB o e c h then doneO o c 0 else o))] := by
  have ht0 : tc[t * 3 + 0]? = some (ptr β) := ht
  have hlt : t * 3 < tc.length := (List.getElem?_eq_some_iff.1 ht).1
  have hi := fun b => is_calls (βx := βx) (βs := βs) (bt := bt) (bo := bo) (t := t) (k := k) (e := e) (owns := owns) 8 b
  have hd := done_calls (βx := βx) (βs := βs) (β := β) (bt := bt) (bo := bo) (t := t) (k := k) (e := e) (owns := owns) HT OP tc o c 0 ht
  cases hr : refB o e c h with
  | true =>
    simp only [refB, Bool.and_eq_true, decide_eq_true_eq] at hr
    obtain ⟨ha, ⟨rfl, hf⟩, ho⟩ := hr
    have hi1 := hi true
    rw [decide_eq_true ha] at hi1
    refine t_of_body Try.func58 rfl (Nat.le_of_ble_eq_true rfl) fun F => ?_
    repeat' (first
      | refine swp_seq ?_
      | (refine gk 0 rfl ?_; first | refine sl_op rfl rfl rfl (by first | exact opv_move rfl rfl | exact opv_assign rfl rfl | exact opv_pick_t rfl rfl rfl ) ?_ )
      | (refine gk 2 rfl ?_; first | refine sl_yes rfl rfl rfl (by first | exact opv_eql rfl rfl rfl ) (by first | omega ) ?_ )
      | (refine gk 3 rfl ?_; first | refine sl_op rfl rfl rfl (by first | exact opv_load rfl (by exact rfl) rfl (by exact rfl) | exact opv_fieldAddr rfl rfl | exact opv_fieldAddrE rfl rfl (by first | assumption ) | exact opv_loadEx rfl (by exact rfl) (by infer_instance) (by first | assumption ) ) ?_ )
      | (refine gk 4 rfl ?_; first | refine sl_op rfl rfl rfl (opv_call rfl rfl rfl rfl rfl (hi1)) ?_ | (refine sl_callT rfl rfl rfl rfl rfl rfl rfl rfl (hd) ?_; rintro _ _ ⟨rfl, rfl⟩; refine ⟨_, _, rfl, rfl, ?_⟩))
      | (refine gk 5 rfl ?_; first | refine sl_op rfl rfl rfl (by first | exact opv_nilCheck rfl rfl | exact opv_nilCheckE rfl rfl ) ?_ )
      | refine sl_region rfl ?_
      | refine sl_nil ?_
      | refine thn_k ?_
      | refine swp_ret ?_
      )
    exact end_retL [stepB βx βs bt bo t k e owns, HT, updB OP β (oblk (doneO o c 0))] (resOk_one (resV_tmp rfl)) ⟨rfl, rfl⟩
  | false =>
    have hid : updB OP β (oblk o) = OP := updB_id i1
    simp only [Bool.false_eq_true, if_false, hid]
    have hc : (∃ b, (b = (h && decide (o.far = 0) && decide (e.other = c))) ∧ PFn Try.prog 59 [ptr βx, i64 8, .bool b] [stepB βx βs bt bo t k e owns] (.bool false)) := ⟨_, rfl, by
      have := hi (h && decide (o.far = 0) && decide (e.other = c))
      rw [show (decide (e.act = 8) && (h && decide (o.far = 0) && decide (e.other = c))) = false from hr] at this
      exact this⟩
    obtain ⟨b, hb, hi2⟩ := hc
    by_cases hf : o.far = 0
    · by_cases ho : e.other = c
      · cases h with
        | false =>
          obtain rfl : b = false := by simpa using hb
          refine t_of_body Try.func58 rfl (Nat.le_of_ble_eq_true rfl) fun F => ?_
          repeat' (first
            | refine swp_seq ?_
            | (refine gk 0 rfl ?_; first | refine sl_op rfl rfl rfl (by first | exact opv_move rfl rfl | exact opv_assign rfl rfl | exact opv_pick_f rfl rfl rfl ) ?_ | refine sl_pass rfl rfl rfl rfl ?_)
            | (refine gk 2 rfl ?_; first | refine sl_pass rfl rfl rfl rfl ?_ )
            | (refine gk 3 rfl ?_; first | refine sl_pass rfl rfl rfl rfl ?_)
            | (refine gk 4 rfl ?_; first | refine sl_pass rfl rfl rfl rfl ?_ | refine sl_op rfl rfl rfl (opv_call rfl rfl rfl rfl rfl (hi2)) ?_)
            | (refine gk 5 rfl ?_; first | refine sl_pass rfl rfl rfl rfl ?_ )
            | refine sl_region rfl ?_
            | refine sl_nil ?_
            | refine thn_k ?_
            | refine swp_ret ?_
            )
          exact end_retL [stepB βx βs bt bo t k e owns, HT, OP] (resOk_one (resV_tmp rfl)) ⟨rfl, rfl⟩
        | true =>
          obtain rfl : b = true := by simpa [hf, ho] using hb
          refine t_of_body Try.func58 rfl (Nat.le_of_ble_eq_true rfl) fun F => ?_
          repeat' (first
            | refine swp_seq ?_
            | (refine gk 0 rfl ?_; first | refine sl_op rfl rfl rfl (by first | exact opv_move rfl rfl | exact opv_assign rfl rfl | exact opv_pick_t rfl rfl rfl | exact opv_pick_f rfl rfl rfl ) ?_ | refine sl_pass rfl rfl rfl rfl ?_)
            | (refine gk 2 rfl ?_; first | refine sl_yes rfl rfl rfl (by first | exact opv_eql rfl rfl rfl ) (by first | omega ) ?_ )
            | (refine gk 3 rfl ?_; first | refine sl_op rfl rfl rfl (by first | exact opv_load rfl (by exact rfl) rfl (by exact rfl) | exact opv_fieldAddr rfl rfl | exact opv_fieldAddrE rfl rfl (by first | assumption ) | exact opv_loadEx rfl (by exact rfl) (by infer_instance) (by first | assumption ) ) ?_ )
            | (refine gk 4 rfl ?_; first | refine sl_pass rfl rfl rfl rfl ?_ | refine sl_op rfl rfl rfl (opv_call rfl rfl rfl rfl rfl (hi2)) ?_)
            | (refine gk 5 rfl ?_; first | refine sl_op rfl rfl rfl (by first | exact opv_nilCheck rfl rfl | exact opv_nilCheckE rfl rfl ) ?_ )
            | refine sl_region rfl ?_
            | refine sl_nil ?_
            | refine thn_k ?_
            | refine swp_ret ?_
            )
          exact end_retL [stepB βx βs bt bo t k e owns, HT, OP] (resOk_one (resV_tmp rfl)) ⟨rfl, rfl⟩
      · obtain rfl : b = false := by simpa [ho] using hb
        cases h
        all_goals
          refine t_of_body Try.func58 rfl (Nat.le_of_ble_eq_true rfl) fun F => ?_
          repeat' (first
            | refine swp_seq ?_
            | (refine gk 0 rfl ?_; first | refine sl_op rfl rfl rfl (by first | exact opv_move rfl rfl | exact opv_assign rfl rfl | exact opv_pick_t rfl rfl rfl | exact opv_pick_f rfl rfl rfl ) ?_ | refine sl_pass rfl rfl rfl rfl ?_)
            | (refine gk 2 rfl ?_; first | refine sl_pass rfl rfl rfl rfl ?_ | refine sl_yes rfl rfl rfl (by first | exact opv_eql rfl rfl rfl ) (by first | omega ) ?_ | refine sl_no rfl rfl rfl (by first | exact opv_eql rfl rfl rfl ) (by first | omega ) ?_ )
            | (refine gk 3 rfl ?_; first | refine sl_op rfl rfl rfl (by first | exact opv_load rfl (by exact rfl) rfl (by exact rfl) | exact opv_fieldAddr rfl rfl | exact opv_fieldAddrE rfl rfl (by first | assumption ) | exact opv_loadEx rfl (by exact rfl) (by infer_instance) (by first | assumption ) ) ?_ | refine sl_pass rfl rfl rfl rfl ?_)
            | (refine gk 4 rfl ?_; first | refine sl_pass rfl rfl rfl rfl ?_ | refine sl_op rfl rfl rfl (opv_call rfl rfl rfl rfl rfl (hi2)) ?_)
            | (refine gk 5 rfl ?_; first | refine sl_op rfl rfl rfl (by first | exact opv_nilCheck rfl rfl | exact opv_nilCheckE rfl rfl ) ?_ | refine sl_pass rfl rfl rfl rfl ?_ )
            | refine sl_region rfl ?_
            | refine sl_nil ?_
            | refine thn_k ?_
            | refine swp_ret ?_
            )
          exact end_retL [stepB βx βs bt bo t k e owns, HT, OP] (resOk_one (resV_tmp rfl)) ⟨rfl, rfl⟩
    · obtain rfl : b = false := by simpa [hf] using hb
      cases h
      all_goals
        refine t_of_body Try.func58 rfl (Nat.le_of_ble_eq_true rfl) fun F => ?_
        repeat' (first
          | refine swp_seq ?_
          | (refine gk 0 rfl ?_; first | refine sl_op rfl rfl rfl (by first | exact opv_move rfl rfl | exact opv_assign rfl rfl | exact opv_pick_t rfl rfl rfl | exact opv_pick_f rfl rfl rfl ) ?_ | refine sl_pass rfl rfl rfl rfl ?_)
          | (refine gk 2 rfl ?_; first | refine sl_pass rfl rfl rfl rfl ?_ | refine sl_no rfl rfl rfl (by first | exact opv_eql rfl rfl rfl ) (by first | omega ) ?_ )
          | (refine gk 3 rfl ?_; first | refine sl_op rfl rfl rfl (by first | exact opv_load rfl (by exact rfl) rfl (by exact rfl) | exact opv_fieldAddr rfl rfl | exact opv_fieldAddrE rfl rfl (by first | assumption ) | exact opv_loadEx rfl (by exact rfl) (by infer_instance) (by first | assumption ) ) ?_ | refine sl_pass rfl rfl rfl rfl ?_)
          | (refine gk 4 rfl ?_; first | refine sl_pass rfl rfl rfl rfl ?_ | refine sl_op rfl rfl rfl (opv_call rfl rfl rfl rfl rfl (hi2)) ?_)
          | (refine gk 5 rfl ?_; first | refine sl_op rfl rfl rfl (by first | exact opv_nilCheck rfl rfl | exact opv_nilCheckE rfl rfl ) ?_ | refine sl_pass rfl rfl rfl rfl ?_ )
          | refine sl_region rfl ?_
          | refine sl_nil ?_
          | refine thn_k ?_
          | refine swp_ret ?_
          )
        exact end_retL [stepB βx βs bt bo t k e owns, HT, OP] (resOk_one (resV_tmp rfl)) ⟨rfl, rfl⟩
end
end Go.Proofs.Ytimmclibnfdjhaa
