/- Events one behind the other. -/
import Derived.Test.YtimmclibnfdjhaaWB13
import Derived.Test.YtimmclibnfdjhaaWB17
set_option linter.unusedVariables false
set_option linter.unusedSimpArgs false
set_option linter.unusedSectionVars false
namespace Go.Proofs.Ytimmclibnfdjhaa
open Go.SL
set_option maxRecDepth 100000
set_option maxHeartbeats 16000000
attribute [local irreducible] SL.T PFn OpV SOL SWP HOp ChU
def evs (es : List Ev) : List Value := (es.map ecells).flatten
theorem evs_length : ∀ (es : List Ev), (evs es).length = es.length * 8
  | [] => rfl
  | e :: es => by
    have := evs_length es
    simp only [evs, List.map_cons, List.flatten_cons, List.length_append, List.length_cons] at this ⊢
    rw [this]; simp; omega
theorem evs_at : ∀ {es : List Ev} {j : Nat} {e : Ev}, es[j]? = some e → ∀ (i : Nat) (v : Value), (ecells e)[i]? = some v → (evs es)[j * 8 + i]? = some v
  | x :: es, 0, e, h, i, v, hv => by
    simp at h; subst h
    rw [Nat.zero_mul, Nat.zero_add]
    have hi : i < (ecells x).length := (List.getElem?_eq_some_iff.1 hv).1
    show (ecells x ++ (es.map ecells).flatten)[i]? = _
    rw [List.getElem?_append_left hi]; exact hv
  | x :: es, j + 1, e, h, i, v, hv => by
    have ih := evs_at (es := es) (j := j) (e := e) (by simpa using h) i v hv
    show (ecells x ++ (es.map ecells).flatten)[(j + 1) * 8 + i]? = _
    rw [List.getElem?_append_right (by simp; omega)]
    rw [← ih]; congr 1; simp; omega
/-- Events that come, one behind the other, as long as they may. -/
def takesF : St → List Ev → Bool × St
  | σ, [] => (true, σ)
  | σ, e :: es => if (takeF σ e).1 = true then takesF (takeF σ e).2 es else (false, (takeF σ e).2)
theorem takesF_keep : ∀ {es : List Ev} {σ : St}, Keep σ (takesF σ es).2
  | [], σ => Keep.rfl' σ
  | e :: es, σ => by
    unfold takesF
    split
    · exact takeF_keep.trans takesF_keep
    · exact takeF_keep
def Ev.call (t i op arg : Int) : Ev := ⟨0, t, i, op, 0, arg, 0, 0⟩
def Ev.act' (t what other : Int) : Ev := ⟨1, t, 0, what, 0, other, 0, 0⟩
def Ev.back (t i code value : Int) : Ev := ⟨2, t, i, 0, 0, 0, code, value⟩
theorem mkCall_calls (t i op arg : Int) : PFn Try.prog 14 [i64 t, i64 i, i64 op, i64 arg] [] (.agg ⟨ecells (Ev.call t i op arg)⟩) := by
  refine pure_of_body Try.func14 rfl (Nat.le_of_ble_eq_true rfl) fun F => ?_
  repeat' (first
    | refine swp_seq ?_
    | (refine gk 0 rfl ?_; first | refine sl_op rfl rfl rfl (by first | exact opv_move rfl rfl ) ?_ )
    | (refine gk 5 rfl ?_; first | refine sl_op rfl rfl rfl (by first | exact opv_build rfl rfl (by exact rfl) ) ?_ | refine sl_alloc rfl rfl rfl rfl (by exact rfl) (fun β => ?_) | refine sl_store rfl rfl rfl rfl rfl rfl (by exact rfl) rfl (by exact rfl) ?_)
    | refine sl_region rfl ?_
    | refine sl_nil ?_
    | refine thn_k ?_
    | refine swp_ret ?_
    )
  refine end_retL [] (resOk_one (resV_cellA rfl rfl rfl rfl)) ⟨rfl, rfl⟩
theorem mkAct_calls (t what other : Int) : PFn Try.prog 15 [i64 t, i64 what, i64 other] [] (.agg ⟨ecells (Ev.act' t what other)⟩) := by
  refine pure_of_body Try.func15 rfl (Nat.le_of_ble_eq_true rfl) fun F => ?_
  repeat' (first
    | refine swp_seq ?_
    | (refine gk 0 rfl ?_; first | refine sl_op rfl rfl rfl (by first | exact opv_move rfl rfl ) ?_ )
    | (refine gk 5 rfl ?_; first | refine sl_op rfl rfl rfl (by first | exact opv_build rfl rfl (by exact rfl) ) ?_ | refine sl_alloc rfl rfl rfl rfl (by exact rfl) (fun β => ?_) | refine sl_store rfl rfl rfl rfl rfl rfl (by exact rfl) rfl (by exact rfl) ?_)
    | refine sl_region rfl ?_
    | refine sl_nil ?_
    | refine thn_k ?_
    | refine swp_ret ?_
    )
  refine end_retL [] (resOk_one (resV_cellA rfl rfl rfl rfl)) ⟨rfl, rfl⟩
theorem mkBack_calls (t i code value : Int) : PFn Try.prog 16 [i64 t, i64 i, i64 code, i64 value] [] (.agg ⟨ecells (Ev.back t i code value)⟩) := by
  refine pure_of_body Try.func16 rfl (Nat.le_of_ble_eq_true rfl) fun F => ?_
  repeat' (first
    | refine swp_seq ?_
    | (refine gk 0 rfl ?_; first | refine sl_op rfl rfl rfl (by first | exact opv_move rfl rfl ) ?_ )
    | (refine gk 5 rfl ?_; first | refine sl_op rfl rfl rfl (by first | exact opv_build rfl rfl (by exact rfl) ) ?_ | refine sl_alloc rfl rfl rfl rfl (by exact rfl) (fun β => ?_) | refine sl_store rfl rfl rfl rfl rfl rfl (by exact rfl) rfl (by exact rfl) ?_)
    | refine sl_region rfl ?_
    | refine sl_nil ?_
    | refine thn_k ?_
    | refine swp_ret ?_
    )
  refine end_retL [] (resOk_one (resV_cellA rfl rfl rfl rfl)) ⟨rfl, rfl⟩
structure TS where
  j : Nat
  HT : Heap
  HO : Heap
  OP : Heap
  bs : List (Option Nat)
  σ : St
section
variable {βs : Nat} {bt bo be : Option Addr} {n ct kk co m c : Nat} {HT HO OP EV : Heap} {bs : List (Option Nat)} {σ : St} {es : List Ev}
theorem takes_calls [slE : Sl EV be (evs es)] (mo : MemOk bt bo ct co HT HO OP bs σ) (hn : σ.th.length = n) (hk : σ.ob.length = kk) (hsm : n ≤ 1000000) (hsk : kk ≤ 1000000) (wf : WF σ) (hm : es.length = m) (hms : m ≤ 1000000) :
    SL.T Try.prog 13 [ptr βs, .slice be m c] [specB βs bt bo n ct kk co σ.rel, HT, HO, OP, EV] fun en w => en = .returned (.bool (takesF σ es).1) ∧ ∃ HT' HO' OP' bs', w = [specB βs bt bo n ct kk co (takesF σ es).2.rel, HT', HO', OP', EV] ∧ MemOk bt bo ct co HT' HO' OP' bs' (takesF σ es).2 := by
  have hE := evs_length es
  refine t_of_body Try.func13 rfl (Nat.le_of_ble_eq_true rfl) fun F => ?_
  repeat' (first
    | refine swp_seq ?_
    | (refine gk 0 rfl ?_; first | refine sl_op rfl rfl rfl (by first | exact opv_assign rfl rfl ) ?_ )
    | refine sl_region rfl ?_
    | refine sl_nil ?_
    | refine thn_k ?_
    | refine swp_block ?_
    )
  refine swp_loopS (fun s : TS => [(0, ptr βs), (1, .slice be m c), (5, i64 (s.j : Int))])
    (fun s => [specB βs bt bo n ct kk co s.σ.rel, s.HT, s.HO, s.OP, EV])
    (fun s => s.j ≤ m ∧ MemOk bt bo ct co s.HT s.HO s.OP s.bs s.σ ∧ Keep σ s.σ ∧ takesF σ es = takesF s.σ (es.drop s.j))
    (fun s => m - s.j) ⟨0, HT, HO, OP, bs, σ⟩ (by repeat first | exact Sub.nil _ | refine Sub.cons rfl ?_) ⟨Nat.zero_le _, mo, Keep.rfl' σ, rfl⟩ ?_
  rintro ⟨j, HT1, HO1, OP1, bs1, σ1⟩ ⟨hj, mo1, kp, hF⟩
  dsimp only at hj mo1 kp hF ⊢
  by_cases hj2 : j < m
  · obtain ⟨e, he⟩ : ∃ z, es[j]? = some z := ⟨_, List.getElem?_eq_getElem (by omega)⟩
    have hd : es.drop j = e :: es.drop (j + 1) := by
      rw [List.drop_eq_getElem_cons (by omega)]
      rw [(List.getElem?_eq_some_iff.1 he).2]
    have hev := evs_at he
    have hjl : ((j : Nat) : Int).toNat * 8 < (evs es).length := by simp; omega
    have hT := Take_calls (βs := βs) (e := e) mo1 (kp.tl.trans hn) (kp.ol.trans hk) hsm hsk (kp.wf wf)
    unfold TakeQ at hT
    rw [hd, takesF] at hF
    cases hr : (takeF σ1 e).1 with
    | true =>
      rw [hr] at hT
      rw [hr, if_pos rfl] at hF
      repeat' (first
        | refine sl_op rfl rfl rfl (opv_loadEA (vs := ecells e) rfl rfl (Nat.succ_pos _) rfl hev) ?_
        | refine swp_seq ?_
        | (refine gk 0 rfl ?_; first | refine sl_op rfl rfl rfl (by first | exact opv_move rfl rfl | exact opv_assign rfl rfl | exact opv_not_t rfl rfl ) ?_ )
        | (refine gk 1 rfl ?_; first | refine sl_op rfl rfl rfl (by first | exact opv_add64 rfl rfl rfl (by omega) (by omega) ) ?_ )
        | (refine gk 2 rfl ?_; first | refine sl_yes rfl rfl rfl (by first | exact opv_lss rfl rfl rfl ) (by first | omega ) ?_ )
        | (refine gk 3 rfl ?_; first | refine sl_op rfl rfl rfl (by first | exact opv_indexAddrI rfl rfl rfl (by omega) (by omega) (by first | omega ) ) ?_ )
        | (refine gk 4 rfl ?_; first | refine sl_op rfl rfl rfl (by first | exact opv_len rfl rfl rfl rfl rfl ) ?_ | (refine sl_callT rfl rfl rfl rfl rfl rfl rfl rfl (hT) ?_; rintro _ _ ⟨rfl, HT2, HO2, OP2, bs2, rfl, m2⟩; refine ⟨_, _, rfl, rfl, ?_⟩))
        | refine sl_region rfl ?_
        | refine sl_nil ?_
        | refine thn_k ?_
        | refine swp_true rfl ?_
        | refine swp_false rfl ?_
        | refine swp_block ?_
        | refine swp_skip ?_
        )
      exact ⟨rfl, ⟨j + 1, HT2, HO2, OP2, bs2, (takeF σ1 e).2⟩, next_ok (by repeat first | exact Sub.nil _ | refine Sub.cons rfl ?_), ⟨by dsimp only; omega, m2, kp.trans takeF_keep, hF⟩, by dsimp only; omega⟩
    | false =>
      rw [hr] at hT
      rw [hr, if_neg (by simp)] at hF
      rw [hF]
      repeat' (first
        | refine sl_op rfl rfl rfl (opv_loadEA (vs := ecells e) rfl rfl (Nat.succ_pos _) rfl hev) ?_
        | refine swp_seq ?_
        | (refine gk 0 rfl ?_; first | refine sl_op rfl rfl rfl (by first | exact opv_move rfl rfl | exact opv_assign rfl rfl | exact opv_not_f rfl rfl ) ?_ )
        | (refine gk 2 rfl ?_; first | refine sl_yes rfl rfl rfl (by first | exact opv_lss rfl rfl rfl ) (by first | omega ) ?_ )
        | (refine gk 3 rfl ?_; first | refine sl_op rfl rfl rfl (by first | exact opv_indexAddrI rfl rfl rfl (by omega) (by omega) (by first | omega ) ) ?_ )
        | (refine gk 4 rfl ?_; first | refine sl_op rfl rfl rfl (by first | exact opv_len rfl rfl rfl rfl rfl ) ?_ | (refine sl_callT rfl rfl rfl rfl rfl rfl rfl rfl (hT) ?_; rintro _ _ ⟨rfl, HT2, HO2, OP2, bs2, rfl, m2⟩; refine ⟨_, _, rfl, rfl, ?_⟩))
        | refine sl_region rfl ?_
        | refine sl_nil ?_
        | refine thn_k ?_
        | refine swp_true rfl ?_
        | refine swp_block ?_
        | refine swp_ret ?_
        | refine swp_skip ?_
        | refine thn_ret ?_
        | refine inb_ret ?_
        )
      exact end_retL [specB βs bt bo n ct kk co (takeF σ1 e).2.rel, HT2, HO2, OP2, EV] (resOk_one (resV_tmp rfl)) ⟨rfl, HT2, HO2, OP2, bs2, rfl, m2⟩
  · rw [List.drop_eq_nil_of_le (by omega), takesF] at hF
    rw [hF]
    repeat' (first
      | refine swp_seq ?_
      | (refine gk 0 rfl ?_; first | refine sl_op rfl rfl rfl (by first | exact opv_move rfl rfl | exact opv_assign rfl rfl ) ?_ )
      | (refine gk 2 rfl ?_; first | refine sl_no rfl rfl rfl (by first | exact opv_lss rfl rfl rfl ) (by first | omega ) ?_ )
      | (refine gk 4 rfl ?_; first | refine sl_op rfl rfl rfl (by first | exact opv_len rfl rfl rfl rfl rfl ) ?_)
      | refine sl_region rfl ?_
      | refine sl_nil ?_
      | refine thn_k ?_
      | refine swp_false rfl ?_
      | refine swp_ret ?_
      | refine swp_exit ?_
      )
    exact end_retL [specB βs bt bo n ct kk co σ1.rel, HT1, HO1, OP1, EV] (resOk_one (resV_tmp rfl)) ⟨rfl, HT1, HO1, OP1, bs1, rfl, mo1⟩
end
end Go.Proofs.Ytimmclibnfdjhaa
