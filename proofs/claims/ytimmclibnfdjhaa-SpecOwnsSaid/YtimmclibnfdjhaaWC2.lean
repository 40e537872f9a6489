/- Rows of events are checked. -/
import Derived.Test.YtimmclibnfdjhaaWB20
import Derived.Test.YtimmclibnfdjhaaSlG9
set_option linter.unusedVariables false
set_option linter.unusedSimpArgs false
set_option linter.unusedSectionVars false
namespace Go.Proofs.Ytimmclibnfdjhaa
open Go.SL
set_option maxRecDepth 100000
set_option maxHeartbeats 16000000
attribute [local irreducible] SL.T PFn OpV SOL SWP HOp ChU
theorem new_any (t o : Nat) (h1 : 1 ≤ t) (h2 : t ≤ 32766) (h3 : 1 ≤ o) (h4 : o ≤ 3) : SL.T Try.prog 9 [i64 (t : Int), i64 (o : Int)] [] fun en w => ∃ βs bt bo HT HO OP, en = .returned (ptr βs) ∧ w = [specB βs bt bo t t o o 0, HT, HO, OP] ∧ Au bt bo t t o o HT HO OP (newF t o) := by
  have key : SL.T Try.prog 9 [i64 (t : Int), i64 (o : Int)] [] (NewQ t o) := by
    obtain rfl | rfl | rfl : o = 1 ∨ o = 2 ∨ o = 3 := by omega
    · exact new_1 t h1 h2
    · exact new_2 t h1 h2
    · exact new_3 t h1 h2
  exact key.mono fun en w ⟨βs, bt, bo, HT, HO, OP, e1, e2, m⟩ => ⟨βs, bt, bo, HT, HO, OP, e1, e2, Au.new m⟩
section
variable {βc βs : Nat} {bt bo : Option Addr} {n ct k co : Nat} {HT HO OP : Heap} {σ σ' : St}
theorem check1_calls {r r' : Int} (e : Ev) (a : Au bt bo n ct k co HT HO OP σ) (hsm : n ≤ 1000000) (hsk : k ≤ 1000000) (hF : takeF σ e = (true, σ')) (hr : σ.rel = r) (hr' : σ'.rel = r') :
    SL.T Try.prog 32 [.agg ⟨ecells e⟩, ptr βc] [blk βc (.cells ⟨[ptr βs]⟩ 28 (0, 0)), specB βs bt bo n ct k co r, HT, HO, OP] fun en w => en = .returned (.bool false) ∧ ∃ HT' HO' OP', w = [blk βc (.cells ⟨[ptr βs]⟩ 28 (0, 0)), specB βs bt bo n ct k co r', HT', HO', OP'] ∧ Au bt bo n ct k co HT' HO' OP' σ' := by
  refine t_of_body Try.func32 rfl (Nat.le_of_ble_eq_true rfl) fun F => ?_
  repeat' (first
    | refine swp_seq ?_
    | (refine gk 0 rfl ?_; first | refine sl_op rfl rfl rfl (by first | exact opv_assign rfl rfl | exact opv_not_t rfl rfl ) ?_ )
    | (refine gk 3 rfl ?_; first | refine sl_op rfl rfl rfl (by first | exact opv_load rfl (by exact rfl) rfl (by exact rfl) | exact opv_loadA rfl (by exact rfl) rfl (by exact rfl) (by exact rfl) ) ?_ )
    | (refine gk 4 rfl ?_; first | (refine sl_callT rfl rfl rfl rfl rfl rfl rfl rfl (take_is e (ecells e) a hsm hsk rfl hF hr hr') ?_; rintro _ _ ⟨rfl, HT2, HO2, OP2, rfl, a2⟩; refine ⟨_, _, rfl, rfl, ?_⟩))
    | (refine gk 5 rfl ?_; first | refine sl_box rfl rfl rfl rfl rfl rfl (fun β => ?_) )
    | refine sl_region rfl ?_
    | refine sl_nil ?_
    | refine thn_k ?_
    | refine swp_ret ?_
    )
  exact end_retL [blk βc (.cells ⟨[ptr βs]⟩ 28 (0, 0)), specB βs bt bo n ct k co r', HT2, HO2, OP2] (resOk_one (resV_tmp rfl)) ⟨rfl, HT2, HO2, OP2, rfl, a2⟩
structure CI where
  j : Nat
  HT : Heap
  HO : Heap
  OP : Heap
  σ : St
theorem index_calls {EV : Heap} {be : Option Addr} {m c : Nat} {es : List Ev} [slE : Sl EV be (evs es)] (a : Au bt bo n ct k co HT HO OP σ) (hsm : n ≤ 1000000) (hsk : k ≤ 1000000) (hm : es.length = m) (hms : m ≤ 1000000) (hF : takesF σ es = (true, σ')) :
    SL.T Try.prog 31 [.slice be m c, .func (.func 32) #[] #[ptr βc]] [blk βc (.cells ⟨[ptr βs]⟩ 28 (0, 0)), specB βs bt bo n ct k co σ.rel, HT, HO, OP, EV] fun en w => en = .returned (i64 (-1)) ∧ ∃ HT' HO' OP', w = [blk βc (.cells ⟨[ptr βs]⟩ 28 (0, 0)), specB βs bt bo n ct k co σ'.rel, HT', HO', OP', EV] := by
  have hE := evs_length es
  refine t_of_body Try.func31 rfl (Nat.le_of_ble_eq_true rfl) fun F => ?_
  repeat' (first
    | refine swp_seq ?_
    | (refine gk 0 rfl ?_; first | refine sl_op rfl rfl rfl (by first | exact opv_move rfl rfl | exact opv_assign rfl rfl ) ?_ )
    | (refine gk 4 rfl ?_; first | refine sl_op rfl rfl rfl (by first | exact opv_len rfl rfl rfl rfl rfl ) ?_)
    | refine sl_region rfl ?_
    | refine sl_nil ?_
    | refine thn_k ?_
    | refine swp_block ?_
    )
  refine swp_loopS (fun s : CI => [(0, .slice be m c), (1, .func (.func 32) #[] #[ptr βc]), (7, i64 (m : Int)), (8, i64 (s.j : Int))])
    (fun s => [blk βc (.cells ⟨[ptr βs]⟩ 28 (0, 0)), specB βs bt bo n ct k co s.σ.rel, s.HT, s.HO, s.OP, EV])
    (fun s => s.j ≤ m ∧ Au bt bo n ct k co s.HT s.HO s.OP s.σ ∧ takesF s.σ (es.drop s.j) = (true, σ'))
    (fun s => m - s.j) ⟨0, HT, HO, OP, σ⟩ (by repeat first | exact Sub.nil _ | refine Sub.cons rfl ?_) ⟨Nat.zero_le _, a, hF⟩ ?_
  clear a hF
  rintro ⟨j, HT1, HO1, OP1, σ1⟩ ⟨hj, a, hF⟩
  dsimp only at hj a hF ⊢
  by_cases hj2 : j < m
  · obtain ⟨e, he⟩ : ∃ z, es[j]? = some z := ⟨_, List.getElem?_eq_getElem (by omega)⟩
    have hd : es.drop j = e :: es.drop (j + 1) := by
      rw [List.drop_eq_getElem_cons (by omega)]
      rw [(List.getElem?_eq_some_iff.1 he).2]
    have hev := evs_at he
    have hjl : ((j : Nat) : Int).toNat * 8 < (evs es).length := by simp; omega
    rw [hd, takesF] at hF
    cases hr : takeF σ1 e with
    | mk v σ2 =>
      rw [hr] at hF
      cases v with
      | false => simp at hF
      | true =>
        rw [if_pos rfl] at hF
        dsimp only at hF
        repeat' (first
          | refine sl_op rfl rfl rfl (opv_loadEA (vs := ecells e) rfl rfl (Nat.succ_pos _) rfl hev) ?_
          | refine swp_seq ?_
          | (refine gk 0 rfl ?_; first | refine sl_op rfl rfl rfl (by first | exact opv_move rfl rfl | exact opv_assign rfl rfl ) ?_ )
          | (refine gk 1 rfl ?_; first | refine sl_op rfl rfl rfl (by first | exact opv_add64 rfl rfl rfl (by omega) (by omega) ) ?_ )
          | (refine gk 2 rfl ?_; first | refine sl_yes rfl rfl rfl (by first | exact opv_lss rfl rfl rfl ) (by first | omega ) ?_ )
          | (refine gk 3 rfl ?_; first | refine sl_op rfl rfl rfl (by first | exact opv_indexAddrI rfl rfl rfl (by omega) (by omega) (by first | omega ) ) ?_ )
          | (refine gk 4 rfl ?_; first | (refine sl_callT rfl rfl rfl rfl rfl rfl rfl rfl (check1_calls (βs := βs) e a hsm hsk hr rfl rfl) ?_; rintro _ _ ⟨rfl, HT2, HO2, OP2, rfl, a2⟩; refine ⟨_, _, rfl, rfl, ?_⟩))
          | refine sl_region rfl ?_
          | refine sl_nil ?_
          | refine thn_k ?_
          | refine swp_true rfl ?_
          | refine swp_false rfl ?_
          | refine swp_block ?_
          | refine swp_skip ?_
          )
        exact ⟨rfl, ⟨j + 1, HT2, HO2, OP2, σ2⟩, next_ok (by repeat first | exact Sub.nil _ | refine Sub.cons rfl ?_), ⟨by dsimp only; omega, a2, hF⟩, by dsimp only; omega⟩
  · rw [List.drop_eq_nil_of_le (by omega), takesF] at hF
    have hs : σ1 = σ' := congrArg Prod.snd hF
    subst hs
    repeat' (first
      | refine swp_seq ?_
      | (refine gk 0 rfl ?_; first | refine sl_op rfl rfl rfl (by first | exact opv_assign rfl rfl ) ?_ )
      | (refine gk 2 rfl ?_; first | refine sl_no rfl rfl rfl (by first | exact opv_lss rfl rfl rfl ) (by first | omega ) ?_ )
      | refine sl_region rfl ?_
      | refine sl_nil ?_
      | refine thn_k ?_
      | refine swp_false rfl ?_
      | refine swp_ret ?_
      | refine swp_exit ?_
      )
    exact end_retL [blk βc (.cells ⟨[ptr βs]⟩ 28 (0, 0)), specB βs bt bo n ct k co σ1.rel, HT1, HO1, OP1, EV] (resOk_one (resV_tmp rfl)) ⟨rfl, HT1, HO1, OP1, rfl⟩
end
theorem check_calls {EV : Heap} {be : Option Addr} {m c t o : Nat} {es : List Ev} [slE : Sl EV be (evs es)] (h1 : 1 ≤ t) (h2 : t ≤ 32766) (h3 : 1 ≤ o) (h4 : o ≤ 3) (hm : es.length = m) (hms : m ≤ 1000000) (hF : (takesF (newF t o) es).1 = true) :
    SL.T Try.prog 18 [i64 (t : Int), i64 (o : Int), .slice be m c] [EV] fun en w => en = .returned (i64 (-1)) ∧ w = [EV] := by
  have hN := new_any t o h1 h2 h3 h4
  have hF2 : takesF (newF t o) es = (true, (takesF (newF t o) es).2) := Prod.ext hF rfl
  have e0 : ∀ βs bt bo, specB βs bt bo t t o o 0 = specB βs bt bo t t o o (newF t o).rel := fun _ _ _ => rfl
  simp only [e0] at hN
  refine t_of_body Try.func18 rfl (Nat.le_of_ble_eq_true rfl) fun F => ?_
  repeat' (first
    | refine swp_seq ?_
    | (refine gk 0 rfl ?_; first | refine sl_op rfl rfl rfl (by first | exact opv_move rfl rfl | exact opv_assign rfl rfl | exact opv_makeFunc rfl rfl rfl) ?_ )
    | (refine gk 4 rfl ?_; first | (refine sl_callT rfl rfl rfl rfl rfl rfl rfl rfl (hN) ?_; rintro _ _ ⟨βs, bt, bo, HT, HO, OP, rfl, rfl, a⟩; refine ⟨_, _, rfl, rfl, ?_⟩) | (refine sl_callT rfl rfl rfl rfl rfl rfl rfl rfl (index_calls (βs := βs) (EV := EV) (be := be) (c := c) a (by omega) (by omega) hm hms hF2) ?_; rintro _ _ ⟨rfl, HT2, HO2, OP2, rfl⟩; refine ⟨_, _, rfl, rfl, ?_⟩))
    | (refine gk 5 rfl ?_; first | refine sl_alloc rfl rfl rfl rfl (by exact rfl) (fun β => ?_) | refine sl_store rfl rfl rfl rfl rfl rfl (by exact rfl) rfl (by exact rfl) ?_)
    | refine sl_region rfl ?_
    | refine sl_nil ?_
    | refine thn_k ?_
    | refine swp_ret ?_
    )
  exact end_retL [EV] (resOk_one (resV_tmp rfl)) ⟨rfl, rfl⟩
end Go.Proofs.Ytimmclibnfdjhaa
