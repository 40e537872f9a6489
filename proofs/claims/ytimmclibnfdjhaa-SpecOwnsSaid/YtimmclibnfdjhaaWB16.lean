/- Who waits, in a row. -/
import Derived.Test.YtimmclibnfdjhaaWB5
set_option linter.unusedVariables false
set_option linter.unusedSimpArgs false
set_option linter.unusedSectionVars false
namespace Go.Proofs.Ytimmclibnfdjhaa
open Go.SL
set_option maxRecDepth 100000
set_option maxHeartbeats 16000000
attribute [local irreducible] SL.T PFn OpV SOL SWP HOp ChU
def natV (l : List Nat) : List Value := l.map fun u : Nat => i64 (u : Int)
theorem wlist_length (fars : List Int) (o : Int) : ∀ (ts : List Th) (j : Nat), (wlist fars o j ts).length ≤ ts.length
  | [], _ => Nat.le_refl _
  | t :: ts, j => by
    have := wlist_length fars o ts (j + 1)
    simp only [wlist]
    split <;> simp only [List.length_cons] <;> omega
section
variable (β1 β2 β3 βs : Nat) (bt bo : Option Addr) (n ct k co : Nat) (rel o : Int) (fb : Option Addr) (fn fc : Nat) (fars : List Int) (HT OP FS : Heap) (bs : List (Option Nat)) (th : List Th)
def SeqQ (β1 β2 β3 βs : Nat) (bt bo : Option Addr) (n ct k co : Nat) (rel o : Int) (fb : Option Addr) (fn fc : Nat) (fars : List Int) (HT OP FS : Heap) (th : List Th) (en : Ending) (w : List Heap) : Prop :=
  ∃ N J b c, en = .returned (.slice b (wlist fars o 0 th).length c) ∧ w = [specB βs bt bo n ct k co rel, HT, OP, blk β1 (.cells ⟨[ptr βs]⟩ 28 (0, 0)), blk β2 (.cells ⟨[i64 o]⟩ 3 (0, 0)), blk β3 (.cells ⟨[.slice fb fn fc]⟩ 30 (0, 0)), FS, N, J] ∧ OS N b (wlist fars o 0 th).length c 3 1 (natV (wlist fars o 0 th))
theorem seq_calls [slT : Sl HT bt (thCells bs th)] [slF : Sl FS fb (fars.map i64)] (hf : fars.length = fn) (hfn : fn ≤ 1000) (hn : th.length = n) (hsm : n ≤ 1000000) (ok : OpOk OP bs th) :
    SL.T Try.prog 47 [.slice none 0 0, .func (.func 48) #[] #[ptr β1, ptr β2, ptr β3]] [specB βs bt bo n ct k co rel, HT, OP, blk β1 (.cells ⟨[ptr βs]⟩ 28 (0, 0)), blk β2 (.cells ⟨[i64 o]⟩ 3 (0, 0)), blk β3 (.cells ⟨[.slice fb fn fc]⟩ 30 (0, 0)), FS] (SeqQ β1 β2 β3 βs bt bo n ct k co rel o fb fn fc fars HT OP FS th) := by
  have hwl := wlist_length fars o th 0
  unfold SeqQ
  refine t_of_body Try.func47 rfl (Nat.le_of_ble_eq_true rfl) fun F => ?_
  repeat' (first
    | refine swp_seq ?_
    | (refine gk 0 rfl ?_; first | refine sl_op rfl rfl rfl (by first | exact opv_move rfl rfl | exact opv_assign rfl rfl ) ?_ )
    | (refine gk 5 rfl ?_; first | refine sl_box rfl rfl rfl rfl rfl rfl (fun β => ?_) )
    | refine sl_region rfl ?_
    | refine sl_nil ?_
    | refine thn_k ?_
    | refine swp_block ?_
    )
  refine swp_emp ?_
  refine swp_rangeL (hsI := [blk β1 (.cells ⟨[ptr βs]⟩ 28 (0, 0)), blk β2 (.cells ⟨[i64 o]⟩ 3 (0, 0)), blk β3 (.cells ⟨[.slice fb fn fc]⟩ 30 (0, 0)), FS]) (nx := nxT (specB βs bt bo n ct k co rel) HT OP fars o th)
    (fun q own1 => ∃ b c N, own1 = [N, blk β (.cells ⟨[.slice b q c]⟩ 30 (0, 0)), specB βs bt bo n ct k co rel, HT, OP] ∧ q ≤ (wlist fars o 0 th).length ∧ OS N b q c 3 1 (natV ((wlist fars o 0 th).take q)))
    (fun own1 => ∃ b c N, own1 = [N, blk β (.cells ⟨[.slice b (wlist fars o 0 th).length c]⟩ 30 (0, 0)), specB βs bt bo n ct k co rel, HT, OP] ∧ OS N b (wlist fars o 0 th).length c 3 1 (natV (wlist fars o 0 th))) (fun _ _ => False)
    rfl (waiting_iter β1 β2 β3 βs bt bo n ct k co rel o fb fn fc fars HT OP _ bs th hf hfn hn hsm ok) nxT_mono rfl ⟨none, 0, emp, rfl, Nat.zero_le _, by exact OS.nil⟩ ?_ ?_ ?_
  · rintro L q own1 ⟨b, c, N, rfl, hq0, os⟩ hdj
    have lS : hle (specB βs bt bo n ct k co rel) (joins [N, blk β (.cells ⟨[.slice b q c]⟩ 30 (0, 0)), specB βs bt bo n ct k co rel, HT, OP]) := hle_joins hdj (by simp)
    have lT : hle HT (joins [N, blk β (.cells ⟨[.slice b q c]⟩ 30 (0, 0)), specB βs bt bo n ct k co rel, HT, OP]) := hle_joins hdj (by simp)
    have lO : hle OP (joins [N, blk β (.cells ⟨[.slice b q c]⟩ 30 (0, 0)), specB βs bt bo n ct k co rel, HT, OP]) := hle_joins hdj (by simp)
    cases hq : (wlist fars o 0 th)[q]? with
    | none =>
      have hqe : q = (wlist fars o 0 th).length := by rw [List.getElem?_eq_none_iff] at hq; omega
      subst hqe
      rw [List.take_length] at os
      exact .inr ⟨⟨lS, lT, lO, by rw [waitX_map]; simp [hq]⟩, b, c, N, rfl, os⟩
    | some u =>
      have hql : q < (wlist fars o 0 th).length := (List.getElem?_eq_some_iff.1 hq).1
      refine .inl ⟨[i64 (u : Int)], ⟨lS, lT, lO, by rw [waitX_map]; simp [hq]⟩, rfl, fun F1 => ⟨_, rfl, ?_⟩⟩
      have htk : natV ((wlist fars o 0 th).take (q + 1)) = natV ((wlist fars o 0 th).take q) ++ [i64 (u : Int)] := by rw [List.take_add_one, hq]; simp [natV]
      repeat' (first
        | (refine gk 0 rfl ?_; first | refine sl_op rfl rfl rfl (by first | exact opv_assign rfl rfl ) ?_ )
        | refine sl_region rfl ?_
        | refine sl_nil ?_
        | refine thn_k ?_
        )
      intro F2
      repeat' (first
        | (refine gk 0 rfl ?_; first | refine sl_op rfl rfl rfl (by first | exact opv_move rfl rfl ) ?_ )
        | (refine gk 3 rfl ?_; first | refine sl_op rfl rfl rfl (by first | exact opv_load rfl (by exact rfl) rfl (by exact rfl) ) ?_ )
        | (refine gk 4 rfl ?_; first | refine sl_appendG rfl rfl rfl rfl rfl rfl rfl rfl rfl (by assumption) (by first | rfl ) (by decide) (by first | rfl ) (by omega) (by omega) (fun h' b' c' os' hb' => ?_))
        | (refine gk 5 rfl ?_; first | refine sl_buildSlice rfl rfl rfl rfl rfl (by exact rfl) (by exact rfl) (by exact rfl) (by exact rfl) rfl (fun b => ?_) | refine sl_store rfl rfl rfl rfl rfl rfl (by exact rfl) rfl (by exact rfl) ?_)
        | refine sl_region rfl ?_
        | refine sl_nil ?_
        | refine swp_block ?_
        | refine inb_k ?_
        )
      rw [← htk] at os'
      exact round_end [h', blk β (.cells ⟨[.slice b' (q + 1) c']⟩ 30 (0, 0)), specB βs bt bo n ct k co rel, HT, OP] ⟨b', c', h', rfl, hql, os'⟩
  · rintro D own1 ⟨b, c, N, rfl, os⟩
    refine ⟨_, rfl, ?_⟩
    repeat' (first
      | refine swp_seq ?_
      | (refine gk 0 rfl ?_; first | refine sl_op rfl rfl rfl (by first | exact opv_assign rfl rfl ) ?_ )
      | (refine gk 3 rfl ?_; first | refine sl_op rfl rfl rfl (by first | exact opv_load rfl (by exact rfl) rfl (by exact rfl) ) ?_ )
      | refine sl_region rfl ?_
      | refine sl_nil ?_
      | refine thn_k ?_
      | refine swp_ret ?_
      )
    exact end_retL [specB βs bt bo n ct k co rel, HT, OP, blk β1 (.cells ⟨[ptr βs]⟩ 28 (0, 0)), blk β2 (.cells ⟨[i64 o]⟩ 3 (0, 0)), blk β3 (.cells ⟨[.slice fb fn fc]⟩ 30 (0, 0)), FS, N, blk β (.cells ⟨[.slice b (wlist fars o 0 th).length c]⟩ 30 (0, 0))] (resOk_one (resV_tmp rfl)) ⟨N, _, b, c, rfl, rfl, os⟩
  · rintro D c own1 h
    exact h.elim
theorem collect_calls [slT : Sl HT bt (thCells bs th)] [slF : Sl FS fb (fars.map i64)] (hf : fars.length = fn) (hfn : fn ≤ 1000) (hn : th.length = n) (hsm : n ≤ 1000000) (ok : OpOk OP bs th) :
    SL.T Try.prog 29 [.func (.func 48) #[] #[ptr β1, ptr β2, ptr β3]] [specB βs bt bo n ct k co rel, HT, OP, blk β1 (.cells ⟨[ptr βs]⟩ 28 (0, 0)), blk β2 (.cells ⟨[i64 o]⟩ 3 (0, 0)), blk β3 (.cells ⟨[.slice fb fn fc]⟩ 30 (0, 0)), FS] (SeqQ β1 β2 β3 βs bt bo n ct k co rel o fb fn fc fars HT OP FS th) := by
  have h := seq_calls β1 β2 β3 βs bt bo n ct k co rel o fb fn fc fars HT OP FS bs th hf hfn hn hsm ok
  unfold SeqQ at h ⊢
  refine t_of_body Try.func29 rfl (Nat.le_of_ble_eq_true rfl) fun F => ?_
  repeat' (first
    | refine swp_seq ?_
    | (refine gk 0 rfl ?_; first | refine sl_op rfl rfl rfl (by first | exact opv_move rfl rfl | exact opv_assign rfl rfl ) ?_ )
    | (refine gk 4 rfl ?_; first | (refine sl_callT rfl rfl rfl rfl rfl rfl rfl rfl (h) ?_; rintro _ _ ⟨N, J, b, c, rfl, rfl, os⟩; refine ⟨_, _, rfl, rfl, ?_⟩))
    | refine sl_region rfl ?_
    | refine sl_nil ?_
    | refine thn_k ?_
    | refine swp_ret ?_
    )
  exact end_retL [specB βs bt bo n ct k co rel, HT, OP, blk β1 (.cells ⟨[ptr βs]⟩ 28 (0, 0)), blk β2 (.cells ⟨[i64 o]⟩ 3 (0, 0)), blk β3 (.cells ⟨[.slice fb fn fc]⟩ 30 (0, 0)), FS, N, J] (resOk_one (resV_tmp rfl)) ⟨N, J, b, c, rfl, rfl, os⟩
end
end Go.Proofs.Ytimmclibnfdjhaa
