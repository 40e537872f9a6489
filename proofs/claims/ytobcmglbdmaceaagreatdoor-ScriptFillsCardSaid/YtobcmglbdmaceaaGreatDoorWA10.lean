/- Pieces between blanks, one behind the other. -/
import Derived.Test.YtobcmglbdmaceaaGreatDoorWL1
import Derived.Test.YtobcmglbdmaceaaGreatDoorSlGb
set_option linter.unusedVariables false
set_option linter.unusedSimpArgs false
set_option linter.unusedSectionVars false
namespace Go.Proofs.YtobcmglbdmaceaaGreatDoor
open Go.SL
set_option maxRecDepth 100000
set_option maxHeartbeats 16000000
/-- The pieces between blanks. -/
def pcs : List UInt8 → List (List UInt8)
  | [] => [[]]
  | b :: r => if b = 32 then [] :: pcs r else match pcs r with
    | [] => [[b]]
    | w :: ws => (b :: w) :: ws
theorem pcs_index : ∀ (s : List UInt8), (Lib.indexByte s 32 = -1 ∧ pcs s = [s]) ∨ ∃ i : Nat, Lib.indexByte s 32 = (i : Int) ∧ i < s.length ∧ pcs s = s.take i :: pcs (s.drop (i + 1))
  | [] => .inl ⟨rfl, rfl⟩
  | b :: r => by
    by_cases hb : b = 32
    · subst hb
      exact .inr ⟨0, rfl, by simp, by simp [pcs]⟩
    · have hb2 : (b == 32) = false := by simpa using hb
      rcases pcs_index r with ⟨h1, h2⟩ | ⟨i, h1, h2, h3⟩
      · refine .inl ⟨by simp [Lib.indexByte, hb2, h1], by simp [pcs, hb, h2]⟩
      · refine .inr ⟨i + 1, ?_, by simp; omega, by simp [pcs, hb, h3]⟩
        simp only [Lib.indexByte, hb2, h1]
        rw [if_neg (by decide), if_neg (by simp <;> omega)]
        omega
attribute [local irreducible] SL.T PFn OpV SOL SWP HOp ChU
-- ALIAS Tryz
structure SS where
  cur : List UInt8
  H : Heap
theorem split_iter (β1 β2 β3 : Nat) (s : List UInt8) (hs : s.length ≤ 1000000) :
    IterD Tryz.prog 47 [] [ptr β1, ptr β2, ptr β3] [blk β1 (.cells ⟨[str [32]]⟩ 9 (0, 0)), blk β2 (.cells ⟨[str s]⟩ 9 (0, 0)), blk β3 (.cells ⟨[i64 0]⟩ 3 (0, 0))] [] ((pcs s).map fun w => [str w]) := by
  intro L J Jx hy H h0
  refine t_of_body Tryz.func47 rfl (Nat.le_of_ble_eq_true rfl) fun F => ?_
  repeat' (first
    | refine sl_op rfl rfl rfl (opv_lenS rfl rfl rfl rfl rfl) ?_
    | refine swp_seq ?_
    | (refine gk 2 rfl ?_; first | refine sl_no rfl rfl rfl (by first | exact opv_eql rfl rfl rfl ) (by first | decide +kernel) ?_ )
    | (refine gk 3 rfl ?_; first | refine sl_op rfl rfl rfl (by first | exact opv_load rfl (by exact rfl) rfl (by exact rfl) ) ?_ )
    | refine sl_region rfl ?_
    | refine sl_nil ?_
    | refine thn_k ?_
    | refine swp_false rfl ?_
    | refine swp_block ?_
    | refine swp_skip ?_
    )
  refine swp_loopS (fun t : SS => [(0, .func (.yield L) #[] #[]), (1, ptr β1), (2, ptr β2), (3, ptr β3)])
    (fun t => [t.H, blk β1 (.cells ⟨[str [32]]⟩ 9 (0, 0)), blk β2 (.cells ⟨[str t.cur]⟩ 9 (0, 0)), blk β3 (.cells ⟨[i64 0]⟩ 3 (0, 0))])
    (fun t => t.cur.length ≤ 1000000 ∧ ∃ pre, pcs s = pre ++ pcs t.cur ∧ J pre.length t.H) (fun t => t.cur.length) ⟨s, H⟩ (by repeat first | exact Sub.nil _ | refine Sub.cons rfl ?_) ⟨hs, [], rfl, h0⟩ ?_
  clear h0
  rintro ⟨cur, H⟩ ⟨hcl, pre, hpre, hJ⟩
  dsimp only at hcl hpre hJ ⊢
  have hix := Index_calls cur 32
  rcases pcs_index cur with ⟨h1, h2⟩ | ⟨i, h1, h2, h3⟩
  · rw [h1] at hix
    have hx : ((pcs s).map fun w => [str w])[pre.length]? = some [str cur] := by
      rw [List.getElem?_map, hpre, h2]; simp
    have hlen : ((pcs s).map fun w => [str w]).length = pre.length + 1 := by rw [List.length_map, hpre, h2]; simp
    have hyy := hy _ _ H hx hJ
    rw [hlen]
    repeat' (first
      | refine swp_seq ?_
      | (refine gk 0 rfl ?_; first | refine sl_op rfl rfl rfl (by first | exact opv_move rfl rfl | exact opv_assign rfl rfl ) ?_ )
      | (refine gk 2 rfl ?_; first | refine sl_yes rfl rfl rfl (by first | exact opv_lss rfl rfl rfl ) (by first | omega ) ?_ )
      | (refine gk 3 rfl ?_; first | refine sl_op rfl rfl rfl (by first | exact opv_load rfl (by exact rfl) rfl (by exact rfl) ) ?_ )
      | (refine gk 4 rfl ?_; first | refine sl_op rfl rfl rfl (opv_call rfl rfl rfl rfl rfl (hix)) ?_)
      | refine sl_region rfl ?_
      | refine sl_nil ?_
      | refine thn_k ?_
      | refine swp_true rfl ?_
      | refine swp_block ?_
      | refine swp_exit ?_
      )
    refine sl_hop (hs := [H]) rfl rfl rfl (hop_yield rfl rfl rfl rfl hyy) ?_
    rintro v own' ⟨H', rfl, ⟨rfl, hJ'⟩ | ⟨rfl, hJ'⟩⟩ <;> refine ⟨_, rfl, ?_⟩
    · repeat' (first
        | refine sl_nil ?_
        )
      exact ⟨_, _, [H'], inferInstance, resOk_nil, sub_perm, rfl, H', rfl, .inl hJ'⟩
    · repeat' (first
        | refine sl_nil ?_
        )
      exact ⟨_, _, [H'], inferInstance, resOk_nil, sub_perm, rfl, H', rfl, .inr hJ'⟩
  · rw [h1] at hix
    have hx : ((pcs s).map fun w => [str w])[pre.length]? = some [str (cur.take i)] := by
      rw [List.getElem?_map, hpre, h3]; simp
    have hyy := hy _ _ H hx hJ
    have e1 : ((i : Int) + 0).toNat = i := by omega
    have e2 : ((i : Int) + 1).toNat = i + 1 := by omega
    repeat' (first
      | refine sl_op rfl rfl rfl ((opv_sliceSHi rfl rfl rfl (by omega) (by omega)).to (congrArg (fun k => str (cur.take k)) e1)) ?_
      | refine swp_seq ?_
      | (refine gk 0 rfl ?_; first | refine sl_op rfl rfl rfl (by first | exact opv_move rfl rfl | exact opv_assign rfl rfl ) ?_ )
      | (refine gk 1 rfl ?_; first | refine sl_op rfl rfl rfl (by first | exact opv_add64 rfl rfl rfl (by omega) (by omega) ) ?_ )
      | (refine gk 2 rfl ?_; first | refine sl_no rfl rfl rfl (by first | exact opv_lss rfl rfl rfl ) (by first | omega ) ?_ )
      | (refine gk 3 rfl ?_; first | refine sl_op rfl rfl rfl (by first | exact opv_load rfl (by exact rfl) rfl (by exact rfl) ) ?_ )
      | (refine gk 4 rfl ?_; first | refine sl_op rfl rfl rfl (opv_call rfl rfl rfl rfl rfl (hix)) ?_)
      | refine sl_region rfl ?_
      | refine sl_nil ?_
      | refine thn_k ?_
      | refine swp_false rfl ?_
      | refine swp_block ?_
      | refine swp_skip ?_
      )
    refine sl_hop (hs := [H]) rfl rfl rfl (hop_yield rfl rfl rfl rfl hyy) ?_
    rintro v own' ⟨H', rfl, ⟨rfl, hJ'⟩ | ⟨rfl, hJ'⟩⟩ <;> refine ⟨_, rfl, ?_⟩
    · repeat' (first
        | refine sl_op rfl rfl rfl ((opv_lenS rfl rfl rfl rfl rfl).to (show Value.int .i64 ((([32] : List UInt8).length : Nat) : Int) = i64 1 from rfl)) ?_
        | refine sl_op rfl rfl rfl ((opv_sliceSLo rfl rfl rfl (by first | omega ) (by first | omega )).to (congrArg (fun k => str (cur.drop k)) e2)) ?_
        | (refine gk 0 rfl ?_; first | refine sl_op rfl rfl rfl (by first | exact opv_move rfl rfl | exact opv_not_t rfl rfl ) ?_ )
        | (refine gk 1 rfl ?_; first | refine sl_op rfl rfl rfl (by first | exact opv_add64 rfl rfl rfl (by omega) (by omega) ) ?_ )
        | (refine gk 3 rfl ?_; first | refine sl_op rfl rfl rfl (by first | exact opv_load rfl (by exact rfl) rfl (by exact rfl) ) ?_ )
        | (refine gk 5 rfl ?_; first | refine sl_store rfl rfl rfl rfl rfl rfl (by exact rfl) rfl (by exact rfl) ?_)
        | refine sl_region rfl ?_
        | refine sl_nil ?_
        | refine thn_k ?_
        | refine swp_false rfl ?_
        | refine swp_skip ?_
        | refine inb_k ?_
        )
      refine ⟨rfl, ⟨cur.drop (i + 1), H'⟩, next_ok (by repeat first | exact Sub.nil _ | refine Sub.cons rfl ?_), ⟨by dsimp only; rw [List.length_drop]; omega, pre ++ [cur.take i], ?_, by simpa using hJ'⟩, by dsimp only; rw [List.length_drop]; omega⟩
      dsimp only
      rw [hpre, h3]; simp
    · repeat' (first
        | (refine gk 0 rfl ?_; first | refine sl_op rfl rfl rfl (by first | exact opv_not_f rfl rfl ) ?_ )
        | refine sl_nil ?_
        | refine thn_k ?_
        | refine swp_true rfl ?_
        | refine swp_ret ?_
        | refine thn_ret ?_
        | refine inb_ret ?_
        )
      exact ⟨_, _, [H'], inferInstance, resOk_nil, sub_perm, rfl, H', rfl, .inr hJ'⟩
theorem splitSeq_calls (s p : List UInt8) (z : Int) :
    SL.T Tryz.prog 34 [str s, str p, i64 z] [] fun e o => ∃ β1 β2 β3, e = .returned (.func (.func 47) #[] #[ptr β1, ptr β2, ptr β3]) ∧ o = [blk β1 (.cells ⟨[str p]⟩ 9 (0, 0)), blk β2 (.cells ⟨[str s]⟩ 9 (0, 0)), blk β3 (.cells ⟨[i64 z]⟩ 3 (0, 0))] := by
  refine t_of_body Tryz.func34 rfl (Nat.le_of_ble_eq_true rfl) fun F => ?_
  repeat' (first
    | refine swp_seq ?_
    | (refine gk 0 rfl ?_; first | refine sl_op rfl rfl rfl (by first | exact opv_assign rfl rfl | exact opv_makeFunc rfl rfl rfl) ?_ )
    | (refine gk 5 rfl ?_; first | refine sl_box rfl rfl rfl rfl rfl rfl (fun β => ?_) )
    | refine sl_region rfl ?_
    | refine sl_nil ?_
    | refine thn_k ?_
    | refine swp_ret ?_
    )
  rename_i β2 β1
  exact end_retZ [blk β1 (.cells ⟨[str p]⟩ 9 (0, 0)), blk β2 (.cells ⟨[str s]⟩ 9 (0, 0)), blk β (.cells ⟨[i64 z]⟩ 3 (0, 0))] (resOk_one (resV_tmp rfl)) ⟨β1, β2, β, rfl, rfl⟩
theorem SplitSeq_calls (s p : List UInt8) :
    SL.T Tryz.prog 24 [str s, str p] [] fun e o => ∃ β1 β2 β3, e = .returned (.func (.func 47) #[] #[ptr β1, ptr β2, ptr β3]) ∧ o = [blk β1 (.cells ⟨[str p]⟩ 9 (0, 0)), blk β2 (.cells ⟨[str s]⟩ 9 (0, 0)), blk β3 (.cells ⟨[i64 0]⟩ 3 (0, 0))] := by
  refine t_of_body Tryz.func24 rfl (Nat.le_of_ble_eq_true rfl) fun F => ?_
  repeat' (first
    | refine swp_seq ?_
    | (refine gk 0 rfl ?_; first | refine sl_op rfl rfl rfl (by first | exact opv_move rfl rfl | exact opv_assign rfl rfl ) ?_ )
    | (refine gk 4 rfl ?_; first | (refine sl_callT rfl rfl rfl rfl rfl rfl rfl rfl (splitSeq_calls s p 0) ?_; rintro _ _ ⟨β1, β2, β3, rfl, rfl⟩; refine ⟨_, _, rfl, rfl, ?_⟩))
    | refine sl_region rfl ?_
    | refine sl_nil ?_
    | refine thn_k ?_
    | refine swp_ret ?_
    )
  exact end_retZ [blk β1 (.cells ⟨[str p]⟩ 9 (0, 0)), blk β2 (.cells ⟨[str s]⟩ 9 (0, 0)), blk β3 (.cells ⟨[i64 0]⟩ 3 (0, 0))] (resOk_one (resV_tmp rfl)) ⟨β1, β2, β3, rfl, rfl⟩
end Go.Proofs.YtobcmglbdmaceaaGreatDoor
