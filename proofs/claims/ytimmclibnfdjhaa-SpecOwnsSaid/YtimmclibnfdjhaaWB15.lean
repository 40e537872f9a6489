/- Making an automaton. -/
import Derived.Test.YtimmclibnfdjhaaWB14
set_option linter.unusedVariables false
set_option linter.unusedSimpArgs false
set_option linter.unusedSectionVars false
namespace Go.Proofs.Ytimmclibnfdjhaa
open Go.SL
set_option maxRecDepth 100000
set_option maxHeartbeats 16000000
attribute [local irreducible] SL.T PFn OpV SOL SWP HOp ChU
/-- The automaton at first. -/
def newF (t o : Nat) : St := ⟨List.replicate t ⟨none, 0, false⟩, List.replicate o (-1, 0), 0⟩
theorem newF_wf (t o : Nat) : WF (newF t o) := by
  intro u x p hu hx
  have := List.getElem?_replicate (a := (⟨none, 0, false⟩ : Th)) (n := t) (i := u)
  simp only [newF, this] at hu
  split at hu
  · cases hu; cases hx
  · cases hu
theorem thCells_new : ∀ (t : Nat), thCells (List.replicate t none) (List.replicate t ⟨none, 0, false⟩) = (List.replicate t [Value.pointer none, i64 0, .bool false]).flatten
  | 0 => rfl
  | t + 1 => by
    simp only [List.replicate_succ, thCells, List.flatten_cons, thCells_new t]
    rfl
theorem thCells_len_new (t : Nat) : ((List.replicate t [Value.pointer none, i64 0, .bool false]).flatten).length = t * 3 := by simp
theorem op_new (OP : Heap) (t : Nat) : OpOk OP (List.replicate t none) (List.replicate t ⟨none, 0, false⟩) := by
  refine ⟨by simp, fun u x hx => ?_, fun u v β hu _ => ?_⟩
  · rw [List.getElem?_replicate] at hx
    split at hx
    · rename_i h
      cases hx
      exact ⟨none, by rw [List.getElem?_replicate, if_pos h], fun _ => rfl, fun o h => by cases h⟩
    · cases hx
  · rw [List.getElem?_replicate] at hu
    split at hu <;> cases hu
def NewQ (t o : Nat) (en : Ending) (w : List Heap) : Prop :=
  ∃ βs bt bo HT HO OP, en = .returned (ptr βs) ∧ w = [specB βs bt bo t t o o 0, HT, HO, OP] ∧ MemOk bt bo t o HT HO OP (List.replicate t none) (newF t o)
theorem mem_new {bt bo : Nat} {t o : Nat} {OP : Heap} {l : List (Int × Int)} (hl : l = List.replicate o (-1, 0)) : MemOk (some ⟨bt, 0, none⟩) (some ⟨bo, 0, none⟩) t o (blk bt (.cells ⟨(List.replicate t [Value.pointer none, i64 0, .bool false]).flatten⟩ 73 (0, 0))) (objB bo l) OP (List.replicate t none) (newF t o) := by
  subst hl
  refine ⟨?_, ?_, op_new OP t, ⟨_, rfl⟩, ⟨_, rfl⟩⟩
  · have e : (newF t o).th.length = t := by simp [newF]
    rw [e]
    show OS _ _ t t 73 3 (thCells (List.replicate t none) (List.replicate t ⟨none, 0, false⟩))
    rw [thCells_new]
    exact OS.blk (thCells_len_new t)
  · have e : (newF t o).ob.length = o := by simp [newF]
    rw [e]
    exact OS.blk (by rw [obCells_length]; simp)
theorem repeat_1' (β : Nat) : SL.T Try.prog 23 [.slice (some ⟨β, 0, none⟩) 1 1, i64 1] [blk β (.cells ⟨[i64 (-1), i64 0]⟩ 66 (0, 0))] fun en w => ∃ b, en = .returned (.slice (some ⟨b, 0, none⟩) 1 1) ∧ w = [blk β (.cells ⟨[i64 (-1), i64 0]⟩ 66 (0, 0)), objB b [(-1, 0)]] :=
  T_perm (repeat_1 β) fun e o ⟨b, h1, h2⟩ => ⟨_, by rw [h2]; exact List.Perm.swap _ _ _, b, h1, rfl⟩
theorem repeat_2' (β : Nat) : SL.T Try.prog 23 [.slice (some ⟨β, 0, none⟩) 1 1, i64 2] [blk β (.cells ⟨[i64 (-1), i64 0]⟩ 66 (0, 0))] fun en w => ∃ b, en = .returned (.slice (some ⟨b, 0, none⟩) 2 2) ∧ w = [blk β (.cells ⟨[i64 (-1), i64 0]⟩ 66 (0, 0)), objB b [(-1, 0), (-1, 0)]] :=
  T_perm (repeat_2 β) fun e o ⟨b, h1, h2⟩ => ⟨_, by rw [h2]; exact List.Perm.swap _ _ _, b, h1, rfl⟩
theorem repeat_3' (β : Nat) : SL.T Try.prog 23 [.slice (some ⟨β, 0, none⟩) 1 1, i64 3] [blk β (.cells ⟨[i64 (-1), i64 0]⟩ 66 (0, 0))] fun en w => ∃ b, en = .returned (.slice (some ⟨b, 0, none⟩) 3 3) ∧ w = [blk β (.cells ⟨[i64 (-1), i64 0]⟩ 66 (0, 0)), objB b [(-1, 0), (-1, 0), (-1, 0)]] :=
  T_perm (repeat_3 β) fun e o ⟨b, h1, h2⟩ => ⟨_, by rw [h2]; exact List.Perm.swap _ _ _, b, h1, rfl⟩
theorem new_1 (t : Nat) (h1 : 1 ≤ t) (h2 : t ≤ 32766) : SL.T Try.prog 9 [i64 (t : Int), i64 1] [] (NewQ t 1) := by
  have hr := repeat_1'
  unfold NewQ
  refine t_of_body Try.func9 rfl (Nat.le_of_ble_eq_true rfl) fun F => ?_
  repeat' (first
    | refine swp_seq ?_
    | (refine gk 0 rfl ?_; first | refine sl_op rfl rfl rfl (by first | exact opv_move rfl rfl | exact opv_assign rfl rfl | exact opv_pick_f rfl rfl rfl ) ?_ )
    | (refine gk 2 rfl ?_; first | refine sl_no rfl rfl rfl (by first | exact opv_lss rfl rfl rfl | exact opv_gtr rfl rfl rfl ) (by first | omega ) ?_ )
    | refine sl_region rfl ?_
    | refine sl_nil ?_
    | refine thn_k ?_
    | refine swp_false rfl ?_
    | refine swp_skip ?_
    )
  refine sl_drawC [.q [0], .an 1, .q [2], .an 3, .q [4], .rv 3, .h false 5, .rv 1, .q [6], .an 7, .rv 7, .q [8]] [] (by kernel_rfl) (by kernel_rfl) (by kernel_rfl) (by kernel_rfl) ?_
  repeat' (first
    | (refine gk 0 rfl ?_; first | refine sl_op rfl rfl rfl (by first | exact opv_move rfl rfl | exact opv_assign rfl rfl ) ?_ )
    | (refine gk 5 rfl ?_; first | refine sl_op rfl rfl rfl (by first | exact opv_build rfl rfl (by exact rfl) ) ?_ )
    | refine chu_nil ?_
    | refine chu_q rfl ?_
    | refine chu_new rfl rfl (by first | exact new_box rfl rfl rfl | exact new_buildSlice rfl rfl (by exact rfl) (by exact rfl) (by exact rfl) (by exact rfl) (by exact rfl)) ?_
    | refine chu_rv rfl rfl rfl (fun β => ?_)
    | (refine chu_T rfl rfl rfl rfl rfl rfl rfl rfl (hr _) (by rintro _ _ ⟨b, rfl, rfl⟩; exact ⟨_, rfl⟩) ?_; rintro _ _ ⟨b, rfl, rfl⟩; refine ⟨_, _, rfl, rfl, ?_⟩)
    | refine chu_new rfl rfl (new_makeSliceW rfl rfl rfl (by exact rfl) (by exact rfl) (by omega) (by omega) (by omega)) ?_
    | refine sl_nil ?_
    | refine thn_k ?_
    | refine swp_ret ?_
    )
  rename_i βj βt
  exact end_retL [specB β (some ⟨βt, 0, none⟩) (some ⟨b, 0, none⟩) t t 1 1 0, blk βt (.cells ⟨(List.replicate t [Value.pointer none, i64 0, .bool false]).flatten⟩ 73 (0, 0)), objB b [(-1, 0)], blk βj (.cells ⟨[i64 (-1), i64 0]⟩ 66 (0, 0))] (resOk_one (resV_tmp rfl)) ⟨β, _, _, _, _, _, rfl, rfl, mem_new rfl⟩
theorem new_2 (t : Nat) (h1 : 1 ≤ t) (h2 : t ≤ 32766) : SL.T Try.prog 9 [i64 (t : Int), i64 2] [] (NewQ t 2) := by
  have hr := repeat_2'
  unfold NewQ
  refine t_of_body Try.func9 rfl (Nat.le_of_ble_eq_true rfl) fun F => ?_
  repeat' (first
    | refine swp_seq ?_
    | (refine gk 0 rfl ?_; first | refine sl_op rfl rfl rfl (by first | exact opv_move rfl rfl | exact opv_assign rfl rfl | exact opv_pick_f rfl rfl rfl ) ?_ )
    | (refine gk 2 rfl ?_; first | refine sl_no rfl rfl rfl (by first | exact opv_lss rfl rfl rfl | exact opv_gtr rfl rfl rfl ) (by first | omega ) ?_ )
    | refine sl_region rfl ?_
    | refine sl_nil ?_
    | refine thn_k ?_
    | refine swp_false rfl ?_
    | refine swp_skip ?_
    )
  refine sl_drawC [.q [0], .an 1, .q [2], .an 3, .q [4], .rv 3, .h false 5, .rv 1, .q [6], .an 7, .rv 7, .q [8]] [] (by kernel_rfl) (by kernel_rfl) (by kernel_rfl) (by kernel_rfl) ?_
  repeat' (first
    | (refine gk 0 rfl ?_; first | refine sl_op rfl rfl rfl (by first | exact opv_move rfl rfl | exact opv_assign rfl rfl ) ?_ )
    | (refine gk 5 rfl ?_; first | refine sl_op rfl rfl rfl (by first | exact opv_build rfl rfl (by exact rfl) ) ?_ )
    | refine chu_nil ?_
    | refine chu_q rfl ?_
    | refine chu_new rfl rfl (by first | exact new_box rfl rfl rfl | exact new_buildSlice rfl rfl (by exact rfl) (by exact rfl) (by exact rfl) (by exact rfl) (by exact rfl)) ?_
    | refine chu_rv rfl rfl rfl (fun β => ?_)
    | (refine chu_T rfl rfl rfl rfl rfl rfl rfl rfl (hr _) (by rintro _ _ ⟨b, rfl, rfl⟩; exact ⟨_, rfl⟩) ?_; rintro _ _ ⟨b, rfl, rfl⟩; refine ⟨_, _, rfl, rfl, ?_⟩)
    | refine chu_new rfl rfl (new_makeSliceW rfl rfl rfl (by exact rfl) (by exact rfl) (by omega) (by omega) (by omega)) ?_
    | refine sl_nil ?_
    | refine thn_k ?_
    | refine swp_ret ?_
    )
  rename_i βj βt
  exact end_retL [specB β (some ⟨βt, 0, none⟩) (some ⟨b, 0, none⟩) t t 2 2 0, blk βt (.cells ⟨(List.replicate t [Value.pointer none, i64 0, .bool false]).flatten⟩ 73 (0, 0)), objB b [(-1, 0), (-1, 0)], blk βj (.cells ⟨[i64 (-1), i64 0]⟩ 66 (0, 0))] (resOk_one (resV_tmp rfl)) ⟨β, _, _, _, _, _, rfl, rfl, mem_new rfl⟩
theorem new_3 (t : Nat) (h1 : 1 ≤ t) (h2 : t ≤ 32766) : SL.T Try.prog 9 [i64 (t : Int), i64 3] [] (NewQ t 3) := by
  have hr := repeat_3'
  unfold NewQ
  refine t_of_body Try.func9 rfl (Nat.le_of_ble_eq_true rfl) fun F => ?_
  repeat' (first
    | refine swp_seq ?_
    | (refine gk 0 rfl ?_; first | refine sl_op rfl rfl rfl (by first | exact opv_move rfl rfl | exact opv_assign rfl rfl | exact opv_pick_f rfl rfl rfl ) ?_ )
    | (refine gk 2 rfl ?_; first | refine sl_no rfl rfl rfl (by first | exact opv_lss rfl rfl rfl | exact opv_gtr rfl rfl rfl ) (by first | omega ) ?_ )
    | refine sl_region rfl ?_
    | refine sl_nil ?_
    | refine thn_k ?_
    | refine swp_false rfl ?_
    | refine swp_skip ?_
    )
  refine sl_drawC [.q [0], .an 1, .q [2], .an 3, .q [4], .rv 3, .h false 5, .rv 1, .q [6], .an 7, .rv 7, .q [8]] [] (by kernel_rfl) (by kernel_rfl) (by kernel_rfl) (by kernel_rfl) ?_
  repeat' (first
    | (refine gk 0 rfl ?_; first | refine sl_op rfl rfl rfl (by first | exact opv_move rfl rfl | exact opv_assign rfl rfl ) ?_ )
    | (refine gk 5 rfl ?_; first | refine sl_op rfl rfl rfl (by first | exact opv_build rfl rfl (by exact rfl) ) ?_ )
    | refine chu_nil ?_
    | refine chu_q rfl ?_
    | refine chu_new rfl rfl (by first | exact new_box rfl rfl rfl | exact new_buildSlice rfl rfl (by exact rfl) (by exact rfl) (by exact rfl) (by exact rfl) (by exact rfl)) ?_
    | refine chu_rv rfl rfl rfl (fun β => ?_)
    | (refine chu_T rfl rfl rfl rfl rfl rfl rfl rfl (hr _) (by rintro _ _ ⟨b, rfl, rfl⟩; exact ⟨_, rfl⟩) ?_; rintro _ _ ⟨b, rfl, rfl⟩; refine ⟨_, _, rfl, rfl, ?_⟩)
    | refine chu_new rfl rfl (new_makeSliceW rfl rfl rfl (by exact rfl) (by exact rfl) (by omega) (by omega) (by omega)) ?_
    | refine sl_nil ?_
    | refine thn_k ?_
    | refine swp_ret ?_
    )
  rename_i βj βt
  exact end_retL [specB β (some ⟨βt, 0, none⟩) (some ⟨b, 0, none⟩) t t 3 3 0, blk βt (.cells ⟨(List.replicate t [Value.pointer none, i64 0, .bool false]).flatten⟩ 73 (0, 0)), objB b [(-1, 0), (-1, 0), (-1, 0)], blk βj (.cells ⟨[i64 (-1), i64 0]⟩ 66 (0, 0))] (resOk_one (resV_tmp rfl)) ⟨β, _, _, _, _, _, rfl, rfl, mem_new rfl⟩
end Go.Proofs.Ytimmclibnfdjhaa
