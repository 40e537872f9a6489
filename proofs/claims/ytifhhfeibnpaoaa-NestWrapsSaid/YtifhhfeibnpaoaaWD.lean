/- What is left out of a row. -/
import Derived.Test.YtifhhfeibnpaoaaWH
import Derived.Test.YtifhhfeibnpaoaaSlG8
namespace Go.Proofs.Ytifhhfeibnpaoaa
open Go.SL
set_option maxRecDepth 100000
set_option maxHeartbeats 16000000
attribute [local irreducible] SL.T PFn OpV SOL SWP HOp ChU
/-- Is a place within a code? -/
def inC (cl : Nat) (z : Int) : Bool := decide (0 ≤ z ∧ z < cl)
abbrev cloV (β : Nat) : Value := .func (.func 45) #[] #[.pointer (some ⟨β, 0, none⟩)]
abbrev mBlk (β : Nat) (p : Value) (lo st : Int) (cb : Option Addr) (cl cc : Nat) : Heap := blk β (.cells ⟨[p, i64 lo, i64 st, .slice cb cl cc]⟩ 32 (0, 0))
theorem clo_calls (β : Nat) (p : Value) (lo st : Int) (cb : Option Addr) (cl cc : Nat) (z : Int) : PFn Try.prog 45 [i64 z, .pointer (some ⟨β, 0, none⟩)] [mBlk β p lo st cb cl cc] (.bool (!inC cl z)) := by
  have ht := there_calls p lo st cb cl cc z
  have e : decide (0 ≤ z ∧ z < cl) = inC cl z := rfl
  rw [e] at ht
  refine pure_of_body Try.func45 rfl (Nat.le_of_ble_eq_true rfl) fun F => ?_
  repeat' (first
    | refine swp_seq ?_
    | (refine gk 0 rfl ?_; first | refine sl_op rfl rfl rfl (by first | exact opv_move rfl rfl | exact opv_assign rfl rfl | exact opv_not rfl rfl ) ?_ )
    | (refine gk 3 rfl ?_; first | refine sl_op rfl rfl rfl (by first | exact opv_loadA rfl (by exact rfl) rfl (by exact rfl) (by exact rfl) ) ?_ )
    | (refine gk 4 rfl ?_; first | refine sl_op rfl rfl rfl (opv_call rfl rfl rfl rfl rfl (ht)) ?_)
    | refine sl_region rfl ?_
    | refine sl_nil ?_
    | refine thn_k ?_
    | refine swp_ret ?_
    )
  all_goals
    refine end_retL [mBlk β p lo st cb cl cc] (resOk_one (resV_tmp rfl)) ⟨?_, rfl⟩
    simp [*]
theorem IndexFunc_calls (h : Heap) (b : Option Addr) (n c : Nat) (xs : List Int) [Sl h b (xs.map i64)] (hl : xs.length = n) (hsm : n ≤ 4000000) (β : Nat) (p : Value) (lo st : Int) (cb : Option Addr) (cl cc : Nat) :
    SL.T Try.prog 53 [.slice b n c, cloV β] [h, mBlk β p lo st cb cl cc] fun e o => o = [h, mBlk β p lo st cb cl cc] ∧
      ((∀ z ∈ xs, inC cl z = true) ∧ e = .returned (i64 (-1)) ∨ ∃ j : Nat, j < n ∧ (∀ z ∈ xs.take j, inC cl z = true) ∧ (∀ z, xs[j]? = some z → inC cl z = false) ∧ e = .returned (i64 (j : Int))) := by
  refine t_of_body Try.func53 rfl (Nat.le_of_ble_eq_true rfl) fun F => ?_
  repeat' (first
    | refine swp_seq ?_
    | (refine gk 0 rfl ?_; first | refine sl_op rfl rfl rfl (by first | exact opv_move rfl rfl | exact opv_assign rfl rfl ) ?_ )
    | (refine gk 4 rfl ?_; first | refine sl_op rfl rfl rfl (by first | exact opv_len rfl rfl rfl rfl rfl ) ?_)
    | refine sl_region rfl ?_
    | refine sl_nil ?_
    | refine thn_k ?_
    | refine swp_block ?_
    )
  refine swp_loopS (fun j : Nat => [(0, .slice b n c), (1, cloV β), (7, i64 (n : Int)), (8, i64 (j : Int))])
    (fun _ => [h, mBlk β p lo st cb cl cc]) (fun j => j ≤ n ∧ ∀ z ∈ xs.take j, inC cl z = true) (fun j => n - j) 0 (by repeat first | exact Sub.nil _ | refine Sub.cons rfl ?_) ⟨Nat.zero_le _, by simp⟩ ?_
  rintro j ⟨hj1, hj2⟩
  by_cases hj : j < n
  · obtain ⟨x, hx⟩ : ∃ z, xs[j]? = some z := ⟨_, List.getElem?_eq_getElem (by omega)⟩
    have hcx : (xs.map i64)[((j : Nat) : Int).toNat * 1]? = some (i64 x) := by simp [hx]
    have hc := clo_calls β p lo st cb cl cc x
    by_cases hxy : inC cl x = true
    · rw [hxy] at hc
      repeat' (first
        | refine swp_seq ?_
        | (refine gk 0 rfl ?_; first | refine sl_op rfl rfl rfl (by first | exact opv_move rfl rfl | exact opv_assign rfl rfl ) ?_ )
        | (refine gk 1 rfl ?_; first | refine sl_op rfl rfl rfl (by first | exact opv_add64 rfl rfl rfl (by omega) (by omega) ) ?_ )
        | (refine gk 2 rfl ?_; first | refine sl_yes rfl rfl rfl (by first | exact opv_lss rfl rfl rfl ) (by first | omega ) ?_ )
        | (refine gk 3 rfl ?_; first | refine sl_op rfl rfl rfl (by first | exact opv_indexAddrI rfl rfl rfl (by omega) (by omega) (by first | (simp only [List.length_map]; omega) ) | exact opv_loadEx rfl (by exact rfl) (by infer_instance) (by first | assumption ) ) ?_ )
        | (refine gk 4 rfl ?_; first | refine sl_op rfl rfl rfl (opv_call rfl rfl rfl rfl rfl (hc)) ?_)
        | refine sl_region rfl ?_
        | refine sl_nil ?_
        | refine thn_k ?_
        | refine swp_true rfl ?_
        | refine swp_false rfl ?_
        | refine swp_block ?_
        | refine swp_skip ?_
        )
      refine ⟨rfl, j + 1, next_ok (by repeat first | exact Sub.nil _ | refine Sub.cons rfl ?_), ⟨by omega, ?_⟩, by omega⟩
      rw [List.take_add_one, hx]
      intro z hz
      rcases List.mem_append.1 hz with hz | hz
      · exact hj2 z hz
      · simp at hz; rw [hz]; exact hxy
    · rw [Bool.not_eq_true] at hxy
      rw [hxy] at hc
      repeat' (first
        | refine swp_seq ?_
        | (refine gk 0 rfl ?_; first | refine sl_op rfl rfl rfl (by first | exact opv_move rfl rfl | exact opv_assign rfl rfl ) ?_ )
        | (refine gk 2 rfl ?_; first | refine sl_yes rfl rfl rfl (by first | exact opv_lss rfl rfl rfl ) (by first | omega ) ?_ )
        | (refine gk 3 rfl ?_; first | refine sl_op rfl rfl rfl (by first | exact opv_indexAddrI rfl rfl rfl (by omega) (by omega) (by first | (simp only [List.length_map]; omega) ) | exact opv_loadEx rfl (by exact rfl) (by infer_instance) (by first | assumption ) ) ?_ )
        | (refine gk 4 rfl ?_; first | refine sl_op rfl rfl rfl (opv_call rfl rfl rfl rfl rfl (hc)) ?_)
        | refine sl_region rfl ?_
        | refine sl_nil ?_
        | refine thn_k ?_
        | refine swp_true rfl ?_
        | refine swp_block ?_
        | refine swp_ret ?_
        | refine swp_skip ?_
        | refine thn_ret ?_
        | refine inb_ret ?_
        )
      exact end_retL [h, mBlk β p lo st cb cl cc] (resOk_one (resV_tmp rfl)) ⟨rfl, .inr ⟨j, hj, hj2, fun z hz => by rw [hx] at hz; cases hz; exact hxy, rfl⟩⟩
  · repeat' (first
      | refine swp_seq ?_
      | (refine gk 0 rfl ?_; first | refine sl_op rfl rfl rfl (by first | exact opv_assign rfl rfl ) ?_ )
      | (refine gk 2 rfl ?_; first | refine sl_no rfl rfl rfl (by first | exact opv_lss rfl rfl rfl ) (by first | omega ) ?_ )
      | refine sl_region rfl ?_
      | refine sl_nil ?_
      | refine thn_k ?_
      | refine swp_false rfl ?_
      | refine swp_ret ?_
      | refine swp_exit ?_
      )
    rw [List.take_of_length_le (by omega)] at hj2
    exact end_retL [h, mBlk β p lo st cb cl cc] (resOk_one (resV_tmp rfl)) ⟨rfl, .inl ⟨hj2, rfl⟩⟩
structure SD where
  i : Nat
  j : Nat
  h : Heap
  ys : List Int
theorem DeleteFunc_calls (h : Heap) (b : Option Addr) (n c : Nat) (xs : List Int) (os : OS h b n c 3 1 (xs.map i64)) (hsm : n ≤ 4000000) (β : Nat) (p : Value) (lo st : Int) (cb : Option Addr) (cl cc : Nat) :
    SL.T Try.prog 44 [.slice b n c, cloV β] [h, mBlk β p lo st cb cl cc] fun e o => ∃ h', e = .returned (.slice b (xs.filter (inC cl)).length c) ∧ o = [h', mBlk β p lo st cb cl cc] ∧ OS h' b (xs.filter (inC cl)).length c 3 1 ((xs.filter (inC cl)).map i64) := by
  have hl := os.len
  haveI sl := os.sl
  refine t_of_body Try.func44 rfl (Nat.le_of_ble_eq_true rfl) fun F => ?_
  repeat' (first
    | refine swp_seq ?_
    | (refine gk 0 rfl ?_; first | refine sl_op rfl rfl rfl (by first | exact opv_move rfl rfl | exact opv_assign rfl rfl ) ?_ )
    | (refine gk 2 rfl ?_; first | refine sl_yes rfl rfl rfl (by first | exact opv_eql rfl rfl rfl ) (by first | omega ) ?_ )
    | (refine gk 4 rfl ?_; first | (refine sl_callT rfl rfl rfl rfl rfl rfl rfl rfl (IndexFunc_calls h b n c xs hl hsm β p lo st cb cl cc) ?_; rintro _ _ ⟨rfl, ⟨hall, rfl⟩ | ⟨i0, hi0, hi1, hi2, rfl⟩⟩; refine ⟨_, _, rfl, rfl, ?_⟩))
    | refine sl_region rfl ?_
    | refine sl_nil ?_
    | refine thn_k ?_
    | refine swp_true rfl ?_
    | refine swp_ret ?_
    | refine thn_ret ?_
    )
  · have hf : xs.filter (inC cl) = xs := List.filter_eq_self.2 hall
    rw [hf, hl]
    exact end_retL [h, mBlk β p lo st cb cl cc] (resOk_one (resV_tmp rfl)) ⟨h, rfl, rfl, os⟩
  · refine ⟨_, _, rfl, rfl, ?_⟩
    repeat' (first
      | refine swp_seq ?_
      | (refine gk 0 rfl ?_; first | refine sl_op rfl rfl rfl (by first | exact opv_move rfl rfl | exact opv_assign rfl rfl ) ?_ )
      | (refine gk 1 rfl ?_; first | refine sl_op rfl rfl rfl (by first | exact opv_add64 rfl rfl rfl (by omega) (by omega) ) ?_ )
      | (refine gk 2 rfl ?_; first | refine sl_no rfl rfl rfl (by first | exact opv_eql rfl rfl rfl ) (by first | omega ) ?_ )
      | refine sl_region rfl ?_
      | refine sl_nil ?_
      | refine thn_k ?_
      | refine swp_false rfl ?_
      | refine swp_block ?_
      | refine swp_skip ?_
      )
    obtain ⟨x0, hx0⟩ : ∃ z, xs[i0]? = some z := ⟨_, List.getElem?_eq_getElem (by omega)⟩
    refine swp_loopS (fun s : SD => [(0, .slice b n c), (1, cloV β), (5, i64 (s.i : Int)), (6, i64 (s.j : Int))])
      (fun s => [s.h, mBlk β p lo st cb cl cc]) (fun s => s.i < s.j ∧ s.j ≤ n ∧ OS s.h b n c 3 1 (s.ys.map i64) ∧ s.ys.take s.i = (xs.take s.j).filter (inC cl) ∧ s.ys.drop s.j = xs.drop s.j)
      (fun s => n - s.j) ⟨i0, i0 + 1, h, xs⟩ (by repeat first | exact Sub.nil _ | refine Sub.cons rfl ?_) ⟨Nat.lt_succ_self _, hi0, os, ?_, rfl⟩ ?_
    · dsimp only
      rw [List.take_add_one, hx0, List.filter_append, List.filter_eq_self.2 hi1]
      simp [hi2 x0 hx0]
    clear os sl
    rintro ⟨i, j, H, ys⟩ ⟨hij, hj1, os, ht, hd⟩
    dsimp only at hij hj1 os ht hd ⊢
    have hyl := os.len
    have hle := os.hle
    haveI sl := os.sl
    by_cases hj : j < n
    · obtain ⟨x, hx⟩ : ∃ z, xs[j]? = some z := ⟨_, List.getElem?_eq_getElem (by omega)⟩
      have hy : ys[j]? = some x := by
        have := congrArg (·[0]?) hd
        simp only [List.getElem?_drop, Nat.add_zero] at this
        rw [this, hx]
      have hcy : (ys.map i64)[((j : Nat) : Int).toNat * 1]? = some (i64 x) := by simp [hy]
      have hd2 : ∀ zs : List Int, zs.drop j = xs.drop j → zs.drop (j + 1) = xs.drop (j + 1) := fun zs e => by
        have := congrArg (List.drop 1) e
        simpa [List.drop_drop, Nat.add_comm] using this
      have hc := clo_calls β p lo st cb cl cc x
      by_cases hxy : inC cl x = true
      · rw [hxy] at hc
        repeat' (first
          | refine sl_storeE rfl rfl rfl rfl rfl os rfl rfl rfl (by exact Nat.succ_pos _) (by simp; omega) (set_cells (j := i) (by simp) (by omega)) (fun h1 os1 => ?_)
          | refine swp_seq ?_
          | (refine gk 0 rfl ?_; first | refine sl_op rfl rfl rfl (by first | exact opv_move rfl rfl | exact opv_assign rfl rfl | exact opv_not_f rfl rfl ) ?_ )
          | (refine gk 1 rfl ?_; first | refine sl_op rfl rfl rfl (by first | exact opv_add64 rfl rfl rfl (by omega) (by omega) ) ?_ )
          | (refine gk 2 rfl ?_; first | refine sl_yes rfl rfl rfl (by first | exact opv_lss rfl rfl rfl ) (by first | omega ) ?_ )
          | (refine gk 3 rfl ?_; first | refine sl_op rfl rfl rfl (by first | exact opv_indexAddrI rfl rfl rfl (by omega) (by omega) (by first | (simp only [List.length_map]; omega) ) | exact opv_loadEx rfl (by exact rfl) (by infer_instance) (by first | assumption ) ) ?_ )
          | (refine gk 4 rfl ?_; first | refine sl_op rfl rfl rfl (by first | exact opv_len rfl rfl rfl rfl rfl ) ?_ | refine sl_op rfl rfl rfl (opv_call rfl rfl rfl rfl rfl (hc)) ?_)
          | refine sl_region rfl ?_
          | refine sl_nil ?_
          | refine thn_k ?_
          | refine swp_true rfl ?_
          | refine swp_block ?_
          | refine swp_skip ?_
          )
        refine ⟨rfl, ⟨i + 1, j + 1, h1, ys.set i x⟩, next_ok (by repeat first | exact Sub.nil _ | refine Sub.cons rfl ?_), ⟨by dsimp only; omega, by dsimp only; omega, os1, ?_, ?_⟩, by dsimp only; omega⟩
        · dsimp only
          rw [List.take_add_one (l := xs), hx, List.filter_append, ← ht, List.take_add_one, List.getElem?_set, if_pos rfl, if_pos (by omega), List.take_set_of_le (Nat.le_refl _)]
          simp [hxy]
        · refine hd2 _ ?_
          rw [List.drop_set_of_lt hij]; exact hd
      · rw [Bool.not_eq_true] at hxy
        rw [hxy] at hc
        repeat' (first
          | refine swp_seq ?_
          | (refine gk 0 rfl ?_; first | refine sl_op rfl rfl rfl (by first | exact opv_move rfl rfl | exact opv_assign rfl rfl | exact opv_not_t rfl rfl ) ?_ )
          | (refine gk 1 rfl ?_; first | refine sl_op rfl rfl rfl (by first | exact opv_add64 rfl rfl rfl (by omega) (by omega) ) ?_ )
          | (refine gk 2 rfl ?_; first | refine sl_yes rfl rfl rfl (by first | exact opv_lss rfl rfl rfl ) (by first | omega ) ?_ )
          | (refine gk 3 rfl ?_; first | refine sl_op rfl rfl rfl (by first | exact opv_indexAddrI rfl rfl rfl (by omega) (by omega) (by first | (simp only [List.length_map]; omega) ) | exact opv_loadEx rfl (by exact rfl) (by infer_instance) (by first | assumption ) ) ?_ )
          | (refine gk 4 rfl ?_; first | refine sl_op rfl rfl rfl (by first | exact opv_len rfl rfl rfl rfl rfl ) ?_ | refine sl_op rfl rfl rfl (opv_call rfl rfl rfl rfl rfl (hc)) ?_)
          | refine sl_region rfl ?_
          | refine sl_nil ?_
          | refine thn_k ?_
          | refine swp_true rfl ?_
          | refine swp_false rfl ?_
          | refine swp_block ?_
          | refine swp_skip ?_
          )
        refine ⟨rfl, ⟨i, j + 1, H, ys⟩, next_ok (by repeat first | exact Sub.nil _ | refine Sub.cons rfl ?_), ⟨by dsimp only; omega, by dsimp only; omega, os, ?_, hd2 _ hd⟩, by dsimp only; omega⟩
        dsimp only
        rw [List.take_add_one, hx, List.filter_append, ← ht]
        simp [hxy]
    · obtain rfl : j = n := by omega
      have hxt : xs.take j = xs := List.take_of_length_le (by omega)
      rw [hxt] at ht
      have hfl : (xs.filter (inC cl)).length = i := by rw [← ht, List.length_take]; omega
      repeat' (first
        | refine swp_seq ?_
        | (refine gk 0 rfl ?_; first | refine sl_op rfl rfl rfl (by first | exact opv_move rfl rfl ) ?_ )
        | (refine gk 2 rfl ?_; first | refine sl_no rfl rfl rfl (by first | exact opv_lss rfl rfl rfl ) (by first | omega ) ?_ )
        | (refine gk 4 rfl ?_; first | refine sl_op rfl rfl rfl (by first | exact opv_len rfl rfl rfl rfl rfl ) ?_)
        | (refine gk 5 rfl ?_; first | refine sl_op rfl rfl rfl (by first | exact opv_sliceLo rfl rfl rfl (by omega) (by omega) ) ?_ )
        | refine sl_region rfl ?_
        | refine sl_nil ?_
        | refine thn_k ?_
        | refine swp_false rfl ?_
        | refine swp_exit ?_
        )
      refine sl_clear rfl rfl rfl rfl rfl rfl os (i := i) rfl rfl rfl (by omega) (fun h1 os1 => ?_)
      repeat' (first
        | refine swp_seq ?_
        | (refine gk 0 rfl ?_; first | refine sl_op rfl rfl rfl (by first | exact opv_move rfl rfl | exact opv_assign rfl rfl ) ?_ )
        | (refine gk 5 rfl ?_; first | refine sl_op rfl rfl rfl (by first | exact opv_sliceHi rfl rfl rfl (by omega) (by omega) ) ?_ )
        | refine sl_region rfl ?_
        | refine sl_nil ?_
        | refine thn_k ?_
        | refine swp_ret ?_
        )
      rw [hfl]
      rw [← List.map_take, ht] at os1
      exact end_retL [h1, mBlk β p lo st cb cl cc] (resOk_one (resV_tmp rfl)) ⟨h1, rfl, rfl, os1⟩
end Go.Proofs.Ytifhhfeibnpaoaa
