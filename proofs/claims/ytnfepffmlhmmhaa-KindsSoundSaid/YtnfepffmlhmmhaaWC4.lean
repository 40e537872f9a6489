/- What an instruction makes of a frame: pieces. -/
import Derived.Test.YtnfepffmlhmmhaaWC3
namespace Go.Proofs.Ytnfepffmlhmmhaa
open Go.SL
set_option maxRecDepth 100000
set_option maxHeartbeats 16000000
attribute [local irreducible] SL.T PFn OpV SOL SWP HOp ChU RowC
abbrev fnV (f : FuncId) : Value := .func (.func f) #[] #[]
def fitsB (xs ys : List Int) : Prop := xs.length = ys.length ∧ ∀ (i : Nat) (x y : Int), xs[i]? = some x → ys[i]? = some y → fitsP x y
theorem EqualFunc_calls (own : List Heap) (b1 b2 : Option Addr) (n1 n2 c1 c2 : Nat) (xs ys : List Int) [SlIn own b1 (xs.map i64)] [SlIn own b2 (ys.map i64)] (h1 : xs.length = n1) (h2 : ys.length = n2) (hsm : n1 ≤ 9223372036854775807) :
    ∃ b : Bool, (b = true ↔ fitsB xs ys) ∧ PFn Try.prog 20 [.slice b1 n1 c1, .slice b2 n2 c2, fnV 21] own (.bool b) := by
  by_cases hf : fitsB xs ys
  · refine ⟨true, by simp [hf], ?_⟩
    obtain ⟨hl, hp⟩ := hf
    obtain rfl : n1 = n2 := by omega
    refine pure_of_body Try.func20 rfl (Nat.le_of_ble_eq_true rfl) fun F => ?_
    repeat' (first
      | refine swp_seq ?_
      | (refine gk 0 rfl ?_; first | refine sl_op rfl rfl rfl (by first | exact opv_move rfl rfl | exact opv_assign rfl rfl ) ?_ )
      | (refine gk 2 rfl ?_; first | refine sl_no rfl rfl rfl (by first | exact opv_neq rfl rfl rfl) (by first | omega ) ?_ )
      | (refine gk 4 rfl ?_; first | refine sl_op rfl rfl rfl (by first | exact opv_len rfl rfl rfl rfl rfl ) ?_)
      | refine sl_region rfl ?_
      | refine sl_nil ?_
      | refine thn_k ?_
      | refine swp_false rfl ?_
      | refine swp_block ?_
      | refine swp_skip ?_
      )
    refine swp_loopS (fun j : Nat => [(1, .slice b2 n1 c2), (2, fnV 21), (15, .slice b1 n1 c1), (16, i64 (n1 : Int)), (17, i64 (j : Int))])
      (fun _ => own) (fun j => j ≤ n1) (fun j => n1 - j) 0 (by repeat first | exact Sub.nil _ | refine Sub.cons rfl ?_) (Nat.zero_le _) ?_
    rintro j hj1
    by_cases hj : j < n1
    · obtain ⟨x, hx⟩ : ∃ z, xs[j]? = some z := ⟨_, List.getElem?_eq_getElem (by omega)⟩
      obtain ⟨y, hy⟩ : ∃ z, ys[j]? = some z := ⟨_, List.getElem?_eq_getElem (by omega)⟩
      have hcx : (xs.map i64)[((j : Nat) : Int).toNat * 1]? = some (i64 x) := by simp [hx]
      have hcy : (ys.map i64)[((j : Nat) : Int).toNat * 1]? = some (i64 y) := by simp [hy]
      have hfc := (fits_calls own x y).to (congrArg Value.bool (decide_eq_true (hp j x y hx hy)))
      repeat' (first
        | refine swp_seq ?_
        | (refine gk 0 rfl ?_; first | refine sl_op rfl rfl rfl (by first | exact opv_move rfl rfl | exact opv_assign rfl rfl | exact opv_not_t rfl rfl ) ?_ )
        | (refine gk 1 rfl ?_; first | refine sl_op rfl rfl rfl (by first | exact opv_add64 rfl rfl rfl (by omega) (by omega) ) ?_ )
        | (refine gk 2 rfl ?_; first | refine sl_yes rfl rfl rfl (by first | exact opv_lss rfl rfl rfl ) (by first | omega ) ?_ )
        | (refine gk 3 rfl ?_; first | refine sl_op rfl rfl rfl (by first | exact opv_indexAddrI rfl rfl rfl (by omega) (by omega) (by first | (simp only [List.length_map]; omega) ) | exact opv_loadEx rfl (by exact rfl) (by infer_instance) (by first | assumption ) ) ?_ )
        | (refine gk 4 rfl ?_; first | refine sl_op rfl rfl rfl (opv_callW rfl rfl rfl rfl rfl (hfc)) ?_)
        | refine sl_region rfl ?_
        | refine sl_nil ?_
        | refine thn_k ?_
        | refine swp_true rfl ?_
        | refine swp_false rfl ?_
        | refine swp_block ?_
        | refine swp_skip ?_
        )
      exact ⟨rfl, j + 1, next_ok (by repeat first | exact Sub.nil _ | refine Sub.cons rfl ?_), by omega, by omega⟩
    · repeat' (first
        | refine swp_seq ?_
        | (refine gk 0 rfl ?_; first | refine sl_op rfl rfl rfl (by first | exact opv_assign rfl rfl ) ?_ )
        | (refine gk 2 rfl ?_; first | refine sl_no rfl rfl rfl (by first | exact opv_lss rfl rfl rfl ) (by first | omega ) ?_ )
        | refine sl_region rfl ?_
        | refine sl_nil ?_
        | refine thn_k ?_
        | refine swp_false rfl ?_
        | refine swp_ret ?_
        | refine swp_exit ?_
        )
      refine end_pure (resOk_one (resV_tmp rfl)) ?_
      rfl
  · refine ⟨false, by simp [hf], ?_⟩
    refine pure_of_body Try.func20 rfl (Nat.le_of_ble_eq_true rfl) fun F => ?_
    by_cases hn : n1 = n2
    · subst hn
      have hex : ∃ (k : Nat) (x y : Int), xs[k]? = some x ∧ ys[k]? = some y ∧ ¬ fitsP x y := by
        apply Classical.byContradiction
        intro hno
        exact hf ⟨by omega, fun i x y hx hy => Classical.byContradiction fun hne => hno ⟨i, x, y, hx, hy, hne⟩⟩
      obtain ⟨k, x0, y0, hx0, hy0, hne0⟩ := hex
      have hk : k < n1 := by rw [← h1]; exact (List.getElem?_eq_some_iff.1 hx0).1
      repeat' (first
        | refine swp_seq ?_
        | (refine gk 0 rfl ?_; first | refine sl_op rfl rfl rfl (by first | exact opv_move rfl rfl | exact opv_assign rfl rfl ) ?_ )
        | (refine gk 2 rfl ?_; first | refine sl_no rfl rfl rfl (by first | exact opv_neq rfl rfl rfl) (by first | omega ) ?_ )
        | (refine gk 4 rfl ?_; first | refine sl_op rfl rfl rfl (by first | exact opv_len rfl rfl rfl rfl rfl ) ?_)
        | refine sl_region rfl ?_
        | refine sl_nil ?_
        | refine thn_k ?_
        | refine swp_false rfl ?_
        | refine swp_block ?_
        | refine swp_skip ?_
        )
      refine swp_loopS (fun j : Nat => [(1, .slice b2 n1 c2), (2, fnV 21), (15, .slice b1 n1 c1), (16, i64 (n1 : Int)), (17, i64 (j : Int))])
        (fun _ => own) (fun j => j ≤ k) (fun j => n1 - j) 0 (by repeat first | exact Sub.nil _ | refine Sub.cons rfl ?_) (Nat.zero_le _) ?_
      rintro j hj1
      obtain ⟨x, hx⟩ : ∃ z, xs[j]? = some z := ⟨_, List.getElem?_eq_getElem (by omega)⟩
      obtain ⟨y, hy⟩ : ∃ z, ys[j]? = some z := ⟨_, List.getElem?_eq_getElem (by omega)⟩
      have hcx : (xs.map i64)[((j : Nat) : Int).toNat * 1]? = some (i64 x) := by simp [hx]
      have hcy : (ys.map i64)[((j : Nat) : Int).toNat * 1]? = some (i64 y) := by simp [hy]
      by_cases hxy : fitsP x y
      · have hfc := (fits_calls own x y).to (congrArg Value.bool (decide_eq_true hxy))
        have hjk : j ≠ k := fun e => by
          subst e; rw [hx] at hx0; rw [hy] at hy0; cases hx0; cases hy0; exact hne0 hxy
        repeat' (first
          | refine swp_seq ?_
          | (refine gk 0 rfl ?_; first | refine sl_op rfl rfl rfl (by first | exact opv_move rfl rfl | exact opv_assign rfl rfl | exact opv_not_t rfl rfl ) ?_ )
          | (refine gk 1 rfl ?_; first | refine sl_op rfl rfl rfl (by first | exact opv_add64 rfl rfl rfl (by omega) (by omega) ) ?_ )
          | (refine gk 2 rfl ?_; first | refine sl_yes rfl rfl rfl (by first | exact opv_lss rfl rfl rfl ) (by first | omega ) ?_ )
          | (refine gk 3 rfl ?_; first | refine sl_op rfl rfl rfl (by first | exact opv_indexAddrI rfl rfl rfl (by omega) (by omega) (by first | (simp only [List.length_map]; omega) ) | exact opv_loadEx rfl (by exact rfl) (by infer_instance) (by first | assumption ) ) ?_ )
          | (refine gk 4 rfl ?_; first | refine sl_op rfl rfl rfl (opv_callW rfl rfl rfl rfl rfl (hfc)) ?_)
          | refine sl_region rfl ?_
          | refine sl_nil ?_
          | refine thn_k ?_
          | refine swp_true rfl ?_
          | refine swp_false rfl ?_
          | refine swp_block ?_
          | refine swp_skip ?_
          )
        exact ⟨rfl, j + 1, next_ok (by repeat first | exact Sub.nil _ | refine Sub.cons rfl ?_), by omega, by omega⟩
      · have hfc := (fits_calls own x y).to (congrArg Value.bool (decide_eq_false hxy))
        repeat' (first
          | refine swp_seq ?_
          | (refine gk 0 rfl ?_; first | refine sl_op rfl rfl rfl (by first | exact opv_move rfl rfl | exact opv_assign rfl rfl | exact opv_not_f rfl rfl ) ?_ )
          | (refine gk 2 rfl ?_; first | refine sl_yes rfl rfl rfl (by first | exact opv_lss rfl rfl rfl ) (by first | omega ) ?_ )
          | (refine gk 3 rfl ?_; first | refine sl_op rfl rfl rfl (by first | exact opv_indexAddrI rfl rfl rfl (by omega) (by omega) (by first | (simp only [List.length_map]; omega) ) | exact opv_loadEx rfl (by exact rfl) (by infer_instance) (by first | assumption ) ) ?_ )
          | (refine gk 4 rfl ?_; first | refine sl_op rfl rfl rfl (opv_callW rfl rfl rfl rfl rfl (hfc)) ?_)
          | refine sl_region rfl ?_
          | refine sl_nil ?_
          | refine thn_k ?_
          | refine swp_true rfl ?_
          | refine swp_block ?_
          | refine swp_ret ?_
          | refine swp_skip ?_
          | refine thn_ret ?_
          | refine inb_ret ?_
          )
        refine end_pure (resOk_one (resV_tmp rfl)) ?_
        rfl
    · repeat' (first
        | refine swp_seq ?_
        | (refine gk 0 rfl ?_; first | refine sl_op rfl rfl rfl (by first | exact opv_move rfl rfl | exact opv_assign rfl rfl ) ?_ )
        | (refine gk 2 rfl ?_; first | refine sl_yes rfl rfl rfl (by first | exact opv_neq rfl rfl rfl) (by first | omega ) ?_ )
        | (refine gk 4 rfl ?_; first | refine sl_op rfl rfl rfl (by first | exact opv_len rfl rfl rfl rfl rfl ) ?_)
        | refine sl_region rfl ?_
        | refine sl_nil ?_
        | refine thn_k ?_
        | refine swp_true rfl ?_
        | refine swp_ret ?_
        | refine thn_ret ?_
        )
      refine end_pure (resOk_one (resV_tmp rfl)) ?_
      rfl
end Go.Proofs.Ytnfepffmlhmmhaa
