/- The document's answer of layer 27: what goes where; rows that are alike. -/
import Derived.Test.YtifhhfeibnpaoaaWE
namespace Go.Proofs.Ytifhhfeibnpaoaa
open Go.SL
set_option maxRecDepth 100000
set_option maxHeartbeats 16000000
attribute [local irreducible] SL.T PFn OpV SOL SWP HOp ChU
theorem mem_nxt {cs : List Ins} {at_ t : Int} : t ∈ nxt cs at_ ↔ (0 ≤ at_ ∧ at_ < cs.length) ∧ t ∈ nextL (cs.getD at_.toNat (0, 0, 0)) at_.toNat := by
  unfold nxt
  split
  · rename_i h; exact Iff.intro (fun x => ⟨h, x⟩) (fun x => x.2)
  · rename_i h; exact Iff.intro (fun x => absurd x (by simp)) (fun x => absurd x.1 h)
theorem Goes_calls (J : Heap) (p : Value) (lo st : Int) (cb : Option Addr) (cl cc : Nat) (cs : List Ins) (at_ t : Int) [Sl J cb (flatI cs)] (hl : cs.length = cl) (hsm : cl ≤ 4000000) :
    PFn Try.prog 37 [mth p lo st cb cl cc, i64 at_, i64 t] [J] (.bool (decide (t ∈ nxt cs at_))) := by
  by_cases hat : 0 ≤ at_ ∧ at_ < cl
  · obtain ⟨k, rfl⟩ := Int.eq_ofNat_of_zero_le hat.1
    have hk : k < cl := by omega
    obtain ⟨⟨op, a, b⟩, hx⟩ : ∃ x, cs[k]? = some x := ⟨_, List.getElem?_eq_getElem (by omega)⟩
    obtain ⟨c0, c1, c2⟩ := flatI_at hx
    have c0 : (flatI cs)[((k : Nat) : Int).toNat * 3]? = some (i64 op) := c0
    have c1 : (flatI cs)[((k : Nat) : Int).toNat * 3 + 1]? = some (i64 a) := c1
    have c2 : (flatI cs)[((k : Nat) : Int).toNat * 3 + 2]? = some (i64 b) := c2
    have hfl := flatI_length cs
    have hq : ((k : Nat) : Int).toNat * 3 < (flatI cs).length := by simp; omega
    have e : (t ∈ nxt cs (k : Int)) ↔ ((op = 6 ∨ op = 7 ∨ op = 8) ∧ t = a) ∨ ((op ≠ 6 ∧ op ≠ 20) ∧ t = (k : Int) + 1) := by
      rw [nxt_yes hx, mem_nextL]; simp [jmp]
    have e2 : decide (t ∈ nxt cs (k : Int)) = decide (((op = 6 ∨ op = 7 ∨ op = 8) ∧ t = a) ∨ ((op ≠ 6 ∧ op ≠ 20) ∧ t = (k : Int) + 1)) := decide_eq_decide.2 e
    rw [e2]
    refine pure_of_body Try.func37 rfl (Nat.le_of_ble_eq_true rfl) fun F => ?_
    repeat' (first
      | refine swp_seq ?_
      | (refine gk 0 rfl ?_; first | refine sl_op rfl rfl rfl (by first | exact opv_move rfl rfl | exact opv_assign rfl rfl | exact opv_pick_t rfl rfl rfl | exact opv_pick_f rfl rfl rfl ) ?_ | refine sl_pass rfl rfl rfl rfl ?_)
      | (refine gk 1 rfl ?_; first | refine sl_op rfl rfl rfl (by first | exact opv_add64 rfl rfl rfl (by omega) (by omega) ) ?_ | refine sl_pass rfl rfl rfl rfl ?_)
      | (refine gk 2 rfl ?_; first | refine sl_pass rfl rfl rfl rfl ?_ | refine sl_no rfl rfl rfl (by first | exact opv_lss rfl rfl rfl | exact opv_geq rfl rfl rfl | exact opv_eql rfl rfl rfl ) (by first | omega ) ?_ | refine sl_if rfl rfl rfl (by first | exact opv_eql rfl rfl rfl ) (fun h => ?_) (fun h => ?_) )
      | (refine gk 3 rfl ?_; first | refine sl_op rfl rfl rfl (by first | exact opv_load rfl (by exact rfl) rfl (by exact rfl) | exact opv_fieldAddr rfl rfl | exact opv_indexAddrI rfl rfl rfl (by omega) (by omega) (by first | omega ) | exact opv_load3 rfl (by exact rfl) (by infer_instance) (by assumption) (by assumption) (by assumption)) ?_ )
      | (refine gk 4 rfl ?_; first | refine sl_op rfl rfl rfl (by first | exact opv_len rfl rfl rfl rfl rfl ) ?_)
      | (refine gk 5 rfl ?_; first | refine sl_box rfl rfl rfl rfl rfl rfl (fun β => ?_) | refine sl_alloc rfl rfl rfl rfl (by exact rfl) (fun β => ?_) | refine sl_store rfl rfl rfl rfl rfl rfl (by exact rfl) rfl (by exact rfl) ?_)
      | refine sl_region rfl ?_
      | refine sl_nil ?_
      | refine thn_k ?_
      | refine swp_true rfl ?_
      | refine swp_false rfl ?_
      | refine swp_block ?_
      | refine swp_ret ?_
      | refine swp_skip ?_
      | refine thn_ret ?_
      | refine inb_ret ?_
      )
    all_goals
      refine end_retL [J] (resOk_one (resV_tmp rfl)) ⟨?_, rfl⟩
      refine congrArg _ (congrArg Value.bool ?_)
      symm
      first | exact decide_eq_true (by omega) | exact decide_eq_false (by omega)
  · have e : decide (t ∈ nxt cs at_) = false := decide_eq_false fun h => hat (by rw [← hl]; exact (mem_nxt.1 h).1)
    rw [e]
    refine pure_of_body Try.func37 rfl (Nat.le_of_ble_eq_true rfl) fun F => ?_
    repeat' (first
      | refine swp_seq ?_
      | (refine gk 0 rfl ?_; first | refine sl_op rfl rfl rfl (by first | exact opv_move rfl rfl | exact opv_assign rfl rfl | exact opv_pick_t rfl rfl rfl | exact opv_pick_f rfl rfl rfl ) ?_ | refine sl_pass rfl rfl rfl rfl ?_)
      | (refine gk 2 rfl ?_; first | refine sl_pass rfl rfl rfl rfl ?_ | refine sl_yes rfl rfl rfl (by first | exact opv_lss rfl rfl rfl | exact opv_geq rfl rfl rfl ) (by first | omega ) ?_ | refine sl_if rfl rfl rfl (by first | exact opv_lss rfl rfl rfl ) (fun h => ?_) (fun h => ?_) )
      | (refine gk 3 rfl ?_; first | refine sl_op rfl rfl rfl (by first | exact opv_load rfl (by exact rfl) rfl (by exact rfl) | exact opv_fieldAddr rfl rfl ) ?_ | refine sl_pass rfl rfl rfl rfl ?_)
      | (refine gk 4 rfl ?_; first | refine sl_pass rfl rfl rfl rfl ?_ | refine sl_op rfl rfl rfl (by first | exact opv_len rfl rfl rfl rfl rfl ) ?_)
      | (refine gk 5 rfl ?_; first | refine sl_box rfl rfl rfl rfl rfl rfl (fun β => ?_) )
      | refine sl_region rfl ?_
      | refine sl_nil ?_
      | refine thn_k ?_
      | refine swp_true rfl ?_
      | refine swp_ret ?_
      | refine thn_ret ?_
      )
    all_goals first | (exfalso; omega) | exact end_retL [J] (resOk_one (resV_tmp rfl)) ⟨rfl, rfl⟩
theorem rSame_calls (own : List Heap) (b1 b2 : Option Addr) (n1 n2 c1 c2 : Nat) (xs ys : List Int) [s1 : SlIn own b1 (xs.map i64)] [s2 : SlIn own b2 (ys.map i64)] (h1 : xs.length = n1) (h2 : ys.length = n2) (hsm : n1 ≤ 9223372036854775807) :
    PFn Try.prog 13 [.slice b1 n1 c1, .slice b2 n2 c2] own (.bool (decide (xs = ys))) := by
  refine P_whole fun J hJ => ?_
  haveI := s1.all hJ
  haveI := s2.all hJ
  by_cases hn : n1 = n2
  · subst hn
    refine pure_of_body Try.func13 rfl (Nat.le_of_ble_eq_true rfl) fun F => ?_
    repeat' (first
      | refine swp_seq ?_
      | (refine gk 0 rfl ?_; first | refine sl_op rfl rfl rfl (by first | exact opv_move rfl rfl | exact opv_assign rfl rfl ) ?_ )
      | (refine gk 2 rfl ?_; first | refine sl_no rfl rfl rfl (by first | exact opv_neq rfl rfl rfl) (by first | omega ) ?_ )
      | (refine gk 4 rfl ?_; first | refine sl_op rfl rfl rfl (by first | exact opv_len rfl rfl rfl rfl rfl ) ?_)
      | refine sl_region rfl ?_
      | refine sl_nil ?_
      | refine thn_k ?_
      | refine swp_false rfl ?_
      | refine swp_block ?_
      | refine swp_skip ?_
      )
    refine swp_loopS (fun j : Nat => [(0, .slice b1 n1 c1), (1, .slice b2 n1 c2), (5, i64 (j : Int))])
      (fun _ => [J]) (fun j => j ≤ n1 ∧ xs.take j = ys.take j) (fun j => n1 - j) 0 (by repeat first | exact Sub.nil _ | refine Sub.cons rfl ?_) ⟨Nat.zero_le _, rfl⟩ ?_
    rintro j ⟨hj1, hj2⟩
    by_cases hj : j < n1
    · obtain ⟨x, hx⟩ : ∃ z, xs[j]? = some z := ⟨_, List.getElem?_eq_getElem (by omega)⟩
      obtain ⟨y, hy⟩ : ∃ z, ys[j]? = some z := ⟨_, List.getElem?_eq_getElem (by omega)⟩
      have hcx : (xs.map i64)[((j : Nat) : Int).toNat * 1]? = some (i64 x) := by simp [hx]
      have hcy : (ys.map i64)[((j : Nat) : Int).toNat * 1]? = some (i64 y) := by simp [hy]
      by_cases hxy : x = y
      · subst hxy
        repeat' (first
          | refine swp_seq ?_
          | (refine gk 0 rfl ?_; first | refine sl_op rfl rfl rfl (by first | exact opv_move rfl rfl | exact opv_assign rfl rfl ) ?_ )
          | (refine gk 1 rfl ?_; first | refine sl_op rfl rfl rfl (by first | exact opv_add64 rfl rfl rfl (by omega) (by omega) ) ?_ )
          | (refine gk 2 rfl ?_; first | refine sl_yes rfl rfl rfl (by first | exact opv_lss rfl rfl rfl | exact opv_neq rfl rfl rfl) (by first | omega ) ?_ | refine sl_no rfl rfl rfl (by first | exact opv_neq rfl rfl rfl) (by first | omega ) ?_ )
          | (refine gk 3 rfl ?_; first | refine sl_op rfl rfl rfl (by first | exact opv_indexAddrI rfl rfl rfl (by omega) (by omega) (by first | (simp only [List.length_map]; omega) ) | exact opv_loadEx rfl (by exact rfl) (by infer_instance) (by first | assumption ) ) ?_ )
          | (refine gk 4 rfl ?_; first | refine sl_op rfl rfl rfl (by first | exact opv_len rfl rfl rfl rfl rfl ) ?_)
          | refine sl_region rfl ?_
          | refine sl_draw (by kernel_rfl) (by kernel_rfl) rfl ?_
          | refine sl_nil ?_
          | refine thn_k ?_
          | refine swp_true rfl ?_
          | refine swp_false rfl ?_
          | refine swp_block ?_
          | refine swp_skip ?_
          )
        refine ⟨rfl, j + 1, next_ok (by repeat first | exact Sub.nil _ | refine Sub.cons rfl ?_), ⟨by omega, ?_⟩, by omega⟩
        rw [List.take_add_one, List.take_add_one, hx, hy, hj2]
      · repeat' (first
          | refine swp_seq ?_
          | (refine gk 0 rfl ?_; first | refine sl_op rfl rfl rfl (by first | exact opv_move rfl rfl | exact opv_assign rfl rfl ) ?_ )
          | (refine gk 2 rfl ?_; first | refine sl_yes rfl rfl rfl (by first | exact opv_lss rfl rfl rfl | exact opv_neq rfl rfl rfl) (by first | omega ) ?_ )
          | (refine gk 3 rfl ?_; first | refine sl_op rfl rfl rfl (by first | exact opv_indexAddrI rfl rfl rfl (by omega) (by omega) (by first | (simp only [List.length_map]; omega) ) | exact opv_loadEx rfl (by exact rfl) (by infer_instance) (by first | assumption ) ) ?_ )
          | (refine gk 4 rfl ?_; first | refine sl_op rfl rfl rfl (by first | exact opv_len rfl rfl rfl rfl rfl ) ?_)
          | refine sl_region rfl ?_
          | refine sl_draw (by kernel_rfl) (by kernel_rfl) rfl ?_
          | refine sl_nil ?_
          | refine thn_k ?_
          | refine swp_true rfl ?_
          | refine swp_block ?_
          | refine swp_ret ?_
          | refine swp_skip ?_
          | refine thn_ret ?_
          | refine inb_ret ?_
          )
        refine end_retL [J] (resOk_one (resV_tmp rfl)) ⟨?_, rfl⟩
        refine congrArg _ (congrArg Value.bool (decide_eq_false fun e => hxy ?_).symm)
        rw [e, hy] at hx; cases hx; rfl
    · repeat' (first
        | refine swp_seq ?_
        | (refine gk 0 rfl ?_; first | refine sl_op rfl rfl rfl (by first | exact opv_move rfl rfl | exact opv_assign rfl rfl ) ?_ )
        | (refine gk 2 rfl ?_; first | refine sl_no rfl rfl rfl (by first | exact opv_lss rfl rfl rfl ) (by first | omega ) ?_ )
        | (refine gk 4 rfl ?_; first | refine sl_op rfl rfl rfl (by first | exact opv_len rfl rfl rfl rfl rfl ) ?_)
        | refine sl_region rfl ?_
        | refine sl_nil ?_
        | refine thn_k ?_
        | refine swp_false rfl ?_
        | refine swp_ret ?_
        | refine swp_exit ?_
        )
      rw [List.take_of_length_le (by omega), List.take_of_length_le (by omega)] at hj2
      rw [decide_eq_true hj2]
      exact end_retL [J] (resOk_one (resV_tmp rfl)) ⟨rfl, rfl⟩
  · have e : decide (xs = ys) = false := decide_eq_false fun e => hn (by rw [← h1, ← h2, e])
    rw [e]
    refine pure_of_body Try.func13 rfl (Nat.le_of_ble_eq_true rfl) fun F => ?_
    repeat' (first
      | refine swp_seq ?_
      | (refine gk 0 rfl ?_; first | refine sl_op rfl rfl rfl (by first | exact opv_move rfl rfl | exact opv_assign rfl rfl ) ?_ )
      | (refine gk 2 rfl ?_; first | refine sl_yes rfl rfl rfl (by first | exact opv_neq rfl rfl rfl) (by first | omega ) ?_ )
      | (refine gk 4 rfl ?_; first | refine sl_op rfl rfl rfl (by first | exact opv_len rfl rfl rfl rfl rfl ) ?_)
      | refine sl_region rfl ?_
      | refine sl_nil ?_
      | refine thn_k ?_
      | refine swp_true rfl ?_
      | refine swp_ret ?_
      | refine thn_ret ?_
      )
    exact end_retL [J] (resOk_one (resV_tmp rfl)) ⟨rfl, rfl⟩
end Go.Proofs.Ytifhhfeibnpaoaa
