/- The reference's functions of chapter 1, walked. -/
import Derived.Test.YthhlgaaamfeohaaSlN
import Derived.Test.YthhlgaaamfeohaaSlM
import Derived.Test.YthhlgaaamfeohaaWT1
namespace Go.Proofs.Ythhlgaaamfeohaa
open Go.SL
set_option maxRecDepth 100000
set_option maxHeartbeats 16000000
attribute [local irreducible] T PFn OpV SOL SWP HOp
theorem bit_is (w : Nat) (i : Int) (hw : w < 2 ^ 64) (hi : 0 ≤ i) : bitsOp .and .u64 (shr .u64 (w : Int) i) 1 = 1 ↔ w.testBit i.toNat = true := by
  obtain ⟨k, rfl⟩ := Int.eq_ofNat_of_zero_le hi
  rw [show ((1 : Int)) = ((1 : Nat) : Int) from rfl, shr_nat k hw, and_nat (Nat.lt_of_le_of_lt (Nat.shiftRight_le _ _) hw) (by decide)]
  rw [Int.toNat_natCast, Nat.testBit, Nat.and_comm 1]
  have : w >>> k &&& 1 < 2 := Nat.lt_succ_of_le Nat.and_le_right
  simp only [bne_iff_ne, ne_eq]
  omega
theorem refMay_calls (a b : Int) : PFn Try.prog 13 [i64 a, i64 b] [] (.bool (decide (May a b))) := by
  refine pure_of_body Try.func13 rfl (Nat.le_of_ble_eq_true rfl) fun F => ?_
  repeat' (first
    | refine swp_seq ?_
    | (refine gk 0 rfl ?_; first | refine sl_op rfl rfl rfl (by first | exact opv_move rfl rfl | exact opv_assign rfl rfl | exact opv_pick_t rfl rfl rfl | exact opv_pick_f rfl rfl rfl | exact opv_not_t rfl rfl | exact opv_not_f rfl rfl | exact opv_not rfl rfl | exact opv_extract rfl rfl rfl | exact opv_makeFunc rfl rfl rfl) ?_ | refine sl_bool rfl rfl rfl (by first | exact opv_move rfl rfl | exact opv_assign rfl rfl | exact opv_pick_t rfl rfl rfl | exact opv_pick_f rfl rfl rfl | exact opv_not_t rfl rfl | exact opv_not_f rfl rfl | exact opv_not rfl rfl | exact opv_extract rfl rfl rfl | exact opv_makeFunc rfl rfl rfl) (fun h => ?_) (fun h => ?_) | refine sl_pass rfl rfl rfl rfl ?_)
    | (refine gk 1 rfl ?_; first | refine sl_op rfl rfl rfl (by first | exact opv_add64 rfl rfl rfl (by omega) (by omega) | exact opv_sub64 rfl rfl rfl (by omega) (by omega) | exact opv_add rfl rfl rfl | exact opv_sub rfl rfl rfl | exact opv_mul rfl rfl rfl | exact opv_rem rfl rfl rfl (by omega) | exact opv_quo rfl rfl rfl (by omega) | exact opv_shl rfl rfl rfl (by omega) | exact opv_shr rfl rfl rfl (by omega) | exact opv_bits rfl rfl rfl (by decide)) ?_ | refine sl_pass rfl rfl rfl rfl ?_)
    | (refine gk 2 rfl ?_; first | refine sl_pass rfl rfl rfl rfl ?_ | refine sl_yes rfl rfl rfl (by first | exact opv_lss rfl rfl rfl | exact opv_leq rfl rfl rfl | exact opv_gtr rfl rfl rfl | exact opv_geq rfl rfl rfl | exact opv_eql rfl rfl rfl | exact opv_neq rfl rfl rfl) (by first | omega | decide +kernel) ?_ | refine sl_no rfl rfl rfl (by first | exact opv_lss rfl rfl rfl | exact opv_leq rfl rfl rfl | exact opv_gtr rfl rfl rfl | exact opv_geq rfl rfl rfl | exact opv_eql rfl rfl rfl | exact opv_neq rfl rfl rfl) (by first | omega | decide +kernel) ?_ | refine sl_if rfl rfl rfl (by first | exact opv_lss rfl rfl rfl | exact opv_leq rfl rfl rfl | exact opv_gtr rfl rfl rfl | exact opv_geq rfl rfl rfl | exact opv_eql rfl rfl rfl | exact opv_neq rfl rfl rfl) (fun h => ?_) (fun h => ?_) | refine sl_tt rfl rfl rfl (by first | exact opv_eqlB Try.underlying4 rfl rfl rfl | exact opv_neqB Try.underlying4 rfl rfl rfl | exact opv_eqlS rfl rfl rfl rfl | exact opv_neqS rfl rfl rfl rfl) (by first | rfl | assumption) ?_ | refine sl_ff rfl rfl rfl (by first | exact opv_eqlB Try.underlying4 rfl rfl rfl | exact opv_neqB Try.underlying4 rfl rfl rfl | exact opv_eqlS rfl rfl rfl rfl | exact opv_neqS rfl rfl rfl rfl) (by first | rfl | assumption) ?_ | refine sl_bool rfl rfl rfl (by first | exact opv_eqlB Try.underlying4 rfl rfl rfl | exact opv_neqB Try.underlying4 rfl rfl rfl | exact opv_eqlS rfl rfl rfl rfl | exact opv_neqS rfl rfl rfl rfl) (fun h => ?_) (fun h => ?_))
    | (refine gk 3 rfl ?_; first | refine sl_op rfl rfl rfl (by first | exact opv_load rfl (by exact rfl) rfl (by exact rfl) | exact opv_fieldAddr rfl rfl | exact opv_loadA rfl (by exact rfl) rfl (by exact rfl) (by exact rfl) | exact opv_indexAddrI rfl rfl rfl (by omega) (by omega) (by first | omega | (simp only [List.length_map]; omega) | (simp only [List.length_cons, List.length_nil]; omega)) | exact opv_index rfl rfl rfl (by omega) (by omega) (by first | assumption | exact rfl) | exact opv_indexA rfl rfl rfl (by omega) (by omega) (by first | assumption | exact rfl) | exact opv_indexAddrR rfl rfl rfl (by omega) (by omega) | exact opv_fieldAddrE rfl rfl (by first | assumption | omega) | exact opv_loadELx rfl (by exact rfl) (by infer_instance) rfl rfl rfl | exact opv_loadEx rfl (by exact rfl) (by infer_instance) (by first | assumption | exact rfl) | exact opv_load2 rfl (by exact rfl) (by infer_instance) (by assumption) (by assumption)) ?_ | refine sl_pass rfl rfl rfl rfl ?_)
    | (refine gk 4 rfl ?_; first | refine sl_pass rfl rfl rfl rfl ?_ | refine sl_op rfl rfl rfl (by first | exact opv_len rfl rfl rfl rfl rfl | exact opv_min rfl rfl rfl rfl rfl) ?_)
    | (refine gk 5 rfl ?_; first | refine sl_op rfl rfl rfl (by first | exact opv_build rfl rfl (by exact rfl) | exact opv_convert rfl rfl | exact opv_sliceHi rfl rfl rfl (by omega) (by omega)) ?_ | refine sl_pass rfl rfl rfl rfl ?_ | refine sl_buildSlice rfl rfl rfl rfl rfl (by exact rfl) (by exact rfl) (by exact rfl) (by exact rfl) rfl (fun b => ?_) | refine sl_box rfl rfl rfl rfl rfl rfl (fun β => ?_) | refine sl_alloc rfl rfl rfl rfl (by exact rfl) (fun β => ?_) | refine sl_store rfl rfl rfl rfl rfl rfl (by exact rfl) rfl (by exact rfl) ?_)
    | refine sl_region rfl ?_
    | refine sl_draw (by kernel_rfl) (by kernel_rfl) rfl ?_
    | refine sl_nil ?_
    | refine thn_k ?_
    | refine swp_true rfl ?_
    | refine swp_false rfl ?_
    | refine swp_block ?_
    | refine swp_ret ?_
    | refine swp_exit ?_
    | refine swp_skip ?_
    | refine thn_ret ?_
    | refine inb_ret ?_
    | refine inb_k ?_
    | refine thn_exit ?_
    | refine inb_exit ?_
    | refine inb_out rfl ?_)
  all_goals
    refine end_pure (resOk_one (resV_tmp rfl)) ?_
    refine congrArg Value.bool ?_
    symm
    first | exact decide_eq_true (by omega) | exact decide_eq_false (by omega)
theorem refBit_calls (w : Nat) (i : Int) (hw : w < 2 ^ 64) (hi : 0 ≤ i) : PFn Try.prog 23 [u64 w, i64 i] [] (.bool (w.testBit i.toNat)) := by
  refine pure_of_body Try.func23 rfl (Nat.le_of_ble_eq_true rfl) fun F => ?_
  repeat' (first
    | refine swp_seq ?_
    | (refine gk 0 rfl ?_; first | refine sl_op rfl rfl rfl (by first | exact opv_move rfl rfl | exact opv_assign rfl rfl | exact opv_pick_t rfl rfl rfl | exact opv_pick_f rfl rfl rfl | exact opv_not_t rfl rfl | exact opv_not_f rfl rfl | exact opv_not rfl rfl | exact opv_extract rfl rfl rfl | exact opv_makeFunc rfl rfl rfl) ?_ | refine sl_bool rfl rfl rfl (by first | exact opv_move rfl rfl | exact opv_assign rfl rfl | exact opv_pick_t rfl rfl rfl | exact opv_pick_f rfl rfl rfl | exact opv_not_t rfl rfl | exact opv_not_f rfl rfl | exact opv_not rfl rfl | exact opv_extract rfl rfl rfl | exact opv_makeFunc rfl rfl rfl) (fun h => ?_) (fun h => ?_) | refine sl_pass rfl rfl rfl rfl ?_)
    | (refine gk 1 rfl ?_; first | refine sl_op rfl rfl rfl (by first | exact opv_add64 rfl rfl rfl (by omega) (by omega) | exact opv_sub64 rfl rfl rfl (by omega) (by omega) | exact opv_add rfl rfl rfl | exact opv_sub rfl rfl rfl | exact opv_mul rfl rfl rfl | exact opv_rem rfl rfl rfl (by omega) | exact opv_quo rfl rfl rfl (by omega) | exact opv_shl rfl rfl rfl (by omega) | exact opv_shr rfl rfl rfl (by omega) | exact opv_bits rfl rfl rfl (by decide)) ?_ | refine sl_pass rfl rfl rfl rfl ?_)
    | (refine gk 2 rfl ?_; first | refine sl_pass rfl rfl rfl rfl ?_ | refine sl_yes rfl rfl rfl (by first | exact opv_lss rfl rfl rfl | exact opv_leq rfl rfl rfl | exact opv_gtr rfl rfl rfl | exact opv_geq rfl rfl rfl | exact opv_eql rfl rfl rfl | exact opv_neq rfl rfl rfl) (by first | omega | decide +kernel) ?_ | refine sl_no rfl rfl rfl (by first | exact opv_lss rfl rfl rfl | exact opv_leq rfl rfl rfl | exact opv_gtr rfl rfl rfl | exact opv_geq rfl rfl rfl | exact opv_eql rfl rfl rfl | exact opv_neq rfl rfl rfl) (by first | omega | decide +kernel) ?_ | refine sl_if rfl rfl rfl (by first | exact opv_lss rfl rfl rfl | exact opv_leq rfl rfl rfl | exact opv_gtr rfl rfl rfl | exact opv_geq rfl rfl rfl | exact opv_eql rfl rfl rfl | exact opv_neq rfl rfl rfl) (fun h => ?_) (fun h => ?_) | refine sl_tt rfl rfl rfl (by first | exact opv_eqlB Try.underlying4 rfl rfl rfl | exact opv_neqB Try.underlying4 rfl rfl rfl | exact opv_eqlS rfl rfl rfl rfl | exact opv_neqS rfl rfl rfl rfl) (by first | rfl | assumption) ?_ | refine sl_ff rfl rfl rfl (by first | exact opv_eqlB Try.underlying4 rfl rfl rfl | exact opv_neqB Try.underlying4 rfl rfl rfl | exact opv_eqlS rfl rfl rfl rfl | exact opv_neqS rfl rfl rfl rfl) (by first | rfl | assumption) ?_ | refine sl_bool rfl rfl rfl (by first | exact opv_eqlB Try.underlying4 rfl rfl rfl | exact opv_neqB Try.underlying4 rfl rfl rfl | exact opv_eqlS rfl rfl rfl rfl | exact opv_neqS rfl rfl rfl rfl) (fun h => ?_) (fun h => ?_))
    | (refine gk 3 rfl ?_; first | refine sl_op rfl rfl rfl (by first | exact opv_load rfl (by exact rfl) rfl (by exact rfl) | exact opv_fieldAddr rfl rfl | exact opv_loadA rfl (by exact rfl) rfl (by exact rfl) (by exact rfl) | exact opv_indexAddrI rfl rfl rfl (by omega) (by omega) (by first | omega | (simp only [List.length_map]; omega) | (simp only [List.length_cons, List.length_nil]; omega)) | exact opv_index rfl rfl rfl (by omega) (by omega) (by first | assumption | exact rfl) | exact opv_indexA rfl rfl rfl (by omega) (by omega) (by first | assumption | exact rfl) | exact opv_indexAddrR rfl rfl rfl (by omega) (by omega) | exact opv_fieldAddrE rfl rfl (by first | assumption | omega) | exact opv_loadELx rfl (by exact rfl) (by infer_instance) rfl rfl rfl | exact opv_loadEx rfl (by exact rfl) (by infer_instance) (by first | assumption | exact rfl) | exact opv_load2 rfl (by exact rfl) (by infer_instance) (by assumption) (by assumption)) ?_ | refine sl_pass rfl rfl rfl rfl ?_)
    | (refine gk 4 rfl ?_; first | refine sl_pass rfl rfl rfl rfl ?_ | refine sl_op rfl rfl rfl (by first | exact opv_len rfl rfl rfl rfl rfl | exact opv_min rfl rfl rfl rfl rfl) ?_)
    | (refine gk 5 rfl ?_; first | refine sl_op rfl rfl rfl (by first | exact opv_build rfl rfl (by exact rfl) | exact opv_convert rfl rfl | exact opv_sliceHi rfl rfl rfl (by omega) (by omega)) ?_ | refine sl_pass rfl rfl rfl rfl ?_ | refine sl_buildSlice rfl rfl rfl rfl rfl (by exact rfl) (by exact rfl) (by exact rfl) (by exact rfl) rfl (fun b => ?_) | refine sl_box rfl rfl rfl rfl rfl rfl (fun β => ?_) | refine sl_alloc rfl rfl rfl rfl (by exact rfl) (fun β => ?_) | refine sl_store rfl rfl rfl rfl rfl rfl (by exact rfl) rfl (by exact rfl) ?_)
    | refine sl_region rfl ?_
    | refine sl_draw (by kernel_rfl) (by kernel_rfl) rfl ?_
    | refine sl_nil ?_
    | refine thn_k ?_
    | refine swp_true rfl ?_
    | refine swp_false rfl ?_
    | refine swp_block ?_
    | refine swp_ret ?_
    | refine swp_exit ?_
    | refine swp_skip ?_
    | refine thn_ret ?_
    | refine inb_ret ?_
    | refine inb_k ?_
    | refine thn_exit ?_
    | refine inb_exit ?_
    | refine inb_out rfl ?_)
  all_goals
    refine end_pure (resOk_one (resV_tmp rfl)) ?_
    refine congrArg Value.bool ?_
    symm
    rw [bit_is w i hw hi] at h
    first | exact h | exact Bool.eq_false_iff.2 h
/-- What a field of a word has. -/
def ofN (a b w : Nat) : Nat := (w >>> a) % 2 ^ b
structure S18 where
  i : Int
  n : Int
theorem refOf_calls (a b w : Nat) (hw : w < 2 ^ 64) (hb : 1 ≤ b) (hab : a + b ≤ 64) : PFn Try.prog 18 [i64 a, i64 b, u64 w] [] (u64 (ofN a b w)) := by
  refine pure_of_body Try.func18 rfl (Nat.le_of_ble_eq_true rfl) fun F => ?_
  repeat' (first
    | refine swp_seq ?_
    | (refine gk 0 rfl ?_; first | refine sl_op rfl rfl rfl (by first | exact opv_move rfl rfl | exact opv_assign rfl rfl | exact opv_pick_t rfl rfl rfl | exact opv_pick_f rfl rfl rfl | exact opv_not_t rfl rfl | exact opv_not_f rfl rfl | exact opv_not rfl rfl | exact opv_extract rfl rfl rfl | exact opv_makeFunc rfl rfl rfl) ?_ | refine sl_bool rfl rfl rfl (by first | exact opv_move rfl rfl | exact opv_assign rfl rfl | exact opv_pick_t rfl rfl rfl | exact opv_pick_f rfl rfl rfl | exact opv_not_t rfl rfl | exact opv_not_f rfl rfl | exact opv_not rfl rfl | exact opv_extract rfl rfl rfl | exact opv_makeFunc rfl rfl rfl) (fun h => ?_) (fun h => ?_) | refine sl_pass rfl rfl rfl rfl ?_)
    | (refine gk 1 rfl ?_; first | refine sl_op rfl rfl rfl (by first | exact opv_add64 rfl rfl rfl (by omega) (by omega) | exact opv_sub64 rfl rfl rfl (by omega) (by omega) | exact opv_add rfl rfl rfl | exact opv_sub rfl rfl rfl | exact opv_mul rfl rfl rfl | exact opv_rem rfl rfl rfl (by omega) | exact opv_quo rfl rfl rfl (by omega) | exact opv_shl rfl rfl rfl (by omega) | exact opv_shr rfl rfl rfl (by omega) | exact opv_bits rfl rfl rfl (by decide)) ?_ | refine sl_pass rfl rfl rfl rfl ?_)
    | (refine gk 2 rfl ?_; first | refine sl_pass rfl rfl rfl rfl ?_ | refine sl_yes rfl rfl rfl (by first | exact opv_lss rfl rfl rfl | exact opv_leq rfl rfl rfl | exact opv_gtr rfl rfl rfl | exact opv_geq rfl rfl rfl | exact opv_eql rfl rfl rfl | exact opv_neq rfl rfl rfl) (by first | omega | decide +kernel) ?_ | refine sl_no rfl rfl rfl (by first | exact opv_lss rfl rfl rfl | exact opv_leq rfl rfl rfl | exact opv_gtr rfl rfl rfl | exact opv_geq rfl rfl rfl | exact opv_eql rfl rfl rfl | exact opv_neq rfl rfl rfl) (by first | omega | decide +kernel) ?_ | refine sl_if rfl rfl rfl (by first | exact opv_lss rfl rfl rfl | exact opv_leq rfl rfl rfl | exact opv_gtr rfl rfl rfl | exact opv_geq rfl rfl rfl | exact opv_eql rfl rfl rfl | exact opv_neq rfl rfl rfl) (fun h => ?_) (fun h => ?_) | refine sl_tt rfl rfl rfl (by first | exact opv_eqlB Try.underlying4 rfl rfl rfl | exact opv_neqB Try.underlying4 rfl rfl rfl | exact opv_eqlS rfl rfl rfl rfl | exact opv_neqS rfl rfl rfl rfl) (by first | rfl | assumption) ?_ | refine sl_ff rfl rfl rfl (by first | exact opv_eqlB Try.underlying4 rfl rfl rfl | exact opv_neqB Try.underlying4 rfl rfl rfl | exact opv_eqlS rfl rfl rfl rfl | exact opv_neqS rfl rfl rfl rfl) (by first | rfl | assumption) ?_ | refine sl_bool rfl rfl rfl (by first | exact opv_eqlB Try.underlying4 rfl rfl rfl | exact opv_neqB Try.underlying4 rfl rfl rfl | exact opv_eqlS rfl rfl rfl rfl | exact opv_neqS rfl rfl rfl rfl) (fun h => ?_) (fun h => ?_))
    | (refine gk 3 rfl ?_; first | refine sl_op rfl rfl rfl (by first | exact opv_load rfl (by exact rfl) rfl (by exact rfl) | exact opv_fieldAddr rfl rfl | exact opv_loadA rfl (by exact rfl) rfl (by exact rfl) (by exact rfl) | exact opv_indexAddrI rfl rfl rfl (by omega) (by omega) (by first | omega | (simp only [List.length_map]; omega) | (simp only [List.length_cons, List.length_nil]; omega)) | exact opv_index rfl rfl rfl (by omega) (by omega) (by first | assumption | exact rfl) | exact opv_indexA rfl rfl rfl (by omega) (by omega) (by first | assumption | exact rfl) | exact opv_indexAddrR rfl rfl rfl (by omega) (by omega) | exact opv_fieldAddrE rfl rfl (by first | assumption | omega) | exact opv_loadELx rfl (by exact rfl) (by infer_instance) rfl rfl rfl | exact opv_loadEx rfl (by exact rfl) (by infer_instance) (by first | assumption | exact rfl) | exact opv_load2 rfl (by exact rfl) (by infer_instance) (by assumption) (by assumption)) ?_ | refine sl_pass rfl rfl rfl rfl ?_)
    | (refine gk 4 rfl ?_; first | refine sl_pass rfl rfl rfl rfl ?_ | refine sl_op rfl rfl rfl (by first | exact opv_len rfl rfl rfl rfl rfl | exact opv_min rfl rfl rfl rfl rfl) ?_)
    | (refine gk 5 rfl ?_; first | refine sl_op rfl rfl rfl (by first | exact opv_build rfl rfl (by exact rfl) | exact opv_convert rfl rfl | exact opv_sliceHi rfl rfl rfl (by omega) (by omega)) ?_ | refine sl_pass rfl rfl rfl rfl ?_ | refine sl_buildSlice rfl rfl rfl rfl rfl (by exact rfl) (by exact rfl) (by exact rfl) (by exact rfl) rfl (fun b => ?_) | refine sl_box rfl rfl rfl rfl rfl rfl (fun β => ?_) | refine sl_alloc rfl rfl rfl rfl (by exact rfl) (fun β => ?_) | refine sl_store rfl rfl rfl rfl rfl rfl (by exact rfl) rfl (by exact rfl) ?_)
    | refine sl_region rfl ?_
    | refine sl_draw (by kernel_rfl) (by kernel_rfl) rfl ?_
    | refine sl_nil ?_
    | refine thn_k ?_
    | refine swp_true rfl ?_
    | refine swp_false rfl ?_
    | refine swp_block ?_
    | refine swp_ret ?_
    | refine swp_exit ?_
    | refine swp_skip ?_
    | refine thn_ret ?_
    | refine inb_ret ?_
    | refine inb_k ?_
    | refine thn_exit ?_
    | refine inb_exit ?_
    | refine inb_out rfl ?_)
  refine swp_loopS (fun s : S18 => [(0, i64 a), (2, u64 w), (7, .int .u64 s.n), (8, i64 s.i)]) (fun _ => []) (fun s => -1 ≤ s.i ∧ s.i < b ∧ s.n = ((ofN (a + (s.i + 1).toNat) (b - (s.i + 1).toNat) w : Nat) : Int)) (fun s => (s.i + 1).toNat) ⟨_, _⟩ (by repeat first | exact Sub.nil _ | refine Sub.cons rfl ?_) ?_ ?_
  · dsimp only
    refine ⟨by omega, by omega, ?_⟩
    rw [show ((b : Int) - 1 + 1).toNat = b by omega, Nat.sub_self, ofN, Nat.pow_zero, Nat.mod_one]
    rfl
  · rintro ⟨i, n⟩ ⟨h1, h2, h3⟩
    dsimp only at h1 h2 h3 ⊢
    by_cases hi : 0 ≤ i
    · have e : ofN (a + (i - 1 + 1).toNat) (b - (i - 1 + 1).toNat) w = ofN (a + (i + 1).toNat) (b - (i + 1).toNat) w * 2 + (w.testBit (a + i).toNat).toNat := by
        rw [show (i - 1 + 1).toNat = i.toNat by omega, show b - i.toNat = b - (i + 1).toNat + 1 by omega, show a + (i + 1).toNat = a + i.toNat + 1 by omega, show (a + i : Int).toNat = a + i.toNat by omega]
        exact bits_step w (a + i.toNat) _
      have hq : ofN (a + (i + 1).toNat) (b - (i + 1).toNat) w < 2 ^ 63 := Nat.lt_of_lt_of_le (Nat.mod_lt _ (Nat.two_pow_pos _)) (Nat.pow_le_pow_right (by decide) (by omega))
      repeat' (first
        | refine swp_seq ?_
        | (refine gk 0 rfl ?_; first | refine sl_op rfl rfl rfl (by first | exact opv_move rfl rfl | exact opv_assign rfl rfl | exact opv_pick_t rfl rfl rfl | exact opv_pick_f rfl rfl rfl | exact opv_not_t rfl rfl | exact opv_not_f rfl rfl | exact opv_not rfl rfl | exact opv_extract rfl rfl rfl | exact opv_makeFunc rfl rfl rfl) ?_ | refine sl_bool rfl rfl rfl (by first | exact opv_move rfl rfl | exact opv_assign rfl rfl | exact opv_pick_t rfl rfl rfl | exact opv_pick_f rfl rfl rfl | exact opv_not_t rfl rfl | exact opv_not_f rfl rfl | exact opv_not rfl rfl | exact opv_extract rfl rfl rfl | exact opv_makeFunc rfl rfl rfl) (fun h => ?_) (fun h => ?_) | refine sl_pass rfl rfl rfl rfl ?_)
        | (refine gk 1 rfl ?_; first | refine sl_op rfl rfl rfl (by first | exact opv_add64 rfl rfl rfl (by omega) (by omega) | exact opv_sub64 rfl rfl rfl (by omega) (by omega) | exact opv_add rfl rfl rfl | exact opv_sub rfl rfl rfl | exact opv_mul rfl rfl rfl | exact opv_rem rfl rfl rfl (by omega) | exact opv_quo rfl rfl rfl (by omega) | exact opv_shl rfl rfl rfl (by omega) | exact opv_shr rfl rfl rfl (by omega) | exact opv_bits rfl rfl rfl (by decide)) ?_ | refine sl_pass rfl rfl rfl rfl ?_)
        | (refine gk 2 rfl ?_; first | refine sl_pass rfl rfl rfl rfl ?_ | refine sl_yes rfl rfl rfl (by first | exact opv_lss rfl rfl rfl | exact opv_leq rfl rfl rfl | exact opv_gtr rfl rfl rfl | exact opv_geq rfl rfl rfl | exact opv_eql rfl rfl rfl | exact opv_neq rfl rfl rfl) (by first | omega | decide +kernel) ?_ | refine sl_no rfl rfl rfl (by first | exact opv_lss rfl rfl rfl | exact opv_leq rfl rfl rfl | exact opv_gtr rfl rfl rfl | exact opv_geq rfl rfl rfl | exact opv_eql rfl rfl rfl | exact opv_neq rfl rfl rfl) (by first | omega | decide +kernel) ?_ | refine sl_if rfl rfl rfl (by first | exact opv_lss rfl rfl rfl | exact opv_leq rfl rfl rfl | exact opv_gtr rfl rfl rfl | exact opv_geq rfl rfl rfl | exact opv_eql rfl rfl rfl | exact opv_neq rfl rfl rfl) (fun h => ?_) (fun h => ?_) | refine sl_tt rfl rfl rfl (by first | exact opv_eqlB Try.underlying4 rfl rfl rfl | exact opv_neqB Try.underlying4 rfl rfl rfl | exact opv_eqlS rfl rfl rfl rfl | exact opv_neqS rfl rfl rfl rfl) (by first | rfl | assumption) ?_ | refine sl_ff rfl rfl rfl (by first | exact opv_eqlB Try.underlying4 rfl rfl rfl | exact opv_neqB Try.underlying4 rfl rfl rfl | exact opv_eqlS rfl rfl rfl rfl | exact opv_neqS rfl rfl rfl rfl) (by first | rfl | assumption) ?_ | refine sl_bool rfl rfl rfl (by first | exact opv_eqlB Try.underlying4 rfl rfl rfl | exact opv_neqB Try.underlying4 rfl rfl rfl | exact opv_eqlS rfl rfl rfl rfl | exact opv_neqS rfl rfl rfl rfl) (fun h => ?_) (fun h => ?_))
        | (refine gk 3 rfl ?_; first | refine sl_op rfl rfl rfl (by first | exact opv_load rfl (by exact rfl) rfl (by exact rfl) | exact opv_fieldAddr rfl rfl | exact opv_loadA rfl (by exact rfl) rfl (by exact rfl) (by exact rfl) | exact opv_indexAddrI rfl rfl rfl (by omega) (by omega) (by first | omega | (simp only [List.length_map]; omega) | (simp only [List.length_cons, List.length_nil]; omega)) | exact opv_index rfl rfl rfl (by omega) (by omega) (by first | assumption | exact rfl) | exact opv_indexA rfl rfl rfl (by omega) (by omega) (by first | assumption | exact rfl) | exact opv_indexAddrR rfl rfl rfl (by omega) (by omega) | exact opv_fieldAddrE rfl rfl (by first | assumption | omega) | exact opv_loadELx rfl (by exact rfl) (by infer_instance) rfl rfl rfl | exact opv_loadEx rfl (by exact rfl) (by infer_instance) (by first | assumption | exact rfl) | exact opv_load2 rfl (by exact rfl) (by infer_instance) (by assumption) (by assumption)) ?_ | refine sl_pass rfl rfl rfl rfl ?_)
        | (refine gk 4 rfl ?_; first | refine sl_pass rfl rfl rfl rfl ?_ | refine sl_op rfl rfl rfl (by first | exact opv_len rfl rfl rfl rfl rfl | exact opv_min rfl rfl rfl rfl rfl) ?_ | refine sl_op rfl rfl rfl ((opv_call rfl rfl rfl rfl rfl (refBit_calls _ _ hw (by omega))).to (congrArg Value.bool (by assumption))) ?_ | refine sl_bool rfl rfl rfl (opv_call rfl rfl rfl rfl rfl (refBit_calls _ _ hw (by omega))) (fun h => ?_) (fun h => ?_))
        | (refine gk 5 rfl ?_; first | refine sl_op rfl rfl rfl (by first | exact opv_build rfl rfl (by exact rfl) | exact opv_convert rfl rfl | exact opv_sliceHi rfl rfl rfl (by omega) (by omega)) ?_ | refine sl_pass rfl rfl rfl rfl ?_ | refine sl_buildSlice rfl rfl rfl rfl rfl (by exact rfl) (by exact rfl) (by exact rfl) (by exact rfl) rfl (fun b => ?_) | refine sl_box rfl rfl rfl rfl rfl rfl (fun β => ?_) | refine sl_alloc rfl rfl rfl rfl (by exact rfl) (fun β => ?_) | refine sl_store rfl rfl rfl rfl rfl rfl (by exact rfl) rfl (by exact rfl) ?_)
        | refine sl_region rfl ?_
        | refine sl_draw (by kernel_rfl) (by kernel_rfl) rfl ?_
        | refine sl_nil ?_
        | refine thn_k ?_
        | refine swp_true rfl ?_
        | refine swp_false rfl ?_
        | refine swp_block ?_
        | refine swp_ret ?_
        | refine swp_exit ?_
        | refine swp_skip ?_
        | refine thn_ret ?_
        | refine inb_ret ?_
        | refine inb_k ?_
        | refine thn_exit ?_
        | refine inb_exit ?_
        | refine inb_out rfl ?_)
      all_goals
        refine ⟨rfl, ⟨_, _⟩, next_ok (by repeat first | exact Sub.nil _ | refine Sub.cons rfl ?_), ?_, ?_⟩
        all_goals dsimp only
      · refine ⟨by omega, by omega, ?_⟩
        change IntKind.u64.wrap (shl .u64 n 1 + 1) = _
        rw [h3, shl_one_add hq, e, h]
        rfl
      · omega
      · refine ⟨by omega, by omega, ?_⟩
        change shl .u64 n 1 = _
        rw [h3, shl_one hq, e, h]
        rfl
      · omega
    · repeat' (first
        | refine swp_seq ?_
        | (refine gk 0 rfl ?_; first | refine sl_op rfl rfl rfl (by first | exact opv_move rfl rfl | exact opv_assign rfl rfl | exact opv_pick_t rfl rfl rfl | exact opv_pick_f rfl rfl rfl | exact opv_not_t rfl rfl | exact opv_not_f rfl rfl | exact opv_not rfl rfl | exact opv_extract rfl rfl rfl | exact opv_makeFunc rfl rfl rfl) ?_ | refine sl_bool rfl rfl rfl (by first | exact opv_move rfl rfl | exact opv_assign rfl rfl | exact opv_pick_t rfl rfl rfl | exact opv_pick_f rfl rfl rfl | exact opv_not_t rfl rfl | exact opv_not_f rfl rfl | exact opv_not rfl rfl | exact opv_extract rfl rfl rfl | exact opv_makeFunc rfl rfl rfl) (fun h => ?_) (fun h => ?_) | refine sl_pass rfl rfl rfl rfl ?_)
        | (refine gk 1 rfl ?_; first | refine sl_op rfl rfl rfl (by first | exact opv_add64 rfl rfl rfl (by omega) (by omega) | exact opv_sub64 rfl rfl rfl (by omega) (by omega) | exact opv_add rfl rfl rfl | exact opv_sub rfl rfl rfl | exact opv_mul rfl rfl rfl | exact opv_rem rfl rfl rfl (by omega) | exact opv_quo rfl rfl rfl (by omega) | exact opv_shl rfl rfl rfl (by omega) | exact opv_shr rfl rfl rfl (by omega) | exact opv_bits rfl rfl rfl (by decide)) ?_ | refine sl_pass rfl rfl rfl rfl ?_)
        | (refine gk 2 rfl ?_; first | refine sl_pass rfl rfl rfl rfl ?_ | refine sl_yes rfl rfl rfl (by first | exact opv_lss rfl rfl rfl | exact opv_leq rfl rfl rfl | exact opv_gtr rfl rfl rfl | exact opv_geq rfl rfl rfl | exact opv_eql rfl rfl rfl | exact opv_neq rfl rfl rfl) (by first | omega | decide +kernel) ?_ | refine sl_no rfl rfl rfl (by first | exact opv_lss rfl rfl rfl | exact opv_leq rfl rfl rfl | exact opv_gtr rfl rfl rfl | exact opv_geq rfl rfl rfl | exact opv_eql rfl rfl rfl | exact opv_neq rfl rfl rfl) (by first | omega | decide +kernel) ?_ | refine sl_if rfl rfl rfl (by first | exact opv_lss rfl rfl rfl | exact opv_leq rfl rfl rfl | exact opv_gtr rfl rfl rfl | exact opv_geq rfl rfl rfl | exact opv_eql rfl rfl rfl | exact opv_neq rfl rfl rfl) (fun h => ?_) (fun h => ?_) | refine sl_tt rfl rfl rfl (by first | exact opv_eqlB Try.underlying4 rfl rfl rfl | exact opv_neqB Try.underlying4 rfl rfl rfl | exact opv_eqlS rfl rfl rfl rfl | exact opv_neqS rfl rfl rfl rfl) (by first | rfl | assumption) ?_ | refine sl_ff rfl rfl rfl (by first | exact opv_eqlB Try.underlying4 rfl rfl rfl | exact opv_neqB Try.underlying4 rfl rfl rfl | exact opv_eqlS rfl rfl rfl rfl | exact opv_neqS rfl rfl rfl rfl) (by first | rfl | assumption) ?_ | refine sl_bool rfl rfl rfl (by first | exact opv_eqlB Try.underlying4 rfl rfl rfl | exact opv_neqB Try.underlying4 rfl rfl rfl | exact opv_eqlS rfl rfl rfl rfl | exact opv_neqS rfl rfl rfl rfl) (fun h => ?_) (fun h => ?_))
        | (refine gk 3 rfl ?_; first | refine sl_op rfl rfl rfl (by first | exact opv_load rfl (by exact rfl) rfl (by exact rfl) | exact opv_fieldAddr rfl rfl | exact opv_loadA rfl (by exact rfl) rfl (by exact rfl) (by exact rfl) | exact opv_indexAddrI rfl rfl rfl (by omega) (by omega) (by first | omega | (simp only [List.length_map]; omega) | (simp only [List.length_cons, List.length_nil]; omega)) | exact opv_index rfl rfl rfl (by omega) (by omega) (by first | assumption | exact rfl) | exact opv_indexA rfl rfl rfl (by omega) (by omega) (by first | assumption | exact rfl) | exact opv_indexAddrR rfl rfl rfl (by omega) (by omega) | exact opv_fieldAddrE rfl rfl (by first | assumption | omega) | exact opv_loadELx rfl (by exact rfl) (by infer_instance) rfl rfl rfl | exact opv_loadEx rfl (by exact rfl) (by infer_instance) (by first | assumption | exact rfl) | exact opv_load2 rfl (by exact rfl) (by infer_instance) (by assumption) (by assumption)) ?_ | refine sl_pass rfl rfl rfl rfl ?_)
        | (refine gk 4 rfl ?_; first | refine sl_pass rfl rfl rfl rfl ?_ | refine sl_op rfl rfl rfl (by first | exact opv_len rfl rfl rfl rfl rfl | exact opv_min rfl rfl rfl rfl rfl) ?_)
        | (refine gk 5 rfl ?_; first | refine sl_op rfl rfl rfl (by first | exact opv_build rfl rfl (by exact rfl) | exact opv_convert rfl rfl | exact opv_sliceHi rfl rfl rfl (by omega) (by omega)) ?_ | refine sl_pass rfl rfl rfl rfl ?_ | refine sl_buildSlice rfl rfl rfl rfl rfl (by exact rfl) (by exact rfl) (by exact rfl) (by exact rfl) rfl (fun b => ?_) | refine sl_box rfl rfl rfl rfl rfl rfl (fun β => ?_) | refine sl_alloc rfl rfl rfl rfl (by exact rfl) (fun β => ?_) | refine sl_store rfl rfl rfl rfl rfl rfl (by exact rfl) rfl (by exact rfl) ?_)
        | refine sl_region rfl ?_
        | refine sl_draw (by kernel_rfl) (by kernel_rfl) rfl ?_
        | refine sl_nil ?_
        | refine thn_k ?_
        | refine swp_true rfl ?_
        | refine swp_false rfl ?_
        | refine swp_block ?_
        | refine swp_ret ?_
        | refine swp_exit ?_
        | refine swp_skip ?_
        | refine thn_ret ?_
        | refine inb_ret ?_
        | refine inb_k ?_
        | refine thn_exit ?_
        | refine inb_exit ?_
        | refine inb_out rfl ?_)
      refine end_pure (resOk_one (resV_tmp rfl)) ?_
      rw [h3, show (i + 1).toNat = 0 by omega]
      rfl
theorem refMost_calls (b : Nat) (h1 : 1 ≤ b) (h2 : b ≤ 64) : PFn Try.prog 17 [i64 b] [] (u64 (2 ^ b - 1)) := by
  refine pure_of_body Try.func17 rfl (Nat.le_of_ble_eq_true rfl) fun F => ?_
  repeat' (first
    | refine swp_seq ?_
    | (refine gk 0 rfl ?_; first | refine sl_op rfl rfl rfl (by first | exact opv_move rfl rfl | exact opv_assign rfl rfl | exact opv_pick_t rfl rfl rfl | exact opv_pick_f rfl rfl rfl | exact opv_not_t rfl rfl | exact opv_not_f rfl rfl | exact opv_not rfl rfl | exact opv_extract rfl rfl rfl | exact opv_makeFunc rfl rfl rfl) ?_ | refine sl_bool rfl rfl rfl (by first | exact opv_move rfl rfl | exact opv_assign rfl rfl | exact opv_pick_t rfl rfl rfl | exact opv_pick_f rfl rfl rfl | exact opv_not_t rfl rfl | exact opv_not_f rfl rfl | exact opv_not rfl rfl | exact opv_extract rfl rfl rfl | exact opv_makeFunc rfl rfl rfl) (fun h => ?_) (fun h => ?_) | refine sl_pass rfl rfl rfl rfl ?_)
    | (refine gk 1 rfl ?_; first | refine sl_op rfl rfl rfl (by first | exact opv_add64 rfl rfl rfl (by omega) (by omega) | exact opv_sub64 rfl rfl rfl (by omega) (by omega) | exact opv_add rfl rfl rfl | exact opv_sub rfl rfl rfl | exact opv_mul rfl rfl rfl | exact opv_rem rfl rfl rfl (by omega) | exact opv_quo rfl rfl rfl (by omega) | exact opv_shl rfl rfl rfl (by omega) | exact opv_shr rfl rfl rfl (by omega) | exact opv_bits rfl rfl rfl (by decide)) ?_ | refine sl_pass rfl rfl rfl rfl ?_)
    | (refine gk 2 rfl ?_; first | refine sl_pass rfl rfl rfl rfl ?_ | refine sl_yes rfl rfl rfl (by first | exact opv_lss rfl rfl rfl | exact opv_leq rfl rfl rfl | exact opv_gtr rfl rfl rfl | exact opv_geq rfl rfl rfl | exact opv_eql rfl rfl rfl | exact opv_neq rfl rfl rfl) (by first | omega | decide +kernel) ?_ | refine sl_no rfl rfl rfl (by first | exact opv_lss rfl rfl rfl | exact opv_leq rfl rfl rfl | exact opv_gtr rfl rfl rfl | exact opv_geq rfl rfl rfl | exact opv_eql rfl rfl rfl | exact opv_neq rfl rfl rfl) (by first | omega | decide +kernel) ?_ | refine sl_if rfl rfl rfl (by first | exact opv_lss rfl rfl rfl | exact opv_leq rfl rfl rfl | exact opv_gtr rfl rfl rfl | exact opv_geq rfl rfl rfl | exact opv_eql rfl rfl rfl | exact opv_neq rfl rfl rfl) (fun h => ?_) (fun h => ?_) | refine sl_tt rfl rfl rfl (by first | exact opv_eqlB Try.underlying4 rfl rfl rfl | exact opv_neqB Try.underlying4 rfl rfl rfl | exact opv_eqlS rfl rfl rfl rfl | exact opv_neqS rfl rfl rfl rfl) (by first | rfl | assumption) ?_ | refine sl_ff rfl rfl rfl (by first | exact opv_eqlB Try.underlying4 rfl rfl rfl | exact opv_neqB Try.underlying4 rfl rfl rfl | exact opv_eqlS rfl rfl rfl rfl | exact opv_neqS rfl rfl rfl rfl) (by first | rfl | assumption) ?_ | refine sl_bool rfl rfl rfl (by first | exact opv_eqlB Try.underlying4 rfl rfl rfl | exact opv_neqB Try.underlying4 rfl rfl rfl | exact opv_eqlS rfl rfl rfl rfl | exact opv_neqS rfl rfl rfl rfl) (fun h => ?_) (fun h => ?_))
    | (refine gk 3 rfl ?_; first | refine sl_op rfl rfl rfl (by first | exact opv_load rfl (by exact rfl) rfl (by exact rfl) | exact opv_fieldAddr rfl rfl | exact opv_loadA rfl (by exact rfl) rfl (by exact rfl) (by exact rfl) | exact opv_indexAddrI rfl rfl rfl (by omega) (by omega) (by first | omega | (simp only [List.length_map]; omega) | (simp only [List.length_cons, List.length_nil]; omega)) | exact opv_index rfl rfl rfl (by omega) (by omega) (by first | assumption | exact rfl) | exact opv_indexA rfl rfl rfl (by omega) (by omega) (by first | assumption | exact rfl) | exact opv_indexAddrR rfl rfl rfl (by omega) (by omega) | exact opv_fieldAddrE rfl rfl (by first | assumption | omega) | exact opv_loadELx rfl (by exact rfl) (by infer_instance) rfl rfl rfl | exact opv_loadEx rfl (by exact rfl) (by infer_instance) (by first | assumption | exact rfl) | exact opv_load2 rfl (by exact rfl) (by infer_instance) (by assumption) (by assumption)) ?_ | refine sl_pass rfl rfl rfl rfl ?_)
    | (refine gk 4 rfl ?_; first | refine sl_pass rfl rfl rfl rfl ?_ | refine sl_op rfl rfl rfl (by first | exact opv_len rfl rfl rfl rfl rfl | exact opv_min rfl rfl rfl rfl rfl) ?_ | refine sl_op rfl rfl rfl (opv_call rfl rfl rfl rfl rfl (refOf_calls 0 b 18446744073709551615 (by decide) h1 (by omega))) ?_)
    | (refine gk 5 rfl ?_; first | refine sl_op rfl rfl rfl (by first | exact opv_build rfl rfl (by exact rfl) | exact opv_convert rfl rfl | exact opv_sliceHi rfl rfl rfl (by omega) (by omega)) ?_ | refine sl_pass rfl rfl rfl rfl ?_ | refine sl_buildSlice rfl rfl rfl rfl rfl (by exact rfl) (by exact rfl) (by exact rfl) (by exact rfl) rfl (fun b => ?_) | refine sl_box rfl rfl rfl rfl rfl rfl (fun β => ?_) | refine sl_alloc rfl rfl rfl rfl (by exact rfl) (fun β => ?_) | refine sl_store rfl rfl rfl rfl rfl rfl (by exact rfl) rfl (by exact rfl) ?_)
    | refine sl_region rfl ?_
    | refine sl_draw (by kernel_rfl) (by kernel_rfl) rfl ?_
    | refine sl_nil ?_
    | refine thn_k ?_
    | refine swp_true rfl ?_
    | refine swp_false rfl ?_
    | refine swp_block ?_
    | refine swp_ret ?_
    | refine swp_exit ?_
    | refine swp_skip ?_
    | refine thn_ret ?_
    | refine inb_ret ?_
    | refine inb_k ?_
    | refine thn_exit ?_
    | refine inb_exit ?_
    | refine inb_out rfl ?_)
  refine end_pure (resOk_one (resV_tmp rfl)) ?_
  refine congrArg u64 ?_
  rw [ofN, Nat.shiftRight_zero, show 18446744073709551615 = 2 ^ 64 - 1 from rfl]
  have : 2 ^ 64 = 2 ^ b * 2 ^ (64 - b) := by rw [← Nat.pow_add]; congr 1; omega
  have hp := Nat.two_pow_pos b
  have hq := Nat.two_pow_pos (64 - b)
  rw [show 2 ^ 64 - 1 = (2 ^ b - 1) + 2 ^ b * (2 ^ (64 - b) - 1) by rw [Nat.mul_sub, Nat.mul_one, ← this]; have : 2 ^ b ≤ 2 ^ 64 := Nat.pow_le_pow_right (by decide) h2; omega, Nat.add_mul_mod_self_left, Nat.mod_eq_of_lt (by omega)]
/-- A word with a number put into a field. -/
def putN (a w v b : Nat) : Nat := andNot w ((2 ^ b - 1) <<< a) ||| v <<< a
theorem field_lt {a b : Nat} (hab : a + b ≤ 64) {v : Nat} (hv : v ≤ 2 ^ b - 1) : v <<< a < 2 ^ 64 := by
  have hp := Nat.two_pow_pos b
  have h1 : v <<< a < 2 ^ b <<< a := by rw [Nat.shiftLeft_eq, Nat.shiftLeft_eq]; exact Nat.mul_lt_mul_of_pos_right (by omega) (Nat.two_pow_pos a)
  refine Nat.lt_of_lt_of_le h1 ?_
  rw [Nat.shiftLeft_eq, ← Nat.pow_add]; exact Nat.pow_le_pow_right (by decide) (by omega)
theorem putN_lt {a b w v : Nat} (hab : a + b ≤ 64) (hw : w < 2 ^ 64) (hv : v ≤ 2 ^ b - 1) : putN a w v b < 2 ^ 64 := Nat.or_lt_two_pow (andNot_lt hw) (field_lt hab hv)
theorem putN_bit {a b w v : Nat} (hab : a + b ≤ 64) (hw : w < 2 ^ 64) (hv : v ≤ 2 ^ b - 1) (i : Nat) :
    (putN a w v b).testBit i = if a ≤ i ∧ i < a + b then v.testBit (i - a) else w.testBit i := by
  rw [putN, Nat.testBit_or, andNot_testBit hw (field_lt hab (Nat.le_refl _)), Nat.testBit_shiftLeft, Nat.testBit_shiftLeft, Nat.testBit_two_pow_sub_one]
  have hp := Nat.two_pow_pos b
  by_cases h1 : a ≤ i
  · by_cases h2 : i < a + b
    · rw [if_pos ⟨h1, h2⟩]
      have : i - a < b := by omega
      simp [h1, this]
    · rw [if_neg (by omega)]
      have h3 : ¬ i - a < b := by omega
      have : v.testBit (i - a) = false := Nat.testBit_lt_two_pow (Nat.lt_of_lt_of_le (show v < 2 ^ b by omega) (Nat.pow_le_pow_right (by decide) (by omega)))
      simp [h3, this]
  · rw [if_neg (by omega)]
    simp [h1]
end Go.Proofs.Ythhlgaaamfeohaa
