/- Functions of the package word, walked: Open. -/
import Derived.Test.YtblobkigbdcjeaaWW3
namespace Go.Proofs.Ytblobkigbdcjeaa
open Go.SL
set_option maxRecDepth 100000
set_option maxHeartbeats 16000000
attribute [local irreducible] T PFn OpV SOL SWP HOp ChU
/-- What the fields of a word have. -/
abbrev wK (w : Nat) : Nat := w / 8 % 16777216
abbrev wM (w : Nat) : Nat := w / 134217728 % 4096
abbrev wG (w : Nat) : Nat := w / 549755813888 % 4096
abbrev wO (w : Nat) : Nat := w / 134217728 % 32768
abbrev wC (w : Nat) : Nat := w / 4398046511104 % 256
theorem Of_lit (a b w : Nat) {x : Nat} (hw : w < 2 ^ 64) (h1 : 1 ≤ b) (hab : a + b ≤ 64) (hx : w / 2 ^ a % 2 ^ b = x) : PFn Try.prog 25 [fld a b, u64 w] [] (u64 x) :=
  (Of_N a b w hw h1 hab).to (by rw [ofN, Nat.shiftRight_eq_div_pow, hx])
theorem wrapN {x : Nat} (h : x < 2 ^ 63) : IntKind.i64.wrap (x : Int) = (x : Int) := wrap64_id (by omega) (by omega)
theorem Open_fat (w : Nat) (hw : w < 2 ^ 51) (ht : w % 8 = 4) : PFn Try.prog 11 [u64 w] [] (.tuple #[hdr 4 0 0 (wM w) (wG w) (wK w), .bool true]) := by
  have eK : wK w = w / 8 % 16777216 := rfl
  have eM : wM w = w / 134217728 % 4096 := rfl
  have eG : wG w = w / 549755813888 % 4096 := rfl
  have cT : PFn Try.prog 25 [fld 0 3, u64 w] [] (u64 4) := Of_lit 0 3 w (by omega) (by decide) (by decide) (by rw [Nat.pow_zero, Nat.div_one]; try exact ht)
  have cK : PFn Try.prog 25 [fld 3 24, u64 w] [] (u64 (wK w)) := Of_lit 3 24 w (by omega) (by decide) (by decide) rfl
  have cM : PFn Try.prog 25 [fld 27 12, u64 w] [] (u64 (wM w)) := Of_lit 27 12 w (by omega) (by decide) (by decide) rfl
  have cG : PFn Try.prog 25 [fld 39 12, u64 w] [] (u64 (wG w)) := Of_lit 39 12 w (by omega) (by decide) (by decide) rfl
  have hT : IntKind.i64.wrap ((4 : Nat) : Int) = 4 := by decide
  have hK := wrapN (show wK w < 2 ^ 63 by omega)
  have hM := wrapN (show wM w < 2 ^ 63 by omega)
  have hG := wrapN (show wG w < 2 ^ 63 by omega)
  have cP := Pack_fat (wM w) (wG w) (wK w) (by omega) (by omega) (by omega)
  have hv : 4 + wK w * 2 ^ 3 + wM w * 2 ^ 27 + wG w * 2 ^ 39 = w := by omega
  rw [hv] at cP
  generalize wK w = k at *
  generalize wM w = m at *
  generalize wG w = g at *
  refine pure_of_body Try.func11 rfl (Nat.le_of_ble_eq_true rfl) fun F => ?_
  repeat' (first
    | refine sl_op rfl rfl rfl ((opv_convert rfl rfl).to (congrArg (Value.int .i64) hT)) ?_
    | refine sl_op rfl rfl rfl ((opv_convert rfl rfl).to (congrArg (Value.int .i64) hK)) ?_
    | refine sl_op rfl rfl rfl ((opv_convert rfl rfl).to (congrArg (Value.int .i64) hM)) ?_
    | refine sl_op rfl rfl rfl ((opv_convert rfl rfl).to (congrArg (Value.int .i64) hG)) ?_
    | refine swp_seq ?_
    | (refine gk 0 rfl ?_; first | refine sl_op rfl rfl rfl (by first | exact opv_move rfl rfl | exact opv_assign rfl rfl | exact opv_pick_t rfl rfl rfl | exact opv_pick_f rfl rfl rfl | exact opv_not_t rfl rfl | exact opv_not_f rfl rfl | exact opv_not rfl rfl | exact opv_extract rfl rfl rfl | exact opv_makeFunc rfl rfl rfl) ?_ | refine sl_bool rfl rfl rfl (by first | exact opv_move rfl rfl | exact opv_assign rfl rfl | exact opv_pick_t rfl rfl rfl | exact opv_pick_f rfl rfl rfl | exact opv_not_t rfl rfl | exact opv_not_f rfl rfl | exact opv_not rfl rfl | exact opv_extract rfl rfl rfl | exact opv_makeFunc rfl rfl rfl) (fun h => ?_) (fun h => ?_) | refine sl_pass rfl rfl rfl rfl ?_)
    | (refine gk 1 rfl ?_; first | refine sl_op rfl rfl rfl (by first | exact opv_add64 rfl rfl rfl (by omega) (by omega) | exact opv_sub64 rfl rfl rfl (by omega) (by omega) | exact opv_add rfl rfl rfl | exact opv_sub rfl rfl rfl | exact opv_mul rfl rfl rfl | exact opv_rem rfl rfl rfl (by omega) | exact opv_quo rfl rfl rfl (by omega) | exact opv_shl rfl rfl rfl (by omega) | exact opv_shr rfl rfl rfl (by omega) | exact opv_bits rfl rfl rfl (by decide)) ?_ | refine sl_pass rfl rfl rfl rfl ?_)
    | (refine gk 2 rfl ?_; first | refine sl_pass rfl rfl rfl rfl ?_ | refine sl_yes rfl rfl rfl (by first | exact opv_lss rfl rfl rfl | exact opv_leq rfl rfl rfl | exact opv_gtr rfl rfl rfl | exact opv_geq rfl rfl rfl | exact opv_eql rfl rfl rfl | exact opv_neq rfl rfl rfl) (by first | omega | decide +kernel) ?_ | refine sl_no rfl rfl rfl (by first | exact opv_lss rfl rfl rfl | exact opv_leq rfl rfl rfl | exact opv_gtr rfl rfl rfl | exact opv_geq rfl rfl rfl | exact opv_eql rfl rfl rfl | exact opv_neq rfl rfl rfl) (by first | omega | decide +kernel) ?_ | refine sl_if rfl rfl rfl (by first | exact opv_lss rfl rfl rfl | exact opv_leq rfl rfl rfl | exact opv_gtr rfl rfl rfl | exact opv_geq rfl rfl rfl | exact opv_eql rfl rfl rfl | exact opv_neq rfl rfl rfl) (fun h => ?_) (fun h => ?_) | refine sl_tt rfl rfl rfl (by first | exact opv_eqlB Try.underlying4 rfl rfl rfl | exact opv_neqB Try.underlying4 rfl rfl rfl | exact opv_eqlS rfl rfl rfl rfl | exact opv_neqS rfl rfl rfl rfl) (by first | rfl | assumption) ?_ | refine sl_ff rfl rfl rfl (by first | exact opv_eqlB Try.underlying4 rfl rfl rfl | exact opv_neqB Try.underlying4 rfl rfl rfl | exact opv_eqlS rfl rfl rfl rfl | exact opv_neqS rfl rfl rfl rfl) (by first | rfl | assumption) ?_ | refine sl_bool rfl rfl rfl (by first | exact opv_eqlB Try.underlying4 rfl rfl rfl | exact opv_neqB Try.underlying4 rfl rfl rfl | exact opv_eqlS rfl rfl rfl rfl | exact opv_neqS rfl rfl rfl rfl) (fun h => ?_) (fun h => ?_))
    | (refine gk 3 rfl ?_; first | refine sl_op rfl rfl rfl (by first | exact opv_load rfl (by exact rfl) rfl (by exact rfl) | exact opv_fieldAddr rfl rfl | exact opv_loadA rfl (by exact rfl) rfl (by exact rfl) (by exact rfl) | exact opv_indexAddrI rfl rfl rfl (by omega) (by omega) (by first | omega | (simp only [List.length_map]; omega) | (simp only [List.length_cons, List.length_nil]; omega)) | exact opv_index rfl rfl rfl (by omega) (by omega) (by first | assumption | exact rfl) | exact opv_indexA rfl rfl rfl (by omega) (by omega) (by first | assumption | exact rfl) | exact opv_indexAddrR rfl rfl rfl (by omega) (by omega) | exact opv_fieldAddrE rfl rfl (by first | assumption | omega) | exact opv_loadELx rfl (by exact rfl) (by infer_instance) rfl rfl rfl | exact opv_loadEx rfl (by exact rfl) (by infer_instance) (by first | assumption | exact rfl) | exact opv_load2 rfl (by exact rfl) (by infer_instance) (by assumption) (by assumption)) ?_ | refine sl_pass rfl rfl rfl rfl ?_)
    | (refine gk 4 rfl ?_; first | refine sl_pass rfl rfl rfl rfl ?_ | refine sl_op rfl rfl rfl (by first | exact opv_len rfl rfl rfl rfl rfl | exact opv_min rfl rfl rfl rfl rfl) ?_ | refine sl_op rfl rfl rfl (opv_call rfl rfl rfl rfl rfl (laid_other 1 (by decide))) ?_ | refine sl_op rfl rfl rfl (opv_call rfl rfl rfl rfl rfl (laid_fat)) ?_ | refine sl_op rfl rfl rfl (opv_call rfl rfl rfl rfl rfl (cT)) ?_ | refine sl_op rfl rfl rfl (opv_call rfl rfl rfl rfl rfl (cK)) ?_ | refine sl_op rfl rfl rfl (opv_call rfl rfl rfl rfl rfl (cM)) ?_ | refine sl_op rfl rfl rfl (opv_call rfl rfl rfl rfl rfl (cG)) ?_ | refine sl_op rfl rfl rfl (opv_call rfl rfl rfl rfl rfl (cP)) ?_)
    | (refine gk 5 rfl ?_; first | refine sl_op rfl rfl rfl (by first | exact opv_build rfl rfl (by exact rfl) | exact opv_convert rfl rfl | exact opv_sliceHi rfl rfl rfl (by omega) (by omega) | exact opv_arrayAt rfl rfl rfl rfl) ?_ | refine sl_pass rfl rfl rfl rfl ?_ | refine sl_buildSlice rfl rfl rfl rfl rfl (by exact rfl) (by exact rfl) (by exact rfl) (by exact rfl) rfl (fun b => ?_) | refine sl_box rfl rfl rfl rfl rfl rfl (fun β => ?_) | refine sl_alloc rfl rfl rfl rfl (by exact rfl) (fun β => ?_) | refine sl_store rfl rfl rfl rfl rfl rfl (by exact rfl) rfl (by exact rfl) ?_)
    | refine sl_region rfl ?_
    | refine sl_draw (by kernel_rfl) (by kernel_rfl) rfl ?_
    | refine chu_nil ?_
    | refine chu_q rfl ?_
    | refine chu_f rfl ?_
    | refine chu_r rfl ?_
    | refine chu_new rfl rfl (by first | exact new_alloc rfl (by exact rfl) | exact new_box rfl rfl rfl | exact new_buildSlice rfl rfl (by exact rfl) rfl (by exact rfl) (by exact rfl) rfl) ?_
    | refine chu_rv rfl rfl rfl (fun β => ?_)
    | refine chu_pass rfl rfl rfl rfl ?_
    | refine chu_store rfl rfl rfl rfl rfl rfl (by exact rfl) rfl (by exact rfl) (by exact rfl) ?_
    | refine chu_P rfl rfl rfl rfl rfl rfl rfl rfl (laid_other 1 (by decide)) rfl ?_
    | refine chu_P rfl rfl rfl rfl rfl rfl rfl rfl (laid_fat) rfl ?_
    | refine chu_P rfl rfl rfl rfl rfl rfl rfl rfl (cT) rfl ?_
    | refine chu_P rfl rfl rfl rfl rfl rfl rfl rfl (cK) rfl ?_
    | refine chu_P rfl rfl rfl rfl rfl rfl rfl rfl (cM) rfl ?_
    | refine chu_P rfl rfl rfl rfl rfl rfl rfl rfl (cG) rfl ?_
    | refine chu_P rfl rfl rfl rfl rfl rfl rfl rfl (cP) rfl ?_
    | refine sl_nil ?_
    | refine thn_k ?_
    | refine swp_true rfl ?_
    | refine swp_false rfl ?_
    | refine swp_block ?_
    | refine swp_ret ?_
    | refine swp_exit ?_
    | refine swp_skip ?_
    | refine thn_ret ?_
    | refine inb_ret ?_
    | refine inb_k ?_
    | refine thn_exit ?_
    | refine inb_exit ?_
    | refine inb_out rfl ?_)
  all_goals first | exact end_pure (resOk_two (resV_cellA rfl rfl rfl rfl) (resV_tmp rfl)) rfl | (exfalso; omega)
theorem Open_fat_no (w : Nat) (hw : w < 2 ^ 64) (hb : 2 ^ 51 ≤ w) (ht : w % 8 = 4) : PFn Try.prog 11 [u64 w] [] (.tuple #[hdr 0 0 0 0 0 0, .bool false]) := by
  have eK : wK w = w / 8 % 16777216 := rfl
  have eM : wM w = w / 134217728 % 4096 := rfl
  have eG : wG w = w / 549755813888 % 4096 := rfl
  have cT : PFn Try.prog 25 [fld 0 3, u64 w] [] (u64 4) := Of_lit 0 3 w (by omega) (by decide) (by decide) (by rw [Nat.pow_zero, Nat.div_one]; try exact ht)
  have cK : PFn Try.prog 25 [fld 3 24, u64 w] [] (u64 (wK w)) := Of_lit 3 24 w (by omega) (by decide) (by decide) rfl
  have cM : PFn Try.prog 25 [fld 27 12, u64 w] [] (u64 (wM w)) := Of_lit 27 12 w (by omega) (by decide) (by decide) rfl
  have cG : PFn Try.prog 25 [fld 39 12, u64 w] [] (u64 (wG w)) := Of_lit 39 12 w (by omega) (by decide) (by decide) rfl
  have hT : IntKind.i64.wrap ((4 : Nat) : Int) = 4 := by decide
  have hK := wrapN (show wK w < 2 ^ 63 by omega)
  have hM := wrapN (show wM w < 2 ^ 63 by omega)
  have hG := wrapN (show wG w < 2 ^ 63 by omega)
  have cP := Pack_fat (wM w) (wG w) (wK w) (by omega) (by omega) (by omega)
  have hv : ¬ 4 + wK w * 2 ^ 3 + wM w * 2 ^ 27 + wG w * 2 ^ 39 = w := by omega
  generalize wK w = k at *
  generalize wM w = m at *
  generalize wG w = g at *
  generalize 4 + k * 2 ^ 3 + m * 2 ^ 27 + g * 2 ^ 39 = v at *
  refine pure_of_body Try.func11 rfl (Nat.le_of_ble_eq_true rfl) fun F => ?_
  repeat' (first
    | refine sl_op rfl rfl rfl ((opv_convert rfl rfl).to (congrArg (Value.int .i64) hT)) ?_
    | refine sl_op rfl rfl rfl ((opv_convert rfl rfl).to (congrArg (Value.int .i64) hK)) ?_
    | refine sl_op rfl rfl rfl ((opv_convert rfl rfl).to (congrArg (Value.int .i64) hM)) ?_
    | refine sl_op rfl rfl rfl ((opv_convert rfl rfl).to (congrArg (Value.int .i64) hG)) ?_
    | refine swp_seq ?_
    | (refine gk 0 rfl ?_; first | refine sl_op rfl rfl rfl (by first | exact opv_move rfl rfl | exact opv_assign rfl rfl | exact opv_pick_t rfl rfl rfl | exact opv_pick_f rfl rfl rfl | exact opv_not_t rfl rfl | exact opv_not_f rfl rfl | exact opv_not rfl rfl | exact opv_extract rfl rfl rfl | exact opv_makeFunc rfl rfl rfl) ?_ | refine sl_bool rfl rfl rfl (by first | exact opv_move rfl rfl | exact opv_assign rfl rfl | exact opv_pick_t rfl rfl rfl | exact opv_pick_f rfl rfl rfl | exact opv_not_t rfl rfl | exact opv_not_f rfl rfl | exact opv_not rfl rfl | exact opv_extract rfl rfl rfl | exact opv_makeFunc rfl rfl rfl) (fun h => ?_) (fun h => ?_) | refine sl_pass rfl rfl rfl rfl ?_)
    | (refine gk 1 rfl ?_; first | refine sl_op rfl rfl rfl (by first | exact opv_add64 rfl rfl rfl (by omega) (by omega) | exact opv_sub64 rfl rfl rfl (by omega) (by omega) | exact opv_add rfl rfl rfl | exact opv_sub rfl rfl rfl | exact opv_mul rfl rfl rfl | exact opv_rem rfl rfl rfl (by omega) | exact opv_quo rfl rfl rfl (by omega) | exact opv_shl rfl rfl rfl (by omega) | exact opv_shr rfl rfl rfl (by omega) | exact opv_bits rfl rfl rfl (by decide)) ?_ | refine sl_pass rfl rfl rfl rfl ?_)
    | (refine gk 2 rfl ?_; first | refine sl_pass rfl rfl rfl rfl ?_ | refine sl_yes rfl rfl rfl (by first | exact opv_lss rfl rfl rfl | exact opv_leq rfl rfl rfl | exact opv_gtr rfl rfl rfl | exact opv_geq rfl rfl rfl | exact opv_eql rfl rfl rfl | exact opv_neq rfl rfl rfl) (by first | omega | decide +kernel) ?_ | refine sl_no rfl rfl rfl (by first | exact opv_lss rfl rfl rfl | exact opv_leq rfl rfl rfl | exact opv_gtr rfl rfl rfl | exact opv_geq rfl rfl rfl | exact opv_eql rfl rfl rfl | exact opv_neq rfl rfl rfl) (by first | omega | decide +kernel) ?_ | refine sl_if rfl rfl rfl (by first | exact opv_lss rfl rfl rfl | exact opv_leq rfl rfl rfl | exact opv_gtr rfl rfl rfl | exact opv_geq rfl rfl rfl | exact opv_eql rfl rfl rfl | exact opv_neq rfl rfl rfl) (fun h => ?_) (fun h => ?_) | refine sl_tt rfl rfl rfl (by first | exact opv_eqlB Try.underlying4 rfl rfl rfl | exact opv_neqB Try.underlying4 rfl rfl rfl | exact opv_eqlS rfl rfl rfl rfl | exact opv_neqS rfl rfl rfl rfl) (by first | rfl | assumption) ?_ | refine sl_ff rfl rfl rfl (by first | exact opv_eqlB Try.underlying4 rfl rfl rfl | exact opv_neqB Try.underlying4 rfl rfl rfl | exact opv_eqlS rfl rfl rfl rfl | exact opv_neqS rfl rfl rfl rfl) (by first | rfl | assumption) ?_ | refine sl_bool rfl rfl rfl (by first | exact opv_eqlB Try.underlying4 rfl rfl rfl | exact opv_neqB Try.underlying4 rfl rfl rfl | exact opv_eqlS rfl rfl rfl rfl | exact opv_neqS rfl rfl rfl rfl) (fun h => ?_) (fun h => ?_))
    | (refine gk 3 rfl ?_; first | refine sl_op rfl rfl rfl (by first | exact opv_load rfl (by exact rfl) rfl (by exact rfl) | exact opv_fieldAddr rfl rfl | exact opv_loadA rfl (by exact rfl) rfl (by exact rfl) (by exact rfl) | exact opv_indexAddrI rfl rfl rfl (by omega) (by omega) (by first | omega | (simp only [List.length_map]; omega) | (simp only [List.length_cons, List.length_nil]; omega)) | exact opv_index rfl rfl rfl (by omega) (by omega) (by first | assumption | exact rfl) | exact opv_indexA rfl rfl rfl (by omega) (by omega) (by first | assumption | exact rfl) | exact opv_indexAddrR rfl rfl rfl (by omega) (by omega) | exact opv_fieldAddrE rfl rfl (by first | assumption | omega) | exact opv_loadELx rfl (by exact rfl) (by infer_instance) rfl rfl rfl | exact opv_loadEx rfl (by exact rfl) (by infer_instance) (by first | assumption | exact rfl) | exact opv_load2 rfl (by exact rfl) (by infer_instance) (by assumption) (by assumption)) ?_ | refine sl_pass rfl rfl rfl rfl ?_)
    | (refine gk 4 rfl ?_; first | refine sl_pass rfl rfl rfl rfl ?_ | refine sl_op rfl rfl rfl (by first | exact opv_len rfl rfl rfl rfl rfl | exact opv_min rfl rfl rfl rfl rfl) ?_ | refine sl_op rfl rfl rfl (opv_call rfl rfl rfl rfl rfl (laid_other 1 (by decide))) ?_ | refine sl_op rfl rfl rfl (opv_call rfl rfl rfl rfl rfl (laid_fat)) ?_ | refine sl_op rfl rfl rfl (opv_call rfl rfl rfl rfl rfl (cT)) ?_ | refine sl_op rfl rfl rfl (opv_call rfl rfl rfl rfl rfl (cK)) ?_ | refine sl_op rfl rfl rfl (opv_call rfl rfl rfl rfl rfl (cM)) ?_ | refine sl_op rfl rfl rfl (opv_call rfl rfl rfl rfl rfl (cG)) ?_ | refine sl_op rfl rfl rfl (opv_call rfl rfl rfl rfl rfl (cP)) ?_)
    | (refine gk 5 rfl ?_; first | refine sl_op rfl rfl rfl (by first | exact opv_build rfl rfl (by exact rfl) | exact opv_convert rfl rfl | exact opv_sliceHi rfl rfl rfl (by omega) (by omega) | exact opv_arrayAt rfl rfl rfl rfl) ?_ | refine sl_pass rfl rfl rfl rfl ?_ | refine sl_buildSlice rfl rfl rfl rfl rfl (by exact rfl) (by exact rfl) (by exact rfl) (by exact rfl) rfl (fun b => ?_) | refine sl_box rfl rfl rfl rfl rfl rfl (fun β => ?_) | refine sl_alloc rfl rfl rfl rfl (by exact rfl) (fun β => ?_) | refine sl_store rfl rfl rfl rfl rfl rfl (by exact rfl) rfl (by exact rfl) ?_)
    | refine sl_region rfl ?_
    | refine sl_draw (by kernel_rfl) (by kernel_rfl) rfl ?_
    | refine chu_nil ?_
    | refine chu_q rfl ?_
    | refine chu_f rfl ?_
    | refine chu_r rfl ?_
    | refine chu_new rfl rfl (by first | exact new_alloc rfl (by exact rfl) | exact new_box rfl rfl rfl | exact new_buildSlice rfl rfl (by exact rfl) rfl (by exact rfl) (by exact rfl) rfl) ?_
    | refine chu_rv rfl rfl rfl (fun β => ?_)
    | refine chu_pass rfl rfl rfl rfl ?_
    | refine chu_store rfl rfl rfl rfl rfl rfl (by exact rfl) rfl (by exact rfl) (by exact rfl) ?_
    | refine chu_P rfl rfl rfl rfl rfl rfl rfl rfl (laid_other 1 (by decide)) rfl ?_
    | refine chu_P rfl rfl rfl rfl rfl rfl rfl rfl (laid_fat) rfl ?_
    | refine chu_P rfl rfl rfl rfl rfl rfl rfl rfl (cT) rfl ?_
    | refine chu_P rfl rfl rfl rfl rfl rfl rfl rfl (cK) rfl ?_
    | refine chu_P rfl rfl rfl rfl rfl rfl rfl rfl (cM) rfl ?_
    | refine chu_P rfl rfl rfl rfl rfl rfl rfl rfl (cG) rfl ?_
    | refine chu_P rfl rfl rfl rfl rfl rfl rfl rfl (cP) rfl ?_
    | refine sl_nil ?_
    | refine thn_k ?_
    | refine swp_true rfl ?_
    | refine swp_false rfl ?_
    | refine swp_block ?_
    | refine swp_ret ?_
    | refine swp_exit ?_
    | refine swp_skip ?_
    | refine thn_ret ?_
    | refine inb_ret ?_
    | refine inb_k ?_
    | refine thn_exit ?_
    | refine inb_exit ?_
    | refine inb_out rfl ?_)
  all_goals first | exact end_pure (resOk_two (resV_cellA rfl rfl rfl rfl) (resV_tmp rfl)) rfl | (exfalso; omega)
theorem Open_other (w : Nat) (hw : w < 2 ^ 50) (hm : HMay ((w % 8 : Nat) : Int) (wO w) (wC w) 0 0 (wK w)) (ht : w % 8 ≠ 4) : PFn Try.prog 11 [u64 w] [] (.tuple #[hdr ((w % 8 : Nat) : Int) (wO w) (wC w) 0 0 (wK w), .bool true]) := by
  have eK : wK w = w / 8 % 16777216 := rfl
  have eO : wO w = w / 134217728 % 32768 := rfl
  have eC : wC w = w / 4398046511104 % 256 := rfl
  have cT : PFn Try.prog 25 [fld 0 3, u64 w] [] (u64 (w % 8)) := Of_lit 0 3 w (by omega) (by decide) (by decide) (by rw [Nat.pow_zero, Nat.div_one]; try exact ht)
  have cK : PFn Try.prog 25 [fld 3 24, u64 w] [] (u64 (wK w)) := Of_lit 3 24 w (by omega) (by decide) (by decide) rfl
  have cO : PFn Try.prog 25 [fld 27 15, u64 w] [] (u64 (wO w)) := Of_lit 27 15 w (by omega) (by decide) (by decide) rfl
  have cC : PFn Try.prog 25 [fld 42 8, u64 w] [] (u64 (wC w)) := Of_lit 42 8 w (by omega) (by decide) (by decide) rfl
  have hT := wrapN (show w % 8 < 2 ^ 63 by omega)
  have hK := wrapN (show wK w < 2 ^ 63 by omega)
  have hO := wrapN (show wO w < 2 ^ 63 by omega)
  have hC := wrapN (show wC w < 2 ^ 63 by omega)
  have cL := laid_other ((w % 8 : Nat) : Int) (by omega)
  have cP := Pack_other (w % 8) (wO w) (wC w) (wK w) (by omega) hm
  have hv : w % 8 + wK w * 2 ^ 3 + wO w * 2 ^ 27 + wC w * 2 ^ 42 = w := by omega
  rw [hv] at cP
  have ht' : ((w % 8 : Nat) : Int) ≠ 4 := by omega
  clear hm
  generalize wK w = k at *
  generalize wO w = o at *
  generalize wC w = c at *
  generalize w % 8 = t at *
  refine pure_of_body Try.func11 rfl (Nat.le_of_ble_eq_true rfl) fun F => ?_
  repeat' (first
    | refine sl_op rfl rfl rfl ((opv_convert rfl rfl).to (congrArg (Value.int .i64) hT)) ?_
    | refine sl_op rfl rfl rfl ((opv_convert rfl rfl).to (congrArg (Value.int .i64) hK)) ?_
    | refine sl_op rfl rfl rfl ((opv_convert rfl rfl).to (congrArg (Value.int .i64) hO)) ?_
    | refine sl_op rfl rfl rfl ((opv_convert rfl rfl).to (congrArg (Value.int .i64) hC)) ?_
    | refine swp_seq ?_
    | (refine gk 0 rfl ?_; first | refine sl_op rfl rfl rfl (by first | exact opv_move rfl rfl | exact opv_assign rfl rfl | exact opv_pick_t rfl rfl rfl | exact opv_pick_f rfl rfl rfl | exact opv_not_t rfl rfl | exact opv_not_f rfl rfl | exact opv_not rfl rfl | exact opv_extract rfl rfl rfl | exact opv_makeFunc rfl rfl rfl) ?_ | refine sl_bool rfl rfl rfl (by first | exact opv_move rfl rfl | exact opv_assign rfl rfl | exact opv_pick_t rfl rfl rfl | exact opv_pick_f rfl rfl rfl | exact opv_not_t rfl rfl | exact opv_not_f rfl rfl | exact opv_not rfl rfl | exact opv_extract rfl rfl rfl | exact opv_makeFunc rfl rfl rfl) (fun h => ?_) (fun h => ?_) | refine sl_pass rfl rfl rfl rfl ?_)
    | (refine gk 1 rfl ?_; first | refine sl_op rfl rfl rfl (by first | exact opv_add64 rfl rfl rfl (by omega) (by omega) | exact opv_sub64 rfl rfl rfl (by omega) (by omega) | exact opv_add rfl rfl rfl | exact opv_sub rfl rfl rfl | exact opv_mul rfl rfl rfl | exact opv_rem rfl rfl rfl (by omega) | exact opv_quo rfl rfl rfl (by omega) | exact opv_shl rfl rfl rfl (by omega) | exact opv_shr rfl rfl rfl (by omega) | exact opv_bits rfl rfl rfl (by decide)) ?_ | refine sl_pass rfl rfl rfl rfl ?_)
    | (refine gk 2 rfl ?_; first | refine sl_pass rfl rfl rfl rfl ?_ | refine sl_yes rfl rfl rfl (by first | exact opv_lss rfl rfl rfl | exact opv_leq rfl rfl rfl | exact opv_gtr rfl rfl rfl | exact opv_geq rfl rfl rfl | exact opv_eql rfl rfl rfl | exact opv_neq rfl rfl rfl) (by first | omega | decide +kernel) ?_ | refine sl_no rfl rfl rfl (by first | exact opv_lss rfl rfl rfl | exact opv_leq rfl rfl rfl | exact opv_gtr rfl rfl rfl | exact opv_geq rfl rfl rfl | exact opv_eql rfl rfl rfl | exact opv_neq rfl rfl rfl) (by first | omega | decide +kernel) ?_ | refine sl_if rfl rfl rfl (by first | exact opv_lss rfl rfl rfl | exact opv_leq rfl rfl rfl | exact opv_gtr rfl rfl rfl | exact opv_geq rfl rfl rfl | exact opv_eql rfl rfl rfl | exact opv_neq rfl rfl rfl) (fun h => ?_) (fun h => ?_) | refine sl_tt rfl rfl rfl (by first | exact opv_eqlB Try.underlying4 rfl rfl rfl | exact opv_neqB Try.underlying4 rfl rfl rfl | exact opv_eqlS rfl rfl rfl rfl | exact opv_neqS rfl rfl rfl rfl) (by first | rfl | assumption) ?_ | refine sl_ff rfl rfl rfl (by first | exact opv_eqlB Try.underlying4 rfl rfl rfl | exact opv_neqB Try.underlying4 rfl rfl rfl | exact opv_eqlS rfl rfl rfl rfl | exact opv_neqS rfl rfl rfl rfl) (by first | rfl | assumption) ?_ | refine sl_bool rfl rfl rfl (by first | exact opv_eqlB Try.underlying4 rfl rfl rfl | exact opv_neqB Try.underlying4 rfl rfl rfl | exact opv_eqlS rfl rfl rfl rfl | exact opv_neqS rfl rfl rfl rfl) (fun h => ?_) (fun h => ?_))
    | (refine gk 3 rfl ?_; first | refine sl_op rfl rfl rfl (by first | exact opv_load rfl (by exact rfl) rfl (by exact rfl) | exact opv_fieldAddr rfl rfl | exact opv_loadA rfl (by exact rfl) rfl (by exact rfl) (by exact rfl) | exact opv_indexAddrI rfl rfl rfl (by omega) (by omega) (by first | omega | (simp only [List.length_map]; omega) | (simp only [List.length_cons, List.length_nil]; omega)) | exact opv_index rfl rfl rfl (by omega) (by omega) (by first | assumption | exact rfl) | exact opv_indexA rfl rfl rfl (by omega) (by omega) (by first | assumption | exact rfl) | exact opv_indexAddrR rfl rfl rfl (by omega) (by omega) | exact opv_fieldAddrE rfl rfl (by first | assumption | omega) | exact opv_loadELx rfl (by exact rfl) (by infer_instance) rfl rfl rfl | exact opv_loadEx rfl (by exact rfl) (by infer_instance) (by first | assumption | exact rfl) | exact opv_load2 rfl (by exact rfl) (by infer_instance) (by assumption) (by assumption)) ?_ | refine sl_pass rfl rfl rfl rfl ?_)
    | (refine gk 4 rfl ?_; first | refine sl_pass rfl rfl rfl rfl ?_ | refine sl_op rfl rfl rfl (by first | exact opv_len rfl rfl rfl rfl rfl | exact opv_min rfl rfl rfl rfl rfl) ?_ | refine sl_op rfl rfl rfl (opv_call rfl rfl rfl rfl rfl (laid_other 1 (by decide))) ?_ | refine sl_op rfl rfl rfl (opv_call rfl rfl rfl rfl rfl (cL)) ?_ | refine sl_op rfl rfl rfl (opv_call rfl rfl rfl rfl rfl (cT)) ?_ | refine sl_op rfl rfl rfl (opv_call rfl rfl rfl rfl rfl (cK)) ?_ | refine sl_op rfl rfl rfl (opv_call rfl rfl rfl rfl rfl (cO)) ?_ | refine sl_op rfl rfl rfl (opv_call rfl rfl rfl rfl rfl (cC)) ?_ | refine sl_op rfl rfl rfl (opv_call rfl rfl rfl rfl rfl (cP)) ?_)
    | (refine gk 5 rfl ?_; first | refine sl_op rfl rfl rfl (by first | exact opv_build rfl rfl (by exact rfl) | exact opv_convert rfl rfl | exact opv_sliceHi rfl rfl rfl (by omega) (by omega) | exact opv_arrayAt rfl rfl rfl rfl) ?_ | refine sl_pass rfl rfl rfl rfl ?_ | refine sl_buildSlice rfl rfl rfl rfl rfl (by exact rfl) (by exact rfl) (by exact rfl) (by exact rfl) rfl (fun b => ?_) | refine sl_box rfl rfl rfl rfl rfl rfl (fun β => ?_) | refine sl_alloc rfl rfl rfl rfl (by exact rfl) (fun β => ?_) | refine sl_store rfl rfl rfl rfl rfl rfl (by exact rfl) rfl (by exact rfl) ?_)
    | refine sl_region rfl ?_
    | refine sl_draw (by kernel_rfl) (by kernel_rfl) rfl ?_
    | refine chu_nil ?_
    | refine chu_q rfl ?_
    | refine chu_f rfl ?_
    | refine chu_r rfl ?_
    | refine chu_new rfl rfl (by first | exact new_alloc rfl (by exact rfl) | exact new_box rfl rfl rfl | exact new_buildSlice rfl rfl (by exact rfl) rfl (by exact rfl) (by exact rfl) rfl) ?_
    | refine chu_rv rfl rfl rfl (fun β => ?_)
    | refine chu_pass rfl rfl rfl rfl ?_
    | refine chu_store rfl rfl rfl rfl rfl rfl (by exact rfl) rfl (by exact rfl) (by exact rfl) ?_
    | refine chu_P rfl rfl rfl rfl rfl rfl rfl rfl (laid_other 1 (by decide)) rfl ?_
    | refine chu_P rfl rfl rfl rfl rfl rfl rfl rfl (cL) rfl ?_
    | refine chu_P rfl rfl rfl rfl rfl rfl rfl rfl (cT) rfl ?_
    | refine chu_P rfl rfl rfl rfl rfl rfl rfl rfl (cK) rfl ?_
    | refine chu_P rfl rfl rfl rfl rfl rfl rfl rfl (cO) rfl ?_
    | refine chu_P rfl rfl rfl rfl rfl rfl rfl rfl (cC) rfl ?_
    | refine chu_P rfl rfl rfl rfl rfl rfl rfl rfl (cP) rfl ?_
    | refine sl_nil ?_
    | refine thn_k ?_
    | refine swp_true rfl ?_
    | refine swp_false rfl ?_
    | refine swp_block ?_
    | refine swp_ret ?_
    | refine swp_exit ?_
    | refine swp_skip ?_
    | refine thn_ret ?_
    | refine inb_ret ?_
    | refine inb_k ?_
    | refine thn_exit ?_
    | refine inb_exit ?_
    | refine inb_out rfl ?_)
  all_goals first | exact end_pure (resOk_two (resV_cellA rfl rfl rfl rfl) (resV_tmp rfl)) rfl | (exfalso; omega)
theorem Open_other_no (w : Nat) (hw : w < 2 ^ 64) (hm : ¬ HMay ((w % 8 : Nat) : Int) (wO w) (wC w) 0 0 (wK w)) (ht : w % 8 ≠ 4) : PFn Try.prog 11 [u64 w] [] (.tuple #[hdr 0 0 0 0 0 0, .bool false]) := by
  have eK : wK w = w / 8 % 16777216 := rfl
  have eO : wO w = w / 134217728 % 32768 := rfl
  have eC : wC w = w / 4398046511104 % 256 := rfl
  have cT : PFn Try.prog 25 [fld 0 3, u64 w] [] (u64 (w % 8)) := Of_lit 0 3 w (by omega) (by decide) (by decide) (by rw [Nat.pow_zero, Nat.div_one]; try exact ht)
  have cK : PFn Try.prog 25 [fld 3 24, u64 w] [] (u64 (wK w)) := Of_lit 3 24 w (by omega) (by decide) (by decide) rfl
  have cO : PFn Try.prog 25 [fld 27 15, u64 w] [] (u64 (wO w)) := Of_lit 27 15 w (by omega) (by decide) (by decide) rfl
  have cC : PFn Try.prog 25 [fld 42 8, u64 w] [] (u64 (wC w)) := Of_lit 42 8 w (by omega) (by decide) (by decide) rfl
  have hT := wrapN (show w % 8 < 2 ^ 63 by omega)
  have hK := wrapN (show wK w < 2 ^ 63 by omega)
  have hO := wrapN (show wO w < 2 ^ 63 by omega)
  have hC := wrapN (show wC w < 2 ^ 63 by omega)
  have cL := laid_other ((w % 8 : Nat) : Int) (by omega)
  have cP := Pack_no ((w % 8 : Nat) : Int) (wO w) (wC w) 0 0 (wK w) hm
  have ht' : ((w % 8 : Nat) : Int) ≠ 4 := by omega
  clear hm
  generalize wK w = k at *
  generalize wO w = o at *
  generalize wC w = c at *
  generalize w % 8 = t at *
  refine pure_of_body Try.func11 rfl (Nat.le_of_ble_eq_true rfl) fun F => ?_
  repeat' (first
    | refine sl_op rfl rfl rfl ((opv_convert rfl rfl).to (congrArg (Value.int .i64) hT)) ?_
    | refine sl_op rfl rfl rfl ((opv_convert rfl rfl).to (congrArg (Value.int .i64) hK)) ?_
    | refine sl_op rfl rfl rfl ((opv_convert rfl rfl).to (congrArg (Value.int .i64) hO)) ?_
    | refine sl_op rfl rfl rfl ((opv_convert rfl rfl).to (congrArg (Value.int .i64) hC)) ?_
    | refine swp_seq ?_
    | (refine gk 0 rfl ?_; first | refine sl_op rfl rfl rfl (by first | exact opv_move rfl rfl | exact opv_assign rfl rfl | exact opv_pick_t rfl rfl rfl | exact opv_pick_f rfl rfl rfl | exact opv_not_t rfl rfl | exact opv_not_f rfl rfl | exact opv_not rfl rfl | exact opv_extract rfl rfl rfl | exact opv_makeFunc rfl rfl rfl) ?_ | refine sl_bool rfl rfl rfl (by first | exact opv_move rfl rfl | exact opv_assign rfl rfl | exact opv_pick_t rfl rfl rfl | exact opv_pick_f rfl rfl rfl | exact opv_not_t rfl rfl | exact opv_not_f rfl rfl | exact opv_not rfl rfl | exact opv_extract rfl rfl rfl | exact opv_makeFunc rfl rfl rfl) (fun h => ?_) (fun h => ?_) | refine sl_pass rfl rfl rfl rfl ?_)
    | (refine gk 1 rfl ?_; first | refine sl_op rfl rfl rfl (by first | exact opv_add64 rfl rfl rfl (by omega) (by omega) | exact opv_sub64 rfl rfl rfl (by omega) (by omega) | exact opv_add rfl rfl rfl | exact opv_sub rfl rfl rfl | exact opv_mul rfl rfl rfl | exact opv_rem rfl rfl rfl (by omega) | exact opv_quo rfl rfl rfl (by omega) | exact opv_shl rfl rfl rfl (by omega) | exact opv_shr rfl rfl rfl (by omega) | exact opv_bits rfl rfl rfl (by decide)) ?_ | refine sl_pass rfl rfl rfl rfl ?_)
    | (refine gk 2 rfl ?_; first | refine sl_pass rfl rfl rfl rfl ?_ | refine sl_yes rfl rfl rfl (by first | exact opv_lss rfl rfl rfl | exact opv_leq rfl rfl rfl | exact opv_gtr rfl rfl rfl | exact opv_geq rfl rfl rfl | exact opv_eql rfl rfl rfl | exact opv_neq rfl rfl rfl) (by first | omega | decide +kernel) ?_ | refine sl_no rfl rfl rfl (by first | exact opv_lss rfl rfl rfl | exact opv_leq rfl rfl rfl | exact opv_gtr rfl rfl rfl | exact opv_geq rfl rfl rfl | exact opv_eql rfl rfl rfl | exact opv_neq rfl rfl rfl) (by first | omega | decide +kernel) ?_ | refine sl_if rfl rfl rfl (by first | exact opv_lss rfl rfl rfl | exact opv_leq rfl rfl rfl | exact opv_gtr rfl rfl rfl | exact opv_geq rfl rfl rfl | exact opv_eql rfl rfl rfl | exact opv_neq rfl rfl rfl) (fun h => ?_) (fun h => ?_) | refine sl_tt rfl rfl rfl (by first | exact opv_eqlB Try.underlying4 rfl rfl rfl | exact opv_neqB Try.underlying4 rfl rfl rfl | exact opv_eqlS rfl rfl rfl rfl | exact opv_neqS rfl rfl rfl rfl) (by first | rfl | assumption) ?_ | refine sl_ff rfl rfl rfl (by first | exact opv_eqlB Try.underlying4 rfl rfl rfl | exact opv_neqB Try.underlying4 rfl rfl rfl | exact opv_eqlS rfl rfl rfl rfl | exact opv_neqS rfl rfl rfl rfl) (by first | rfl | assumption) ?_ | refine sl_bool rfl rfl rfl (by first | exact opv_eqlB Try.underlying4 rfl rfl rfl | exact opv_neqB Try.underlying4 rfl rfl rfl | exact opv_eqlS rfl rfl rfl rfl | exact opv_neqS rfl rfl rfl rfl) (fun h => ?_) (fun h => ?_))
    | (refine gk 3 rfl ?_; first | refine sl_op rfl rfl rfl (by first | exact opv_load rfl (by exact rfl) rfl (by exact rfl) | exact opv_fieldAddr rfl rfl | exact opv_loadA rfl (by exact rfl) rfl (by exact rfl) (by exact rfl) | exact opv_indexAddrI rfl rfl rfl (by omega) (by omega) (by first | omega | (simp only [List.length_map]; omega) | (simp only [List.length_cons, List.length_nil]; omega)) | exact opv_index rfl rfl rfl (by omega) (by omega) (by first | assumption | exact rfl) | exact opv_indexA rfl rfl rfl (by omega) (by omega) (by first | assumption | exact rfl) | exact opv_indexAddrR rfl rfl rfl (by omega) (by omega) | exact opv_fieldAddrE rfl rfl (by first | assumption | omega) | exact opv_loadELx rfl (by exact rfl) (by infer_instance) rfl rfl rfl | exact opv_loadEx rfl (by exact rfl) (by infer_instance) (by first | assumption | exact rfl) | exact opv_load2 rfl (by exact rfl) (by infer_instance) (by assumption) (by assumption)) ?_ | refine sl_pass rfl rfl rfl rfl ?_)
    | (refine gk 4 rfl ?_; first | refine sl_pass rfl rfl rfl rfl ?_ | refine sl_op rfl rfl rfl (by first | exact opv_len rfl rfl rfl rfl rfl | exact opv_min rfl rfl rfl rfl rfl) ?_ | refine sl_op rfl rfl rfl (opv_call rfl rfl rfl rfl rfl (laid_other 1 (by decide))) ?_ | refine sl_op rfl rfl rfl (opv_call rfl rfl rfl rfl rfl (cL)) ?_ | refine sl_op rfl rfl rfl (opv_call rfl rfl rfl rfl rfl (cT)) ?_ | refine sl_op rfl rfl rfl (opv_call rfl rfl rfl rfl rfl (cK)) ?_ | refine sl_op rfl rfl rfl (opv_call rfl rfl rfl rfl rfl (cO)) ?_ | refine sl_op rfl rfl rfl (opv_call rfl rfl rfl rfl rfl (cC)) ?_ | refine sl_op rfl rfl rfl (opv_call rfl rfl rfl rfl rfl (cP)) ?_)
    | (refine gk 5 rfl ?_; first | refine sl_op rfl rfl rfl (by first | exact opv_build rfl rfl (by exact rfl) | exact opv_convert rfl rfl | exact opv_sliceHi rfl rfl rfl (by omega) (by omega) | exact opv_arrayAt rfl rfl rfl rfl) ?_ | refine sl_pass rfl rfl rfl rfl ?_ | refine sl_buildSlice rfl rfl rfl rfl rfl (by exact rfl) (by exact rfl) (by exact rfl) (by exact rfl) rfl (fun b => ?_) | refine sl_box rfl rfl rfl rfl rfl rfl (fun β => ?_) | refine sl_alloc rfl rfl rfl rfl (by exact rfl) (fun β => ?_) | refine sl_store rfl rfl rfl rfl rfl rfl (by exact rfl) rfl (by exact rfl) ?_)
    | refine sl_region rfl ?_
    | refine sl_draw (by kernel_rfl) (by kernel_rfl) rfl ?_
    | refine chu_nil ?_
    | refine chu_q rfl ?_
    | refine chu_f rfl ?_
    | refine chu_r rfl ?_
    | refine chu_new rfl rfl (by first | exact new_alloc rfl (by exact rfl) | exact new_box rfl rfl rfl | exact new_buildSlice rfl rfl (by exact rfl) rfl (by exact rfl) (by exact rfl) rfl) ?_
    | refine chu_rv rfl rfl rfl (fun β => ?_)
    | refine chu_pass rfl rfl rfl rfl ?_
    | refine chu_store rfl rfl rfl rfl rfl rfl (by exact rfl) rfl (by exact rfl) (by exact rfl) ?_
    | refine chu_P rfl rfl rfl rfl rfl rfl rfl rfl (laid_other 1 (by decide)) rfl ?_
    | refine chu_P rfl rfl rfl rfl rfl rfl rfl rfl (cL) rfl ?_
    | refine chu_P rfl rfl rfl rfl rfl rfl rfl rfl (cT) rfl ?_
    | refine chu_P rfl rfl rfl rfl rfl rfl rfl rfl (cK) rfl ?_
    | refine chu_P rfl rfl rfl rfl rfl rfl rfl rfl (cO) rfl ?_
    | refine chu_P rfl rfl rfl rfl rfl rfl rfl rfl (cC) rfl ?_
    | refine chu_P rfl rfl rfl rfl rfl rfl rfl rfl (cP) rfl ?_
    | refine sl_nil ?_
    | refine thn_k ?_
    | refine swp_true rfl ?_
    | refine swp_false rfl ?_
    | refine swp_block ?_
    | refine swp_ret ?_
    | refine swp_exit ?_
    | refine swp_skip ?_
    | refine thn_ret ?_
    | refine inb_ret ?_
    | refine inb_k ?_
    | refine thn_exit ?_
    | refine inb_exit ?_
    | refine inb_out rfl ?_)
  all_goals first | exact end_pure (resOk_two (resV_cellA rfl rfl rfl rfl) (resV_tmp rfl)) rfl | (exfalso; omega)
theorem Open_other_big (w : Nat) (hw : w < 2 ^ 64) (hb : 2 ^ 50 ≤ w) (hm : HMay ((w % 8 : Nat) : Int) (wO w) (wC w) 0 0 (wK w)) (ht : w % 8 ≠ 4) : PFn Try.prog 11 [u64 w] [] (.tuple #[hdr 0 0 0 0 0 0, .bool false]) := by
  have eK : wK w = w / 8 % 16777216 := rfl
  have eO : wO w = w / 134217728 % 32768 := rfl
  have eC : wC w = w / 4398046511104 % 256 := rfl
  have cT : PFn Try.prog 25 [fld 0 3, u64 w] [] (u64 (w % 8)) := Of_lit 0 3 w (by omega) (by decide) (by decide) (by rw [Nat.pow_zero, Nat.div_one]; try exact ht)
  have cK : PFn Try.prog 25 [fld 3 24, u64 w] [] (u64 (wK w)) := Of_lit 3 24 w (by omega) (by decide) (by decide) rfl
  have cO : PFn Try.prog 25 [fld 27 15, u64 w] [] (u64 (wO w)) := Of_lit 27 15 w (by omega) (by decide) (by decide) rfl
  have cC : PFn Try.prog 25 [fld 42 8, u64 w] [] (u64 (wC w)) := Of_lit 42 8 w (by omega) (by decide) (by decide) rfl
  have hT := wrapN (show w % 8 < 2 ^ 63 by omega)
  have hK := wrapN (show wK w < 2 ^ 63 by omega)
  have hO := wrapN (show wO w < 2 ^ 63 by omega)
  have hC := wrapN (show wC w < 2 ^ 63 by omega)
  have cL := laid_other ((w % 8 : Nat) : Int) (by omega)
  have cP := Pack_other (w % 8) (wO w) (wC w) (wK w) (by omega) hm
  have hv : ¬ w % 8 + wK w * 2 ^ 3 + wO w * 2 ^ 27 + wC w * 2 ^ 42 = w := by omega
  have ht' : ((w % 8 : Nat) : Int) ≠ 4 := by omega
  clear hm
  generalize wK w = k at *
  generalize wO w = o at *
  generalize wC w = c at *
  generalize w % 8 = t at *
  generalize t + k * 2 ^ 3 + o * 2 ^ 27 + c * 2 ^ 42 = v at *
  refine pure_of_body Try.func11 rfl (Nat.le_of_ble_eq_true rfl) fun F => ?_
  repeat' (first
    | refine sl_op rfl rfl rfl ((opv_convert rfl rfl).to (congrArg (Value.int .i64) hT)) ?_
    | refine sl_op rfl rfl rfl ((opv_convert rfl rfl).to (congrArg (Value.int .i64) hK)) ?_
    | refine sl_op rfl rfl rfl ((opv_convert rfl rfl).to (congrArg (Value.int .i64) hO)) ?_
    | refine sl_op rfl rfl rfl ((opv_convert rfl rfl).to (congrArg (Value.int .i64) hC)) ?_
    | refine swp_seq ?_
    | (refine gk 0 rfl ?_; first | refine sl_op rfl rfl rfl (by first | exact opv_move rfl rfl | exact opv_assign rfl rfl | exact opv_pick_t rfl rfl rfl | exact opv_pick_f rfl rfl rfl | exact opv_not_t rfl rfl | exact opv_not_f rfl rfl | exact opv_not rfl rfl | exact opv_extract rfl rfl rfl | exact opv_makeFunc rfl rfl rfl) ?_ | refine sl_bool rfl rfl rfl (by first | exact opv_move rfl rfl | exact opv_assign rfl rfl | exact opv_pick_t rfl rfl rfl | exact opv_pick_f rfl rfl rfl | exact opv_not_t rfl rfl | exact opv_not_f rfl rfl | exact opv_not rfl rfl | exact opv_extract rfl rfl rfl | exact opv_makeFunc rfl rfl rfl) (fun h => ?_) (fun h => ?_) | refine sl_pass rfl rfl rfl rfl ?_)
    | (refine gk 1 rfl ?_; first | refine sl_op rfl rfl rfl (by first | exact opv_add64 rfl rfl rfl (by omega) (by omega) | exact opv_sub64 rfl rfl rfl (by omega) (by omega) | exact opv_add rfl rfl rfl | exact opv_sub rfl rfl rfl | exact opv_mul rfl rfl rfl | exact opv_rem rfl rfl rfl (by omega) | exact opv_quo rfl rfl rfl (by omega) | exact opv_shl rfl rfl rfl (by omega) | exact opv_shr rfl rfl rfl (by omega) | exact opv_bits rfl rfl rfl (by decide)) ?_ | refine sl_pass rfl rfl rfl rfl ?_)
    | (refine gk 2 rfl ?_; first | refine sl_pass rfl rfl rfl rfl ?_ | refine sl_yes rfl rfl rfl (by first | exact opv_lss rfl rfl rfl | exact opv_leq rfl rfl rfl | exact opv_gtr rfl rfl rfl | exact opv_geq rfl rfl rfl | exact opv_eql rfl rfl rfl | exact opv_neq rfl rfl rfl) (by first | omega | decide +kernel) ?_ | refine sl_no rfl rfl rfl (by first | exact opv_lss rfl rfl rfl | exact opv_leq rfl rfl rfl | exact opv_gtr rfl rfl rfl | exact opv_geq rfl rfl rfl | exact opv_eql rfl rfl rfl | exact opv_neq rfl rfl rfl) (by first | omega | decide +kernel) ?_ | refine sl_if rfl rfl rfl (by first | exact opv_lss rfl rfl rfl | exact opv_leq rfl rfl rfl | exact opv_gtr rfl rfl rfl | exact opv_geq rfl rfl rfl | exact opv_eql rfl rfl rfl | exact opv_neq rfl rfl rfl) (fun h => ?_) (fun h => ?_) | refine sl_tt rfl rfl rfl (by first | exact opv_eqlB Try.underlying4 rfl rfl rfl | exact opv_neqB Try.underlying4 rfl rfl rfl | exact opv_eqlS rfl rfl rfl rfl | exact opv_neqS rfl rfl rfl rfl) (by first | rfl | assumption) ?_ | refine sl_ff rfl rfl rfl (by first | exact opv_eqlB Try.underlying4 rfl rfl rfl | exact opv_neqB Try.underlying4 rfl rfl rfl | exact opv_eqlS rfl rfl rfl rfl | exact opv_neqS rfl rfl rfl rfl) (by first | rfl | assumption) ?_ | refine sl_bool rfl rfl rfl (by first | exact opv_eqlB Try.underlying4 rfl rfl rfl | exact opv_neqB Try.underlying4 rfl rfl rfl | exact opv_eqlS rfl rfl rfl rfl | exact opv_neqS rfl rfl rfl rfl) (fun h => ?_) (fun h => ?_))
    | (refine gk 3 rfl ?_; first | refine sl_op rfl rfl rfl (by first | exact opv_load rfl (by exact rfl) rfl (by exact rfl) | exact opv_fieldAddr rfl rfl | exact opv_loadA rfl (by exact rfl) rfl (by exact rfl) (by exact rfl) | exact opv_indexAddrI rfl rfl rfl (by omega) (by omega) (by first | omega | (simp only [List.length_map]; omega) | (simp only [List.length_cons, List.length_nil]; omega)) | exact opv_index rfl rfl rfl (by omega) (by omega) (by first | assumption | exact rfl) | exact opv_indexA rfl rfl rfl (by omega) (by omega) (by first | assumption | exact rfl) | exact opv_indexAddrR rfl rfl rfl (by omega) (by omega) | exact opv_fieldAddrE rfl rfl (by first | assumption | omega) | exact opv_loadELx rfl (by exact rfl) (by infer_instance) rfl rfl rfl | exact opv_loadEx rfl (by exact rfl) (by infer_instance) (by first | assumption | exact rfl) | exact opv_load2 rfl (by exact rfl) (by infer_instance) (by assumption) (by assumption)) ?_ | refine sl_pass rfl rfl rfl rfl ?_)
    | (refine gk 4 rfl ?_; first | refine sl_pass rfl rfl rfl rfl ?_ | refine sl_op rfl rfl rfl (by first | exact opv_len rfl rfl rfl rfl rfl | exact opv_min rfl rfl rfl rfl rfl) ?_ | refine sl_op rfl rfl rfl (opv_call rfl rfl rfl rfl rfl (laid_other 1 (by decide))) ?_ | refine sl_op rfl rfl rfl (opv_call rfl rfl rfl rfl rfl (cL)) ?_ | refine sl_op rfl rfl rfl (opv_call rfl rfl rfl rfl rfl (cT)) ?_ | refine sl_op rfl rfl rfl (opv_call rfl rfl rfl rfl rfl (cK)) ?_ | refine sl_op rfl rfl rfl (opv_call rfl rfl rfl rfl rfl (cO)) ?_ | refine sl_op rfl rfl rfl (opv_call rfl rfl rfl rfl rfl (cC)) ?_ | refine sl_op rfl rfl rfl (opv_call rfl rfl rfl rfl rfl (cP)) ?_)
    | (refine gk 5 rfl ?_; first | refine sl_op rfl rfl rfl (by first | exact opv_build rfl rfl (by exact rfl) | exact opv_convert rfl rfl | exact opv_sliceHi rfl rfl rfl (by omega) (by omega) | exact opv_arrayAt rfl rfl rfl rfl) ?_ | refine sl_pass rfl rfl rfl rfl ?_ | refine sl_buildSlice rfl rfl rfl rfl rfl (by exact rfl) (by exact rfl) (by exact rfl) (by exact rfl) rfl (fun b => ?_) | refine sl_box rfl rfl rfl rfl rfl rfl (fun β => ?_) | refine sl_alloc rfl rfl rfl rfl (by exact rfl) (fun β => ?_) | refine sl_store rfl rfl rfl rfl rfl rfl (by exact rfl) rfl (by exact rfl) ?_)
    | refine sl_region rfl ?_
    | refine sl_draw (by kernel_rfl) (by kernel_rfl) rfl ?_
    | refine chu_nil ?_
    | refine chu_q rfl ?_
    | refine chu_f rfl ?_
    | refine chu_r rfl ?_
    | refine chu_new rfl rfl (by first | exact new_alloc rfl (by exact rfl) | exact new_box rfl rfl rfl | exact new_buildSlice rfl rfl (by exact rfl) rfl (by exact rfl) (by exact rfl) rfl) ?_
    | refine chu_rv rfl rfl rfl (fun β => ?_)
    | refine chu_pass rfl rfl rfl rfl ?_
    | refine chu_store rfl rfl rfl rfl rfl rfl (by exact rfl) rfl (by exact rfl) (by exact rfl) ?_
    | refine chu_P rfl rfl rfl rfl rfl rfl rfl rfl (laid_other 1 (by decide)) rfl ?_
    | refine chu_P rfl rfl rfl rfl rfl rfl rfl rfl (cL) rfl ?_
    | refine chu_P rfl rfl rfl rfl rfl rfl rfl rfl (cT) rfl ?_
    | refine chu_P rfl rfl rfl rfl rfl rfl rfl rfl (cK) rfl ?_
    | refine chu_P rfl rfl rfl rfl rfl rfl rfl rfl (cO) rfl ?_
    | refine chu_P rfl rfl rfl rfl rfl rfl rfl rfl (cC) rfl ?_
    | refine chu_P rfl rfl rfl rfl rfl rfl rfl rfl (cP) rfl ?_
    | refine sl_nil ?_
    | refine thn_k ?_
    | refine swp_true rfl ?_
    | refine swp_false rfl ?_
    | refine swp_block ?_
    | refine swp_ret ?_
    | refine swp_exit ?_
    | refine swp_skip ?_
    | refine thn_ret ?_
    | refine inb_ret ?_
    | refine inb_k ?_
    | refine thn_exit ?_
    | refine inb_exit ?_
    | refine inb_out rfl ?_)
  all_goals first | exact end_pure (resOk_two (resV_cellA rfl rfl rfl rfl) (resV_tmp rfl)) rfl | (exfalso; omega)
end Go.Proofs.Ytblobkigbdcjeaa
