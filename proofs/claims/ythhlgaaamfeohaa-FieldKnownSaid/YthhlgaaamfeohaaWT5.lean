/- Functions of the package field, walked: part 5. -/
import Derived.Test.YthhlgaaamfeohaaWT4
namespace Go.Proofs.Ythhlgaaamfeohaa
open Go.SL
set_option maxRecDepth 100000
set_option maxHeartbeats 32000000
attribute [local irreducible] T PFn OpV SOL SWP HOp
theorem FieldKnown_calls : PFn Try.prog 7 [] [] (.bool true) := by
  refine pure_of_body Try.func7 rfl (Nat.le_of_ble_eq_true rfl) fun F => ?_
  refine swp_emp ?_
  repeat' (first
    | refine sl_op rfl rfl rfl (opv_call rfl rfl rfl rfl rfl (Put_yes _ _ _ _ (by decide +kernel))) ?_
    | refine sl_op rfl rfl rfl (opv_call rfl rfl rfl rfl rfl (Put_no _ _ _ _ (by decide +kernel))) ?_
    | refine swp_seq ?_
    | refine sl_region rfl ?_
    | refine sl_draw (by kernel_rfl) (by kernel_rfl) rfl ?_
    | refine sl_nil ?_
    | refine thn_k ?_
    | refine sl_pass rfl rfl rfl rfl ?_
    | refine sl_op rfl rfl rfl (by first | exact opv_move rfl rfl | exact opv_assign rfl rfl | exact opv_load rfl (by exact rfl) rfl (by exact rfl) | exact opv_fieldAddr rfl rfl | exact opv_pick_t rfl rfl rfl | exact opv_pick_f rfl rfl rfl | exact opv_not_t rfl rfl | exact opv_not_f rfl rfl | exact opv_not rfl rfl | exact opv_extract rfl rfl rfl | exact opv_loadA rfl (by exact rfl) rfl (by exact rfl) (by exact rfl) | exact opv_build rfl rfl (by exact rfl) | exact opv_add64 rfl rfl rfl (by omega) (by omega) | exact opv_sub64 rfl rfl rfl (by omega) (by omega) | exact opv_add rfl rfl rfl | exact opv_sub rfl rfl rfl | exact opv_mul rfl rfl rfl | exact opv_rem rfl rfl rfl (by omega) | exact opv_quo rfl rfl rfl (by omega) | exact opv_shl rfl rfl rfl (by omega) | exact opv_shr rfl rfl rfl (by omega) | exact opv_bits rfl rfl rfl (by decide) | exact opv_len rfl rfl rfl rfl rfl | exact opv_min rfl rfl rfl rfl rfl | exact opv_convert rfl rfl | exact opv_makeFunc rfl rfl rfl | exact opv_indexAddrI rfl rfl rfl (by omega) (by omega) (by first | omega | (simp only [List.length_map]; omega) | (simp only [List.length_cons, List.length_nil]; omega)) | exact opv_loadEL rfl (by exact rfl) rfl rfl rfl | exact opv_loadE rfl (by exact rfl) (by first | assumption | exact rfl)) ?_
    | refine sl_op rfl rfl rfl ((by first | exact opv_eqlS rfl rfl rfl rfl | exact opv_neqS rfl rfl rfl rfl : OpV _ _ _ _ _ _).to (show _ = Value.bool true from rfl)) ?_
    | refine sl_op rfl rfl rfl ((by first | exact opv_eqlS rfl rfl rfl rfl | exact opv_neqS rfl rfl rfl rfl : OpV _ _ _ _ _ _).to (show _ = Value.bool false from rfl)) ?_
    | refine sl_bool rfl rfl rfl (by first | exact opv_eqlS rfl rfl rfl rfl | exact opv_neqS rfl rfl rfl rfl) (fun h => ?_) (fun h => ?_)
    | refine sl_yes rfl rfl rfl (by first | exact opv_lss rfl rfl rfl | exact opv_leq rfl rfl rfl | exact opv_gtr rfl rfl rfl | exact opv_geq rfl rfl rfl | exact opv_eql rfl rfl rfl | exact opv_neq rfl rfl rfl) (by first | omega | decide +kernel) ?_
    | refine sl_no rfl rfl rfl (by first | exact opv_lss rfl rfl rfl | exact opv_leq rfl rfl rfl | exact opv_gtr rfl rfl rfl | exact opv_geq rfl rfl rfl | exact opv_eql rfl rfl rfl | exact opv_neq rfl rfl rfl) (by first | omega | decide +kernel) ?_
    | refine sl_if rfl rfl rfl (by first | exact opv_lss rfl rfl rfl | exact opv_leq rfl rfl rfl | exact opv_gtr rfl rfl rfl | exact opv_geq rfl rfl rfl | exact opv_eql rfl rfl rfl | exact opv_neq rfl rfl rfl) (fun h => ?_) (fun h => ?_)
    | refine sl_buildSlice rfl rfl rfl rfl rfl (by exact rfl) (by exact rfl) (by exact rfl) (by exact rfl) rfl (fun b => ?_)
    | refine sl_box rfl rfl rfl rfl rfl rfl (fun β => ?_)
    | refine sl_alloc rfl rfl rfl rfl (by exact rfl) (fun β => ?_)
    | refine sl_store rfl rfl rfl rfl rfl rfl (by exact rfl) rfl (by exact rfl) ?_
    | refine swp_true rfl ?_
    | refine swp_false rfl ?_
    | refine swp_block ?_
    | refine swp_ret ?_
    | refine swp_exit ?_
    | refine swp_skip ?_
    | refine thn_ret ?_
    | refine inb_ret ?_
    | refine inb_k ?_
    | refine thn_exit ?_
    | refine inb_exit ?_
    | refine inb_out rfl ?_)
  refine swp_rounds 8 ?_
  refine srounds ?_
  repeat' (first
    | refine sl_op rfl rfl rfl (opv_call rfl rfl rfl rfl rfl (Put_yes _ _ _ _ (by decide +kernel))) ?_
    | refine sl_op rfl rfl rfl (opv_call rfl rfl rfl rfl rfl (Put_no _ _ _ _ (by decide +kernel))) ?_
    | refine sl_yes rfl rfl rfl (opv_call rfl rfl rfl rfl rfl (May_calls _ _)) (by first | omega | decide +kernel) ?_
    | refine sl_no rfl rfl rfl (opv_call rfl rfl rfl rfl rfl (May_calls _ _)) (by first | omega | decide +kernel) ?_
    | refine sl_if rfl rfl rfl (opv_call rfl rfl rfl rfl rfl (May_calls _ _)) (fun h => ?_) (fun h => ?_)
    | refine sl_yes rfl rfl rfl (opv_call rfl rfl rfl rfl rfl (Apart_is _ _ _ _)) (by first | omega | decide +kernel) ?_
    | refine sl_no rfl rfl rfl (opv_call rfl rfl rfl rfl rfl (Apart_is _ _ _ _)) (by first | omega | decide +kernel) ?_
    | refine sl_if rfl rfl rfl (opv_call rfl rfl rfl rfl rfl (Apart_is _ _ _ _)) (fun h => ?_) (fun h => ?_)
    | refine sl_op rfl rfl rfl (opv_call rfl rfl rfl rfl rfl (Most_calls _ _)) ?_
    | refine sl_op rfl rfl rfl (opv_call rfl rfl rfl rfl rfl (Of_calls _ _ _)) ?_
    | refine swp_seq ?_
    | refine sl_region rfl ?_
    | refine sl_draw (by kernel_rfl) (by kernel_rfl) rfl ?_
    | refine sl_nil ?_
    | refine thn_k ?_
    | refine sl_pass rfl rfl rfl rfl ?_
    | refine sl_op rfl rfl rfl (by first | exact opv_move rfl rfl | exact opv_assign rfl rfl | exact opv_load rfl (by exact rfl) rfl (by exact rfl) | exact opv_fieldAddr rfl rfl | exact opv_pick_t rfl rfl rfl | exact opv_pick_f rfl rfl rfl | exact opv_not_t rfl rfl | exact opv_not_f rfl rfl | exact opv_not rfl rfl | exact opv_extract rfl rfl rfl | exact opv_loadA rfl (by exact rfl) rfl (by exact rfl) (by exact rfl) | exact opv_build rfl rfl (by exact rfl) | exact opv_add64 rfl rfl rfl (by omega) (by omega) | exact opv_sub64 rfl rfl rfl (by omega) (by omega) | exact opv_add rfl rfl rfl | exact opv_sub rfl rfl rfl | exact opv_mul rfl rfl rfl | exact opv_rem rfl rfl rfl (by omega) | exact opv_quo rfl rfl rfl (by omega) | exact opv_shl rfl rfl rfl (by omega) | exact opv_shr rfl rfl rfl (by omega) | exact opv_bits rfl rfl rfl (by decide) | exact opv_len rfl rfl rfl rfl rfl | exact opv_min rfl rfl rfl rfl rfl | exact opv_convert rfl rfl | exact opv_makeFunc rfl rfl rfl | exact opv_indexAddrI rfl rfl rfl (by omega) (by omega) (by first | omega | (simp only [List.length_map]; omega) | (simp only [List.length_cons, List.length_nil]; omega)) | exact opv_loadEL rfl (by exact rfl) rfl rfl rfl | exact opv_loadE rfl (by exact rfl) (by first | assumption | exact rfl)) ?_
    | refine sl_op rfl rfl rfl ((by first | exact opv_eqlS rfl rfl rfl rfl | exact opv_neqS rfl rfl rfl rfl : OpV _ _ _ _ _ _).to (show _ = Value.bool true from rfl)) ?_
    | refine sl_op rfl rfl rfl ((by first | exact opv_eqlS rfl rfl rfl rfl | exact opv_neqS rfl rfl rfl rfl : OpV _ _ _ _ _ _).to (show _ = Value.bool false from rfl)) ?_
    | refine sl_bool rfl rfl rfl (by first | exact opv_eqlS rfl rfl rfl rfl | exact opv_neqS rfl rfl rfl rfl) (fun h => ?_) (fun h => ?_)
    | refine sl_yes rfl rfl rfl (by first | exact opv_lss rfl rfl rfl | exact opv_leq rfl rfl rfl | exact opv_gtr rfl rfl rfl | exact opv_geq rfl rfl rfl | exact opv_eql rfl rfl rfl | exact opv_neq rfl rfl rfl) (by first | omega | decide +kernel) ?_
    | refine sl_no rfl rfl rfl (by first | exact opv_lss rfl rfl rfl | exact opv_leq rfl rfl rfl | exact opv_gtr rfl rfl rfl | exact opv_geq rfl rfl rfl | exact opv_eql rfl rfl rfl | exact opv_neq rfl rfl rfl) (by first | omega | decide +kernel) ?_
    | refine sl_if rfl rfl rfl (by first | exact opv_lss rfl rfl rfl | exact opv_leq rfl rfl rfl | exact opv_gtr rfl rfl rfl | exact opv_geq rfl rfl rfl | exact opv_eql rfl rfl rfl | exact opv_neq rfl rfl rfl) (fun h => ?_) (fun h => ?_)
    | refine sl_buildSlice rfl rfl rfl rfl rfl (by exact rfl) (by exact rfl) (by exact rfl) (by exact rfl) rfl (fun b => ?_)
    | refine sl_box rfl rfl rfl rfl rfl rfl (fun β => ?_)
    | refine sl_alloc rfl rfl rfl rfl (by exact rfl) (fun β => ?_)
    | refine sl_store rfl rfl rfl rfl rfl rfl (by exact rfl) rfl (by exact rfl) ?_
    | refine swp_true rfl ?_
    | refine swp_false rfl ?_
    | refine swp_block ?_
    | refine swp_ret ?_
    | refine swp_exit ?_
    | refine swp_skip ?_
    | refine thn_ret ?_
    | refine inb_ret ?_
    | refine inb_k ?_
    | refine thn_exit ?_
    | refine inb_exit ?_
    | refine inb_out rfl ?_)
  refine sl_op rfl rfl rfl (opv_call rfl rfl rfl rfl rfl works_calls) ?_
  repeat' (first
    | (refine sl_callT rfl rfl rfl rfl rfl rfl rfl rfl Lay_nil ?_; rintro _ _ ⟨h, b, c, rfl, rfl, os⟩; refine ⟨_, _, rfl, rfl, ?_⟩)
    | (refine sl_callT rfl rfl rfl rfl rfl rfl rfl rfl (Lay_lit [64] [i64 64] [i64 0, i64 64] 1 1 _ rfl rfl rfl rfl (by decide)) ?_; rintro _ _ ⟨h, b, c, rfl, rfl, os⟩; refine ⟨_, _, rfl, rfl, ?_⟩)
    | (refine sl_callT rfl rfl rfl rfl rfl rfl rfl rfl (Lay_lit [65] [i64 65] [] 1 0 _ rfl rfl rfl rfl (by decide)) ?_; rintro _ _ ⟨h, b, c, rfl, rfl, os⟩; refine ⟨_, _, rfl, rfl, ?_⟩)
    | (refine sl_callT rfl rfl rfl rfl rfl rfl rfl rfl (Lay_lit [4611686018427387904, 4611686018427387904, 4611686018427387904, 4611686018427387904] [i64 4611686018427387904, i64 4611686018427387904, i64 4611686018427387904, i64 4611686018427387904] [] 4 0 _ rfl rfl rfl rfl (by decide)) ?_; rintro _ _ ⟨h, b, c, rfl, rfl, os⟩; refine ⟨_, _, rfl, rfl, ?_⟩)
    | (refine sl_callT rfl rfl rfl rfl rfl rfl rfl rfl (Lay_lit [-1, 1] [i64 (-1), i64 1] [] 2 0 _ rfl rfl rfl rfl (by decide)) ?_; rintro _ _ ⟨h, b, c, rfl, rfl, os⟩; refine ⟨_, _, rfl, rfl, ?_⟩)
    | refine sl_op rfl rfl rfl (opv_call rfl rfl rfl rfl rfl (works_calls)) ?_
    | refine sl_op rfl rfl rfl (opv_call rfl rfl rfl rfl rfl (Put_yes _ _ _ _ (by decide +kernel))) ?_
    | refine sl_op rfl rfl rfl (opv_call rfl rfl rfl rfl rfl (Put_no _ _ _ _ (by decide +kernel))) ?_
    | refine sl_yes rfl rfl rfl (opv_call rfl rfl rfl rfl rfl (May_calls _ _)) (by first | omega | decide +kernel) ?_
    | refine sl_no rfl rfl rfl (opv_call rfl rfl rfl rfl rfl (May_calls _ _)) (by first | omega | decide +kernel) ?_
    | refine sl_if rfl rfl rfl (opv_call rfl rfl rfl rfl rfl (May_calls _ _)) (fun h => ?_) (fun h => ?_)
    | refine sl_yes rfl rfl rfl (opv_call rfl rfl rfl rfl rfl (Apart_is _ _ _ _)) (by first | omega | decide +kernel) ?_
    | refine sl_no rfl rfl rfl (opv_call rfl rfl rfl rfl rfl (Apart_is _ _ _ _)) (by first | omega | decide +kernel) ?_
    | refine sl_if rfl rfl rfl (opv_call rfl rfl rfl rfl rfl (Apart_is _ _ _ _)) (fun h => ?_) (fun h => ?_)
    | refine sl_op rfl rfl rfl (opv_call rfl rfl rfl rfl rfl (Most_calls _ _)) ?_
    | refine sl_op rfl rfl rfl (opv_call rfl rfl rfl rfl rfl (Of_calls _ _ _)) ?_
    | refine swp_seq ?_
    | refine sl_region rfl ?_
    | refine sl_draw (by kernel_rfl) (by kernel_rfl) rfl ?_
    | refine sl_nil ?_
    | refine thn_k ?_
    | refine sl_pass rfl rfl rfl rfl ?_
    | refine sl_op rfl rfl rfl (by first | exact opv_move rfl rfl | exact opv_assign rfl rfl | exact opv_load rfl (by exact rfl) rfl (by exact rfl) | exact opv_fieldAddr rfl rfl | exact opv_pick_t rfl rfl rfl | exact opv_pick_f rfl rfl rfl | exact opv_not_t rfl rfl | exact opv_not_f rfl rfl | exact opv_not rfl rfl | exact opv_extract rfl rfl rfl | exact opv_loadA rfl (by exact rfl) rfl (by exact rfl) (by exact rfl) | exact opv_build rfl rfl (by exact rfl) | exact opv_add64 rfl rfl rfl (by omega) (by omega) | exact opv_sub64 rfl rfl rfl (by omega) (by omega) | exact opv_add rfl rfl rfl | exact opv_sub rfl rfl rfl | exact opv_mul rfl rfl rfl | exact opv_rem rfl rfl rfl (by omega) | exact opv_quo rfl rfl rfl (by omega) | exact opv_shl rfl rfl rfl (by omega) | exact opv_shr rfl rfl rfl (by omega) | exact opv_bits rfl rfl rfl (by decide) | exact opv_len rfl rfl rfl rfl rfl | exact opv_min rfl rfl rfl rfl rfl | exact opv_convert rfl rfl | exact opv_makeFunc rfl rfl rfl | exact opv_indexAddrI rfl rfl rfl (by omega) (by omega) (by first | omega | (simp only [List.length_map]; omega) | (simp only [List.length_cons, List.length_nil]; omega)) | exact opv_loadEL rfl (by exact rfl) rfl rfl rfl | exact opv_loadE rfl (by exact rfl) (by first | assumption | exact rfl)) ?_
    | refine sl_op rfl rfl rfl ((by first | exact opv_eqlS rfl rfl rfl rfl | exact opv_neqS rfl rfl rfl rfl : OpV _ _ _ _ _ _).to (show _ = Value.bool true from rfl)) ?_
    | refine sl_op rfl rfl rfl ((by first | exact opv_eqlS rfl rfl rfl rfl | exact opv_neqS rfl rfl rfl rfl : OpV _ _ _ _ _ _).to (show _ = Value.bool false from rfl)) ?_
    | refine sl_bool rfl rfl rfl (by first | exact opv_eqlS rfl rfl rfl rfl | exact opv_neqS rfl rfl rfl rfl) (fun h => ?_) (fun h => ?_)
    | refine sl_yes rfl rfl rfl (by first | exact opv_lss rfl rfl rfl | exact opv_leq rfl rfl rfl | exact opv_gtr rfl rfl rfl | exact opv_geq rfl rfl rfl | exact opv_eql rfl rfl rfl | exact opv_neq rfl rfl rfl) (by first | omega | decide +kernel) ?_
    | refine sl_no rfl rfl rfl (by first | exact opv_lss rfl rfl rfl | exact opv_leq rfl rfl rfl | exact opv_gtr rfl rfl rfl | exact opv_geq rfl rfl rfl | exact opv_eql rfl rfl rfl | exact opv_neq rfl rfl rfl) (by first | omega | decide +kernel) ?_
    | refine sl_if rfl rfl rfl (by first | exact opv_lss rfl rfl rfl | exact opv_leq rfl rfl rfl | exact opv_gtr rfl rfl rfl | exact opv_geq rfl rfl rfl | exact opv_eql rfl rfl rfl | exact opv_neq rfl rfl rfl) (fun h => ?_) (fun h => ?_)
    | refine sl_buildSlice rfl rfl rfl rfl rfl (by exact rfl) (by exact rfl) (by exact rfl) (by exact rfl) rfl (fun b => ?_)
    | refine sl_box rfl rfl rfl rfl rfl rfl (fun β => ?_)
    | refine sl_alloc rfl rfl rfl rfl (by exact rfl) (fun β => ?_)
    | refine sl_store rfl rfl rfl rfl rfl rfl (by exact rfl) rfl (by exact rfl) ?_
    | refine swp_true rfl ?_
    | refine swp_false rfl ?_
    | refine swp_block ?_
    | refine swp_ret ?_
    | refine swp_exit ?_
    | refine swp_skip ?_
    | refine thn_ret ?_
    | refine inb_ret ?_
    | refine inb_k ?_
    | refine thn_exit ?_
    | refine inb_exit ?_
    | refine inb_out rfl ?_)
  refine end_pure (resOk_one (resV_tmp rfl)) ?_
  rfl
end Go.Proofs.Ythhlgaaamfeohaa
