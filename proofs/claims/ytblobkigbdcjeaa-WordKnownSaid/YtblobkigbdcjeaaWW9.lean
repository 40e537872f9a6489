/- The statements WordKnown, WordTells, WordHash, walked. -/
-- USE_IE
import Derived.Test.YtblobkigbdcjeaaWW8
import Derived.Test.YtblobkigbdcjeaaSlU
namespace Go.Proofs.Ytblobkigbdcjeaa
open Go.SL
set_option maxRecDepth 100000
set_option maxHeartbeats 16000000
attribute [local irreducible] T PFn OpV SOL SWP HOp ChU
theorem WordKnown_calls : PFn Try.prog 4 [] [] (.bool true) := by
  have p1 : PFn Try.prog 12 [hdr 2 32765 255 0 0 16777215, .int .u64 1125899638407162] [] (.bool true) := packs_yes 2 32765 255 0 0 16777215 (by omega) 1125899638407162 (by decide) (by decide)
  have p2 : PFn Try.prog 12 [hdr 4 0 0 4095 4095 0, .int .u64 2251799679467524] [] (.bool true) := packs_yes 4 0 0 4095 4095 0 (by omega) 2251799679467524 (by decide) (by decide)
  have p3 : PFn Try.prog 12 [hdr 0 0 0 0 0 0, .int .u64 0] [] (.bool true) := packs_yes 0 0 0 0 0 0 (by omega) 0 (by decide) (by decide)
  have p4 : PFn Try.prog 12 [hdr 2 0 0 0 0 0, .int .u64 2] [] (.bool true) := packs_yes 2 0 0 0 0 0 (by omega) 2 (by decide) (by decide)
  have r1 := refused_yes 5 0 0 0 0 0 (by omega)
  have r2 := refused_yes (-1) 0 0 0 0 0 (by omega)
  have r3 := refused_yes 0 0 0 0 0 16777216 (by omega)
  have r4 := refused_yes 3 32766 1 0 0 0 (by omega)
  have r5 := refused_yes 2 0 256 0 0 0 (by omega)
  have r6 := refused_yes 4 0 0 4096 0 0 (by omega)
  have r7 := refused_yes 4 0 0 0 (-1) 0 (by omega)
  have r8 := refused_yes 3 0 1 1 0 0 (by omega)
  have r9 := refused_yes 0 0 0 0 1 0 (by omega)
  have o1 : PFn Try.prog 11 [.int .u64 5] [] (.tuple #[hdr 0 0 0 0 0 0, .bool false]) := Open_other_no 5 (by decide) (by decide) (by decide)
  have o2 : PFn Try.prog 11 [.int .u64 9223372036854775808] [] (.tuple #[hdr 0 0 0 0 0 0, .bool false]) := Open_other_big 9223372036854775808 (by decide) (by decide) (by decide) (by decide)
  have o3 : PFn Try.prog 11 [.int .u64 134217729] [] (.tuple #[hdr 0 0 0 0 0 0, .bool false]) := Open_other_no 134217729 (by decide) (by decide) (by decide)
  have o4 : PFn Try.prog 11 [.int .u64 134217731] [] (.tuple #[hdr 0 0 0 0 0 0, .bool false]) := Open_other_no 134217731 (by decide) (by decide) (by decide)
  have f1 : PFn Try.prog 14 [.int .u64 7] [] (.tuple #[.int .u64 0, .bool false]) := Free_of 7 0 false (with_none 7 1 0 0 0 0 0 (Open_other_no 7 (by decide) (by decide) (by decide)))
  have f2 : PFn Try.prog 15 [.int .u64 0, i64 0, i64 0] [] (.tuple #[.int .u64 0, .bool false]) :=
    Thin_of 0 0 0 0 false (with_some 0 3 0 0 0 0 0 0 0 0 0 0 0 0 false (Open_other 0 (by decide) (by decide) (by decide)) (Pack_no 3 0 0 0 0 0 (by omega)))
  refine pure_of_body Try.func4 rfl (Nat.le_of_ble_eq_true rfl) fun F => ?_
  repeat' (first
    | refine swp_seq ?_
    | (refine gk 0 rfl ?_; first | refine sl_op rfl rfl rfl (by first | exact opv_move rfl rfl | exact opv_assign rfl rfl | exact opv_pick_t rfl rfl rfl | exact opv_pick_f rfl rfl rfl | exact opv_not_t rfl rfl | exact opv_not_f rfl rfl | exact opv_not rfl rfl | exact opv_extract rfl rfl rfl | exact opv_makeFunc rfl rfl rfl) ?_ | refine sl_bool rfl rfl rfl (by first | exact opv_move rfl rfl | exact opv_assign rfl rfl | exact opv_pick_t rfl rfl rfl | exact opv_pick_f rfl rfl rfl | exact opv_not_t rfl rfl | exact opv_not_f rfl rfl | exact opv_not rfl rfl | exact opv_extract rfl rfl rfl | exact opv_makeFunc rfl rfl rfl) (fun h => ?_) (fun h => ?_) | refine sl_pass rfl rfl rfl rfl ?_)
    | (refine gk 1 rfl ?_; first | refine sl_op rfl rfl rfl (by first | exact opv_add64 rfl rfl rfl (by omega) (by omega) | exact opv_sub64 rfl rfl rfl (by omega) (by omega) | exact opv_add rfl rfl rfl | exact opv_sub rfl rfl rfl | exact opv_mul rfl rfl rfl | exact opv_rem rfl rfl rfl (by omega) | exact opv_quo rfl rfl rfl (by omega) | exact opv_shl rfl rfl rfl (by omega) | exact opv_shr rfl rfl rfl (by omega) | exact opv_bits rfl rfl rfl (by decide)) ?_ | refine sl_pass rfl rfl rfl rfl ?_)
    | (refine gk 2 rfl ?_; first | refine sl_pass rfl rfl rfl rfl ?_ | refine sl_yes rfl rfl rfl (by first | exact opv_lss rfl rfl rfl | exact opv_leq rfl rfl rfl | exact opv_gtr rfl rfl rfl | exact opv_geq rfl rfl rfl | exact opv_eql rfl rfl rfl | exact opv_neq rfl rfl rfl) (by first | omega | decide +kernel) ?_ | refine sl_no rfl rfl rfl (by first | exact opv_lss rfl rfl rfl | exact opv_leq rfl rfl rfl | exact opv_gtr rfl rfl rfl | exact opv_geq rfl rfl rfl | exact opv_eql rfl rfl rfl | exact opv_neq rfl rfl rfl) (by first | omega | decide +kernel) ?_ | refine sl_if rfl rfl rfl (by first | exact opv_lss rfl rfl rfl | exact opv_leq rfl rfl rfl | exact opv_gtr rfl rfl rfl | exact opv_geq rfl rfl rfl | exact opv_eql rfl rfl rfl | exact opv_neq rfl rfl rfl) (fun h => ?_) (fun h => ?_) | refine sl_tt rfl rfl rfl (by first | exact opv_eqlB Try.underlying4 rfl rfl rfl | exact opv_neqB Try.underlying4 rfl rfl rfl | exact opv_eqlS rfl rfl rfl rfl | exact opv_neqS rfl rfl rfl rfl) (by first | rfl | assumption) ?_ | refine sl_ff rfl rfl rfl (by first | exact opv_eqlB Try.underlying4 rfl rfl rfl | exact opv_neqB Try.underlying4 rfl rfl rfl | exact opv_eqlS rfl rfl rfl rfl | exact opv_neqS rfl rfl rfl rfl) (by first | rfl | assumption) ?_ | refine sl_bool rfl rfl rfl (by first | exact opv_eqlB Try.underlying4 rfl rfl rfl | exact opv_neqB Try.underlying4 rfl rfl rfl | exact opv_eqlS rfl rfl rfl rfl | exact opv_neqS rfl rfl rfl rfl) (fun h => ?_) (fun h => ?_))
    | (refine gk 3 rfl ?_; first | refine sl_op rfl rfl rfl (by first | exact opv_load rfl (by exact rfl) rfl (by exact rfl) | exact opv_fieldAddr rfl rfl | exact opv_loadA rfl (by exact rfl) rfl (by exact rfl) (by exact rfl) | exact opv_indexAddrI rfl rfl rfl (by omega) (by omega) (by first | omega | (simp only [List.length_map]; omega) | (simp only [List.length_cons, List.length_nil]; omega)) | exact opv_index rfl rfl rfl (by omega) (by omega) (by first | assumption | exact rfl) | exact opv_indexA rfl rfl rfl (by omega) (by omega) (by first | assumption | exact rfl) | exact opv_indexAddrR rfl rfl rfl (by omega) (by omega) | exact opv_indexAddrE rfl rfl rfl (by assumption) (by omega) (by omega) | exact opv_fieldAddrE rfl rfl (by first | assumption | omega) | exact opv_loadELx rfl (by exact rfl) (by infer_instance) rfl rfl rfl | exact opv_loadEx rfl (by exact rfl) (by infer_instance) (by first | assumption | exact rfl) | exact opv_load2 rfl (by exact rfl) (by infer_instance) (by assumption) (by assumption)) ?_ | refine sl_pass rfl rfl rfl rfl ?_)
    | (refine gk 4 rfl ?_; first | refine sl_pass rfl rfl rfl rfl ?_ | refine sl_op rfl rfl rfl (by first | exact opv_len rfl rfl rfl rfl rfl | exact opv_min rfl rfl rfl rfl rfl) ?_ | refine sl_op rfl rfl rfl (opv_call rfl rfl rfl rfl rfl (works_calls)) ?_ | refine sl_op rfl rfl rfl (opv_call rfl rfl rfl rfl rfl (p1)) ?_ | refine sl_op rfl rfl rfl (opv_call rfl rfl rfl rfl rfl (p2)) ?_ | refine sl_op rfl rfl rfl (opv_call rfl rfl rfl rfl rfl (p3)) ?_ | refine sl_op rfl rfl rfl (opv_call rfl rfl rfl rfl rfl (p4)) ?_ | refine sl_op rfl rfl rfl (opv_call rfl rfl rfl rfl rfl (r1)) ?_ | refine sl_op rfl rfl rfl (opv_call rfl rfl rfl rfl rfl (r2)) ?_ | refine sl_op rfl rfl rfl (opv_call rfl rfl rfl rfl rfl (r3)) ?_ | refine sl_op rfl rfl rfl (opv_call rfl rfl rfl rfl rfl (r4)) ?_ | refine sl_op rfl rfl rfl (opv_call rfl rfl rfl rfl rfl (r5)) ?_ | refine sl_op rfl rfl rfl (opv_call rfl rfl rfl rfl rfl (r6)) ?_ | refine sl_op rfl rfl rfl (opv_call rfl rfl rfl rfl rfl (r7)) ?_ | refine sl_op rfl rfl rfl (opv_call rfl rfl rfl rfl rfl (r8)) ?_ | refine sl_op rfl rfl rfl (opv_call rfl rfl rfl rfl rfl (r9)) ?_ | refine sl_op rfl rfl rfl (opv_call rfl rfl rfl rfl rfl (o1)) ?_ | refine sl_op rfl rfl rfl (opv_call rfl rfl rfl rfl rfl (o2)) ?_ | refine sl_op rfl rfl rfl (opv_call rfl rfl rfl rfl rfl (o3)) ?_ | refine sl_op rfl rfl rfl (opv_call rfl rfl rfl rfl rfl (o4)) ?_ | refine sl_op rfl rfl rfl (opv_call rfl rfl rfl rfl rfl (f1)) ?_ | refine sl_op rfl rfl rfl (opv_call rfl rfl rfl rfl rfl (f2)) ?_)
    | (refine gk 5 rfl ?_; first | refine sl_op rfl rfl rfl (by first | exact opv_build rfl rfl (by exact rfl) | exact opv_convert rfl rfl | exact opv_sliceHi rfl rfl rfl (by omega) (by omega) | exact opv_arrayAt rfl rfl rfl rfl) ?_ | refine sl_pass rfl rfl rfl rfl ?_ | refine sl_buildSlice rfl rfl rfl rfl rfl (by exact rfl) (by exact rfl) (by exact rfl) (by exact rfl) rfl (fun b => ?_) | refine sl_box rfl rfl rfl rfl rfl rfl (fun β => ?_) | refine sl_alloc rfl rfl rfl rfl (by exact rfl) (fun β => ?_) | refine sl_store rfl rfl rfl rfl rfl rfl (by exact rfl) rfl (by exact rfl) ?_)
    | refine sl_region rfl ?_
    | refine sl_draw (by kernel_rfl) (by kernel_rfl) rfl ?_
    | refine chu_nil ?_
    | refine chu_q rfl ?_
    | refine chu_f rfl ?_
    | refine chu_r rfl ?_
    | refine chu_new rfl rfl (by first | exact new_alloc rfl (by exact rfl) | exact new_box rfl rfl rfl | exact new_buildSlice rfl rfl (by exact rfl) rfl (by exact rfl) (by exact rfl) rfl) ?_
    | refine chu_rv rfl rfl rfl (fun β => ?_)
    | refine chu_pass rfl rfl rfl rfl ?_
    | refine chu_store rfl rfl rfl rfl rfl rfl (by exact rfl) rfl (by exact rfl) (by exact rfl) ?_
    | refine chu_P rfl rfl rfl rfl rfl rfl rfl rfl (works_calls) rfl ?_
    | refine chu_P rfl rfl rfl rfl rfl rfl rfl rfl (p1) rfl ?_
    | refine chu_P rfl rfl rfl rfl rfl rfl rfl rfl (p2) rfl ?_
    | refine chu_P rfl rfl rfl rfl rfl rfl rfl rfl (p3) rfl ?_
    | refine chu_P rfl rfl rfl rfl rfl rfl rfl rfl (p4) rfl ?_
    | refine chu_P rfl rfl rfl rfl rfl rfl rfl rfl (r1) rfl ?_
    | refine chu_P rfl rfl rfl rfl rfl rfl rfl rfl (r2) rfl ?_
    | refine chu_P rfl rfl rfl rfl rfl rfl rfl rfl (r3) rfl ?_
    | refine chu_P rfl rfl rfl rfl rfl rfl rfl rfl (r4) rfl ?_
    | refine chu_P rfl rfl rfl rfl rfl rfl rfl rfl (r5) rfl ?_
    | refine chu_P rfl rfl rfl rfl rfl rfl rfl rfl (r6) rfl ?_
    | refine chu_P rfl rfl rfl rfl rfl rfl rfl rfl (r7) rfl ?_
    | refine chu_P rfl rfl rfl rfl rfl rfl rfl rfl (r8) rfl ?_
    | refine chu_P rfl rfl rfl rfl rfl rfl rfl rfl (r9) rfl ?_
    | refine chu_P rfl rfl rfl rfl rfl rfl rfl rfl (o1) rfl ?_
    | refine chu_P rfl rfl rfl rfl rfl rfl rfl rfl (o2) rfl ?_
    | refine chu_P rfl rfl rfl rfl rfl rfl rfl rfl (o3) rfl ?_
    | refine chu_P rfl rfl rfl rfl rfl rfl rfl rfl (o4) rfl ?_
    | refine chu_P rfl rfl rfl rfl rfl rfl rfl rfl (f1) rfl ?_
    | refine chu_P rfl rfl rfl rfl rfl rfl rfl rfl (f2) rfl ?_
    | refine sl_nil ?_
    | refine thn_k ?_
    | refine swp_true rfl ?_
    | refine swp_false rfl ?_
    | refine swp_block ?_
    | refine swp_ret ?_
    | refine swp_exit ?_
    | refine swp_skip ?_
    | refine thn_ret ?_
    | refine inb_ret ?_
    | refine inb_k ?_
    | refine thn_exit ?_
    | refine inb_exit ?_
    | refine inb_out rfl ?_)
  all_goals exact end_pure (resOk_one (resV_tmp rfl)) rfl
/-! ### WordTells -/
theorem pack_both (t o c m g k : Int) : ∃ (v : Nat) (b : Bool), v < 2 ^ 64 ∧ PFn Try.prog 10 [hdr t o c m g k] [] (.tuple #[u64 v, .bool b]) ∧ PFn Try.prog 16 [hdr t o c m g k] [] (.tuple #[u64 v, .bool b]) := by
  rcases pack_cases t o c m g k with ⟨-, v, hv, -, c1, c2⟩ | ⟨-, c1, c2⟩
  · exact ⟨v, true, hv, c1, c2⟩
  · exact ⟨0, false, by decide, c1, c2⟩
theorem open_both (w : Nat) (hw : w < 2 ^ 64) : ∃ (t o c m g k : Int) (b : Bool), PFn Try.prog 11 [u64 w] [] (.tuple #[hdr t o c m g k, .bool b]) ∧ PFn Try.prog 18 [u64 w] [] (.tuple #[hdr t o c m g k, .bool b]) := by
  rcases open_cases w hw with ⟨t, o, c, m, g, k, -, -, c1, c2⟩ | ⟨-, c1, c2⟩
  · exact ⟨t, o, c, m, g, k, true, c1, c2⟩
  · exact ⟨0, 0, 0, 0, 0, 0, false, c1, c2⟩
theorem with_both (w : Nat) (hw : w < 2 ^ 64) (t o c m g k : Int) : ∃ (v : Nat) (b : Bool), PFn Try.prog 26 [u64 w, hdr t o c m g k] [] (.tuple #[u64 v, .bool b]) ∧ PFn Try.prog 19 [u64 w, hdr t o c m g k] [] (.tuple #[u64 v, .bool b]) := by
  obtain ⟨v, b, -, c1, c2, -⟩ := with_cases w hw t o c m g k
  exact ⟨v, b, c1, c2⟩
theorem three_hdr (t o c m g k t' o' c' m' g' k' t2 o2 c2 m2 g2 k2 : Int) {j : Int} (h0 : 0 ≤ j) (h1 : j < 3) : ∃ x1 x2 x3 x4 x5 x6 : Int,
    ((([i64 t, i64 o, i64 c, i64 m, i64 g, i64 k, i64 t', i64 o', i64 c', i64 m', i64 g', i64 k', i64 t2, i64 o2, i64 c2, i64 m2, i64 g2, i64 k2] : List Value).drop (j.toNat * 6)).take 6) = [i64 x1, i64 x2, i64 x3, i64 x4, i64 x5, i64 x6] := by
  rcases (by omega : j = 0 ∨ j = 1 ∨ j = 2) with rfl | rfl | rfl
  · exact ⟨_, _, _, _, _, _, rfl⟩
  · exact ⟨_, _, _, _, _, _, rfl⟩
  · exact ⟨_, _, _, _, _, _, rfl⟩
theorem WordTells_calls (t o c m g k : Int) (w other : Nat) (hw : w < 2 ^ 64) : PFn Try.prog 5 [hdr t o c m g k, u64 w, u64 other] [] (.bool true) := by
  obtain ⟨t1, o1, c1, m1, g1, k1, cn⟩ : ∃ t1 o1 c1 m1 g1 k1, PFn Try.prog 9 [hdr t o c m g k] [] (hdr t1 o1 c1 m1 g1 k1) := ⟨_, _, _, _, _, _, near_calls t o c m g k⟩
  obtain ⟨o2, c2, m2, g2, cp⟩ := plain_calls t1 o1 c1 m1 g1 k1
  refine pure_of_body Try.func5 rfl (Nat.le_of_ble_eq_true rfl) fun F => ?_
  repeat' (first
    | refine swp_seq ?_
    | (refine gk 0 rfl ?_; first | refine sl_op rfl rfl rfl (by first | exact opv_move rfl rfl | exact opv_assign rfl rfl | exact opv_pick_t rfl rfl rfl | exact opv_pick_f rfl rfl rfl | exact opv_not_t rfl rfl | exact opv_not_f rfl rfl | exact opv_not rfl rfl | exact opv_extract rfl rfl rfl | exact opv_makeFunc rfl rfl rfl) ?_ | refine sl_bool rfl rfl rfl (by first | exact opv_move rfl rfl | exact opv_assign rfl rfl | exact opv_pick_t rfl rfl rfl | exact opv_pick_f rfl rfl rfl | exact opv_not_t rfl rfl | exact opv_not_f rfl rfl | exact opv_not rfl rfl | exact opv_extract rfl rfl rfl | exact opv_makeFunc rfl rfl rfl) (fun h => ?_) (fun h => ?_) | refine sl_pass rfl rfl rfl rfl ?_)
    | (refine gk 1 rfl ?_; first | refine sl_op rfl rfl rfl (by first | exact opv_add64 rfl rfl rfl (by omega) (by omega) | exact opv_sub64 rfl rfl rfl (by omega) (by omega) | exact opv_add rfl rfl rfl | exact opv_sub rfl rfl rfl | exact opv_mul rfl rfl rfl | exact opv_rem rfl rfl rfl (by omega) | exact opv_quo rfl rfl rfl (by omega) | exact opv_shl rfl rfl rfl (by omega) | exact opv_shr rfl rfl rfl (by omega) | exact opv_bits rfl rfl rfl (by decide)) ?_ | refine sl_pass rfl rfl rfl rfl ?_)
    | (refine gk 2 rfl ?_; first | refine sl_pass rfl rfl rfl rfl ?_ | refine sl_yes rfl rfl rfl (by first | exact opv_lss rfl rfl rfl | exact opv_leq rfl rfl rfl | exact opv_gtr rfl rfl rfl | exact opv_geq rfl rfl rfl | exact opv_eql rfl rfl rfl | exact opv_neq rfl rfl rfl) (by first | omega | decide +kernel) ?_ | refine sl_no rfl rfl rfl (by first | exact opv_lss rfl rfl rfl | exact opv_leq rfl rfl rfl | exact opv_gtr rfl rfl rfl | exact opv_geq rfl rfl rfl | exact opv_eql rfl rfl rfl | exact opv_neq rfl rfl rfl) (by first | omega | decide +kernel) ?_ | refine sl_if rfl rfl rfl (by first | exact opv_lss rfl rfl rfl | exact opv_leq rfl rfl rfl | exact opv_gtr rfl rfl rfl | exact opv_geq rfl rfl rfl | exact opv_eql rfl rfl rfl | exact opv_neq rfl rfl rfl) (fun h => ?_) (fun h => ?_) | refine sl_tt rfl rfl rfl (by first | exact opv_eqlB Try.underlying4 rfl rfl rfl | exact opv_neqB Try.underlying4 rfl rfl rfl | exact opv_eqlS rfl rfl rfl rfl | exact opv_neqS rfl rfl rfl rfl) (by first | rfl | assumption) ?_ | refine sl_ff rfl rfl rfl (by first | exact opv_eqlB Try.underlying4 rfl rfl rfl | exact opv_neqB Try.underlying4 rfl rfl rfl | exact opv_eqlS rfl rfl rfl rfl | exact opv_neqS rfl rfl rfl rfl) (by first | rfl | assumption) ?_ | refine sl_bool rfl rfl rfl (by first | exact opv_eqlB Try.underlying4 rfl rfl rfl | exact opv_neqB Try.underlying4 rfl rfl rfl | exact opv_eqlS rfl rfl rfl rfl | exact opv_neqS rfl rfl rfl rfl) (fun h => ?_) (fun h => ?_))
    | (refine gk 3 rfl ?_; first | refine sl_op rfl rfl rfl (by first | exact opv_load rfl (by exact rfl) rfl (by exact rfl) | exact opv_fieldAddr rfl rfl | exact opv_loadA rfl (by exact rfl) rfl (by exact rfl) (by exact rfl) | exact opv_indexAddrI rfl rfl rfl (by omega) (by omega) (by first | omega | (simp only [List.length_map]; omega) | (simp only [List.length_cons, List.length_nil]; omega)) | exact opv_index rfl rfl rfl (by omega) (by omega) (by first | assumption | exact rfl) | exact opv_indexA rfl rfl rfl (by omega) (by omega) (by first | assumption | exact rfl) | exact opv_indexAddrR rfl rfl rfl (by omega) (by omega) | exact opv_indexAddrE rfl rfl rfl (by assumption) (by omega) (by omega) | exact opv_fieldAddrE rfl rfl (by first | assumption | omega) | exact opv_loadELx rfl (by exact rfl) (by infer_instance) rfl rfl rfl | exact opv_loadEx rfl (by exact rfl) (by infer_instance) (by first | assumption | exact rfl) | exact opv_load2 rfl (by exact rfl) (by infer_instance) (by assumption) (by assumption)) ?_ | refine sl_pass rfl rfl rfl rfl ?_)
    | (refine gk 4 rfl ?_; first | refine sl_pass rfl rfl rfl rfl ?_ | refine sl_op rfl rfl rfl (by first | exact opv_len rfl rfl rfl rfl rfl | exact opv_min rfl rfl rfl rfl rfl) ?_ | refine sl_op rfl rfl rfl (opv_call rfl rfl rfl rfl rfl (cn)) ?_ | refine sl_op rfl rfl rfl (opv_call rfl rfl rfl rfl rfl (cp)) ?_)
    | (refine gk 5 rfl ?_; first | refine sl_op rfl rfl rfl (by first | exact opv_build rfl rfl (by exact rfl) | exact opv_convert rfl rfl | exact opv_sliceHi rfl rfl rfl (by omega) (by omega) | exact opv_arrayAt rfl rfl rfl rfl) ?_ | refine sl_pass rfl rfl rfl rfl ?_ | refine sl_buildSlice rfl rfl rfl rfl rfl (by exact rfl) (by exact rfl) (by exact rfl) (by exact rfl) rfl (fun b => ?_) | refine sl_box rfl rfl rfl rfl rfl rfl (fun β => ?_) | refine sl_alloc rfl rfl rfl rfl (by exact rfl) (fun β => ?_) | refine sl_store rfl rfl rfl rfl rfl rfl (by exact rfl) rfl (by exact rfl) ?_)
    | refine sl_region rfl ?_
    | refine sl_draw (by kernel_rfl) (by kernel_rfl) rfl ?_
    | refine chu_nil ?_
    | refine chu_q rfl ?_
    | refine chu_f rfl ?_
    | refine chu_r rfl ?_
    | refine chu_new rfl rfl (by first | exact new_alloc rfl (by exact rfl) | exact new_box rfl rfl rfl | exact new_buildSlice rfl rfl (by exact rfl) rfl (by exact rfl) (by exact rfl) rfl) ?_
    | refine chu_rv rfl rfl rfl (fun β => ?_)
    | refine chu_pass rfl rfl rfl rfl ?_
    | refine chu_store rfl rfl rfl rfl rfl rfl (by exact rfl) rfl (by exact rfl) (by exact rfl) ?_
    | refine chu_P rfl rfl rfl rfl rfl rfl rfl rfl (cn) rfl ?_
    | refine chu_P rfl rfl rfl rfl rfl rfl rfl rfl (cp) rfl ?_
    | refine sl_nil ?_
    | refine thn_k ?_
    | refine swp_true rfl ?_
    | refine swp_false rfl ?_
    | refine swp_block ?_
    | refine swp_ret ?_
    | refine swp_exit ?_
    | refine swp_skip ?_
    | refine thn_ret ?_
    | refine inb_ret ?_
    | refine inb_k ?_
    | refine thn_exit ?_
    | refine inb_exit ?_
    | refine inb_out rfl ?_)
  rename_i β3 β7
  refine swp_loopS (fun s : S5 => [(1, u64 w), (2, u64 other), (7, .pointer (some ⟨β7, 0, none⟩)), (8, .pointer (some ⟨β, 0, none⟩)), (46, .agg ⟨[i64 t, i64 o, i64 c, i64 m, i64 g, i64 k, i64 t1, i64 o1, i64 c1, i64 m1, i64 g1, i64 k1, i64 t1, i64 o2, i64 c2, i64 m2, i64 g2, i64 k1]⟩), (47, i64 s.k)])
    (fun _ => [blk β7 (.cells ⟨[i64 t1, i64 o1, i64 c1, i64 m1, i64 g1, i64 k1]⟩ 23 (0, 0)), blk β (.cells ⟨[i64 t1, i64 o2, i64 c2, i64 m2, i64 g2, i64 k1]⟩ 23 (0, 0))]) (fun s => 0 ≤ s.k ∧ s.k ≤ 3) (fun s => (3 - s.k).toNat) ⟨0⟩ (by repeat first | exact Sub.nil _ | refine Sub.cons rfl ?_) ⟨by decide, by decide⟩ ?_
  rintro ⟨j⟩ ⟨hj0, hj1⟩
  dsimp only at hj0 hj1 ⊢
  by_cases hj : j < 3
  · obtain ⟨x1, x2, x3, x4, x5, x6, hx⟩ := three_hdr t o c m g k t1 o1 c1 m1 g1 k1 t1 o2 c2 m2 g2 k1 hj0 hj
    obtain ⟨v, b, hv, d1, d2⟩ := pack_both x1 x2 x3 x4 x5 x6
    have d3 := alike_same v b
    repeat' (first
      | refine swp_seq ?_
      | (refine gk 0 rfl ?_; first | refine sl_op rfl rfl rfl (by first | exact opv_move rfl rfl | exact opv_assign rfl rfl | exact opv_pick_t rfl rfl rfl | exact opv_pick_f rfl rfl rfl | exact opv_not_t rfl rfl | exact opv_not_f rfl rfl | exact opv_not rfl rfl | exact opv_extract rfl rfl rfl | exact opv_makeFunc rfl rfl rfl) ?_ | refine sl_bool rfl rfl rfl (by first | exact opv_move rfl rfl | exact opv_assign rfl rfl | exact opv_pick_t rfl rfl rfl | exact opv_pick_f rfl rfl rfl | exact opv_not_t rfl rfl | exact opv_not_f rfl rfl | exact opv_not rfl rfl | exact opv_extract rfl rfl rfl | exact opv_makeFunc rfl rfl rfl) (fun h => ?_) (fun h => ?_) | refine sl_pass rfl rfl rfl rfl ?_)
      | (refine gk 1 rfl ?_; first | refine sl_op rfl rfl rfl (by first | exact opv_add64 rfl rfl rfl (by omega) (by omega) | exact opv_sub64 rfl rfl rfl (by omega) (by omega) | exact opv_add rfl rfl rfl | exact opv_sub rfl rfl rfl | exact opv_mul rfl rfl rfl | exact opv_rem rfl rfl rfl (by omega) | exact opv_quo rfl rfl rfl (by omega) | exact opv_shl rfl rfl rfl (by omega) | exact opv_shr rfl rfl rfl (by omega) | exact opv_bits rfl rfl rfl (by decide)) ?_ | refine sl_pass rfl rfl rfl rfl ?_)
      | (refine gk 2 rfl ?_; first | refine sl_pass rfl rfl rfl rfl ?_ | refine sl_yes rfl rfl rfl (by first | exact opv_lss rfl rfl rfl | exact opv_leq rfl rfl rfl | exact opv_gtr rfl rfl rfl | exact opv_geq rfl rfl rfl | exact opv_eql rfl rfl rfl | exact opv_neq rfl rfl rfl) (by first | omega | decide +kernel) ?_ | refine sl_no rfl rfl rfl (by first | exact opv_lss rfl rfl rfl | exact opv_leq rfl rfl rfl | exact opv_gtr rfl rfl rfl | exact opv_geq rfl rfl rfl | exact opv_eql rfl rfl rfl | exact opv_neq rfl rfl rfl) (by first | omega | decide +kernel) ?_ | refine sl_if rfl rfl rfl (by first | exact opv_lss rfl rfl rfl | exact opv_leq rfl rfl rfl | exact opv_gtr rfl rfl rfl | exact opv_geq rfl rfl rfl | exact opv_eql rfl rfl rfl | exact opv_neq rfl rfl rfl) (fun h => ?_) (fun h => ?_) | refine sl_tt rfl rfl rfl (by first | exact opv_eqlB Try.underlying4 rfl rfl rfl | exact opv_neqB Try.underlying4 rfl rfl rfl | exact opv_eqlS rfl rfl rfl rfl | exact opv_neqS rfl rfl rfl rfl) (by first | rfl | assumption) ?_ | refine sl_ff rfl rfl rfl (by first | exact opv_eqlB Try.underlying4 rfl rfl rfl | exact opv_neqB Try.underlying4 rfl rfl rfl | exact opv_eqlS rfl rfl rfl rfl | exact opv_neqS rfl rfl rfl rfl) (by first | rfl | assumption) ?_ | refine sl_bool rfl rfl rfl (by first | exact opv_eqlB Try.underlying4 rfl rfl rfl | exact opv_neqB Try.underlying4 rfl rfl rfl | exact opv_eqlS rfl rfl rfl rfl | exact opv_neqS rfl rfl rfl rfl) (fun h => ?_) (fun h => ?_))
      | (refine gk 3 rfl ?_; first | refine sl_op rfl rfl rfl (by first | exact opv_load rfl (by exact rfl) rfl (by exact rfl) | exact opv_fieldAddr rfl rfl | exact opv_loadA rfl (by exact rfl) rfl (by exact rfl) (by exact rfl) | exact opv_indexAddrI rfl rfl rfl (by omega) (by omega) (by first | omega | (simp only [List.length_map]; omega) | (simp only [List.length_cons, List.length_nil]; omega)) | exact opv_index rfl rfl rfl (by omega) (by omega) (by first | assumption | exact rfl) | exact opv_indexA rfl rfl rfl (by omega) (by omega) (by first | assumption | exact rfl) | exact opv_indexAddrR rfl rfl rfl (by omega) (by omega) | exact opv_indexAddrE rfl rfl rfl (by assumption) (by omega) (by omega) | exact opv_fieldAddrE rfl rfl (by first | assumption | omega) | exact opv_loadELx rfl (by exact rfl) (by infer_instance) rfl rfl rfl | exact opv_loadEx rfl (by exact rfl) (by infer_instance) (by first | assumption | exact rfl) | exact opv_load2 rfl (by exact rfl) (by infer_instance) (by assumption) (by assumption)) ?_ | refine sl_pass rfl rfl rfl rfl ?_)
      | (refine gk 4 rfl ?_; first | refine sl_pass rfl rfl rfl rfl ?_ | refine sl_op rfl rfl rfl (by first | exact opv_len rfl rfl rfl rfl rfl | exact opv_min rfl rfl rfl rfl rfl) ?_ | refine sl_op rfl rfl rfl (opv_call rfl rfl rfl rfl rfl (d1)) ?_ | refine sl_op rfl rfl rfl (opv_call rfl rfl rfl rfl rfl (d2)) ?_ | refine sl_op rfl rfl rfl (opv_call rfl rfl rfl rfl rfl (d3)) ?_)
      | (refine gk 5 rfl ?_; first | refine sl_op rfl rfl rfl (by first | exact opv_build rfl rfl (by exact rfl) | exact opv_convert rfl rfl | exact opv_sliceHi rfl rfl rfl (by omega) (by omega) | exact opv_arrayAt rfl rfl rfl rfl) ?_ | refine sl_pass rfl rfl rfl rfl ?_ | refine sl_buildSlice rfl rfl rfl rfl rfl (by exact rfl) (by exact rfl) (by exact rfl) (by exact rfl) rfl (fun b => ?_) | refine sl_box rfl rfl rfl rfl rfl rfl (fun β => ?_) | refine sl_alloc rfl rfl rfl rfl (by exact rfl) (fun β => ?_) | refine sl_store rfl rfl rfl rfl rfl rfl (by exact rfl) rfl (by exact rfl) ?_)
      | refine sl_region rfl ?_
      | refine sl_draw (by kernel_rfl) (by kernel_rfl) rfl ?_
      | refine chu_nil ?_
      | refine chu_q rfl ?_
      | refine chu_f rfl ?_
      | refine chu_r rfl ?_
      | refine chu_new rfl rfl (by first | exact new_alloc rfl (by exact rfl) | exact new_box rfl rfl rfl | exact new_buildSlice rfl rfl (by exact rfl) rfl (by exact rfl) (by exact rfl) rfl) ?_
      | refine chu_rv rfl rfl rfl (fun β => ?_)
      | refine chu_pass rfl rfl rfl rfl ?_
      | refine chu_store rfl rfl rfl rfl rfl rfl (by exact rfl) rfl (by exact rfl) (by exact rfl) ?_
      | refine chu_P rfl rfl rfl rfl rfl rfl rfl rfl (d1) rfl ?_
      | refine chu_P rfl rfl rfl rfl rfl rfl rfl rfl (d2) rfl ?_
      | refine chu_P rfl rfl rfl rfl rfl rfl rfl rfl (d3) rfl ?_
      | refine sl_nil ?_
      | refine thn_k ?_
      | refine swp_true rfl ?_
      | refine swp_false rfl ?_
      | refine swp_block ?_
      | refine swp_ret ?_
      | refine swp_exit ?_
      | refine swp_skip ?_
      | refine thn_ret ?_
      | refine inb_ret ?_
      | refine inb_k ?_
      | refine thn_exit ?_
      | refine inb_exit ?_
      | refine inb_out rfl ?_)
    refine ⟨rfl, ⟨j + 1⟩, next_ok (by repeat first | exact Sub.nil _ | refine Sub.cons rfl ?_), ?_, ?_⟩
    all_goals dsimp only
    · exact ⟨by omega, by omega⟩
    · omega
  · obtain ⟨v, b, hv, d1, d2⟩ := pack_both t1 o2 c2 m2 g2 k1
    have h64 : (0 : Int) ≤ (other : Int).tmod 64 := Int.natCast_nonneg (other % 64)
    repeat' (first
      | refine sl_op rfl rfl rfl (opv_shl rfl rfl rfl h64) ?_
      | refine swp_seq ?_
      | (refine gk 0 rfl ?_; first | refine sl_op rfl rfl rfl (by first | exact opv_move rfl rfl | exact opv_assign rfl rfl | exact opv_pick_t rfl rfl rfl | exact opv_pick_f rfl rfl rfl | exact opv_not_t rfl rfl | exact opv_not_f rfl rfl | exact opv_not rfl rfl | exact opv_extract rfl rfl rfl | exact opv_makeFunc rfl rfl rfl) ?_ | refine sl_bool rfl rfl rfl (by first | exact opv_move rfl rfl | exact opv_assign rfl rfl | exact opv_pick_t rfl rfl rfl | exact opv_pick_f rfl rfl rfl | exact opv_not_t rfl rfl | exact opv_not_f rfl rfl | exact opv_not rfl rfl | exact opv_extract rfl rfl rfl | exact opv_makeFunc rfl rfl rfl) (fun h => ?_) (fun h => ?_) | refine sl_pass rfl rfl rfl rfl ?_)
      | (refine gk 1 rfl ?_; first | refine sl_op rfl rfl rfl (by first | exact opv_add64 rfl rfl rfl (by omega) (by omega) | exact opv_sub64 rfl rfl rfl (by omega) (by omega) | exact opv_add rfl rfl rfl | exact opv_sub rfl rfl rfl | exact opv_mul rfl rfl rfl | exact opv_rem rfl rfl rfl (by omega) | exact opv_quo rfl rfl rfl (by omega) | exact opv_shl rfl rfl rfl (by omega) | exact opv_shr rfl rfl rfl (by omega) | exact opv_bits rfl rfl rfl (by decide)) ?_ | refine sl_pass rfl rfl rfl rfl ?_)
      | (refine gk 2 rfl ?_; first | refine sl_pass rfl rfl rfl rfl ?_ | refine sl_yes rfl rfl rfl (by first | exact opv_lss rfl rfl rfl | exact opv_leq rfl rfl rfl | exact opv_gtr rfl rfl rfl | exact opv_geq rfl rfl rfl | exact opv_eql rfl rfl rfl | exact opv_neq rfl rfl rfl) (by first | omega | decide +kernel) ?_ | refine sl_no rfl rfl rfl (by first | exact opv_lss rfl rfl rfl | exact opv_leq rfl rfl rfl | exact opv_gtr rfl rfl rfl | exact opv_geq rfl rfl rfl | exact opv_eql rfl rfl rfl | exact opv_neq rfl rfl rfl) (by first | omega | decide +kernel) ?_ | refine sl_if rfl rfl rfl (by first | exact opv_lss rfl rfl rfl | exact opv_leq rfl rfl rfl | exact opv_gtr rfl rfl rfl | exact opv_geq rfl rfl rfl | exact opv_eql rfl rfl rfl | exact opv_neq rfl rfl rfl) (fun h => ?_) (fun h => ?_) | refine sl_tt rfl rfl rfl (by first | exact opv_eqlB Try.underlying4 rfl rfl rfl | exact opv_neqB Try.underlying4 rfl rfl rfl | exact opv_eqlS rfl rfl rfl rfl | exact opv_neqS rfl rfl rfl rfl) (by first | rfl | assumption) ?_ | refine sl_ff rfl rfl rfl (by first | exact opv_eqlB Try.underlying4 rfl rfl rfl | exact opv_neqB Try.underlying4 rfl rfl rfl | exact opv_eqlS rfl rfl rfl rfl | exact opv_neqS rfl rfl rfl rfl) (by first | rfl | assumption) ?_ | refine sl_bool rfl rfl rfl (by first | exact opv_eqlB Try.underlying4 rfl rfl rfl | exact opv_neqB Try.underlying4 rfl rfl rfl | exact opv_eqlS rfl rfl rfl rfl | exact opv_neqS rfl rfl rfl rfl) (fun h => ?_) (fun h => ?_))
      | (refine gk 3 rfl ?_; first | refine sl_op rfl rfl rfl (by first | exact opv_load rfl (by exact rfl) rfl (by exact rfl) | exact opv_fieldAddr rfl rfl | exact opv_loadA rfl (by exact rfl) rfl (by exact rfl) (by exact rfl) | exact opv_indexAddrI rfl rfl rfl (by omega) (by omega) (by first | omega | (simp only [List.length_map]; omega) | (simp only [List.length_cons, List.length_nil]; omega)) | exact opv_index rfl rfl rfl (by omega) (by omega) (by first | assumption | exact rfl) | exact opv_indexA rfl rfl rfl (by omega) (by omega) (by first | assumption | exact rfl) | exact opv_indexAddrR rfl rfl rfl (by omega) (by omega) | exact opv_indexAddrE rfl rfl rfl (by assumption) (by omega) (by omega) | exact opv_fieldAddrE rfl rfl (by first | assumption | omega) | exact opv_loadELx rfl (by exact rfl) (by infer_instance) rfl rfl rfl | exact opv_loadEx rfl (by exact rfl) (by infer_instance) (by first | assumption | exact rfl) | exact opv_load2 rfl (by exact rfl) (by infer_instance) (by assumption) (by assumption)) ?_ | refine sl_pass rfl rfl rfl rfl ?_)
      | (refine gk 4 rfl ?_; first | refine sl_pass rfl rfl rfl rfl ?_ | refine sl_op rfl rfl rfl (by first | exact opv_len rfl rfl rfl rfl rfl | exact opv_min rfl rfl rfl rfl rfl) ?_ | refine sl_op rfl rfl rfl (opv_call rfl rfl rfl rfl rfl (d2)) ?_)
      | (refine gk 5 rfl ?_; first | refine sl_op rfl rfl rfl (by first | exact opv_build rfl rfl (by exact rfl) | exact opv_convert rfl rfl | exact opv_sliceHi rfl rfl rfl (by omega) (by omega) | exact opv_arrayAt rfl rfl rfl rfl) ?_ | refine sl_pass rfl rfl rfl rfl ?_ | refine sl_buildSlice rfl rfl rfl rfl rfl (by exact rfl) (by exact rfl) (by exact rfl) (by exact rfl) rfl (fun b => ?_) | refine sl_box rfl rfl rfl rfl rfl rfl (fun β => ?_) | refine sl_alloc rfl rfl rfl rfl (by exact rfl) (fun β => ?_) | refine sl_store rfl rfl rfl rfl rfl rfl (by exact rfl) rfl (by exact rfl) ?_)
      | refine sl_region rfl ?_
      | refine sl_draw (by kernel_rfl) (by kernel_rfl) rfl ?_
      | refine chu_nil ?_
      | refine chu_q rfl ?_
      | refine chu_f rfl ?_
      | refine chu_r rfl ?_
      | refine chu_new rfl rfl (by first | exact new_alloc rfl (by exact rfl) | exact new_box rfl rfl rfl | exact new_buildSlice rfl rfl (by exact rfl) rfl (by exact rfl) (by exact rfl) rfl) ?_
      | refine chu_rv rfl rfl rfl (fun β => ?_)
      | refine chu_pass rfl rfl rfl rfl ?_
      | refine chu_store rfl rfl rfl rfl rfl rfl (by exact rfl) rfl (by exact rfl) (by exact rfl) ?_
      | refine chu_P rfl rfl rfl rfl rfl rfl rfl rfl (d2) rfl ?_
      | refine sl_nil ?_
      | refine thn_k ?_
      | refine swp_true rfl ?_
      | refine swp_false rfl ?_
      | refine swp_block ?_
      | refine swp_ret ?_
      | refine swp_exit ?_
      | refine swp_skip ?_
      | refine thn_ret ?_
      | refine inb_ret ?_
      | refine inb_k ?_
      | refine thn_exit ?_
      | refine inb_exit ?_
      | refine inb_out rfl ?_)
    have hcs : ∀ j : Int, 0 ≤ j → j < 4 → ∃ u : Nat, u < 2 ^ 64 ∧ ([u64 w, u64 v, Value.int IntKind.u64 (bitsOp BinOp.xor IntKind.u64 ↑v (shl .u64 1 ((other : Int).tmod 64))), Value.int IntKind.u64 (bitsOp BinOp.and IntKind.u64 ↑w 1125899906842623)] : List Value)[j.toNat * 1]? = some (u64 u) := fun j j0 j1 => by
      rcases (by omega : j = 0 ∨ j = 1 ∨ j = 2 ∨ j = 3) with rfl | rfl | rfl | rfl
      · exact ⟨w, hw, rfl⟩
      · exact ⟨v, hv, rfl⟩
      · have e : shl .u64 1 ((other : Int).tmod 64) = ((1 <<< (other % 64) % 2 ^ 64 : Nat) : Int) := shl_nat 1 (other % 64)
        exact ⟨v ^^^ (1 <<< (other % 64) % 2 ^ 64), Nat.xor_lt_two_pow hv (Nat.mod_lt _ (by decide)), congrArg (fun x => some (Value.int IntKind.u64 x)) (by rw [e, xor_nat hv (Nat.mod_lt _ (by decide))])⟩
      · exact ⟨w &&& 1125899906842623, Nat.lt_of_le_of_lt Nat.and_le_left hw, congrArg (fun x => some (Value.int IntKind.u64 x)) (and_nat (b := 1125899906842623) hw (by decide))⟩
    refine swp_loopS (fun s : S5 => [(7, .pointer (some ⟨β7, 0, none⟩)), (81, .agg ⟨[u64 w, u64 v, Value.int IntKind.u64 (bitsOp BinOp.xor IntKind.u64 ↑v (shl .u64 1 ((other : Int).tmod 64))), Value.int IntKind.u64 (bitsOp BinOp.and IntKind.u64 ↑w 1125899906842623)]⟩), (82, i64 s.k)])
      (fun _ => [blk β7 (.cells ⟨[i64 t1, i64 o1, i64 c1, i64 m1, i64 g1, i64 k1]⟩ 23 (0, 0))]) (fun s => 0 ≤ s.k ∧ s.k ≤ 4) (fun s => (4 - s.k).toNat) ⟨0⟩ (by repeat first | exact Sub.nil _ | refine Sub.cons rfl ?_) ⟨by decide, by decide⟩ ?_
    rintro ⟨i⟩ ⟨hi0, hi1⟩
    dsimp only at hi0 hi1 ⊢
    by_cases hi : i < 4
    · obtain ⟨u, hu64, hcell⟩ := hcs i hi0 hi
      clear hcs
      obtain ⟨y1, y2, y3, y4, y5, y6, bo, a1, a2⟩ := open_both u hu64
      obtain ⟨v1, b1, e1, r1⟩ := with_both u hu64 1 0 0 0 0 0
      obtain ⟨v2, b2, e2, r2⟩ := with_both u hu64 2 o1 c1 0 0 0
      obtain ⟨v3, b3, e3, r3⟩ := with_both u hu64 3 o1 c1 0 0 0
      obtain ⟨v4, b4, e4, r4⟩ := with_both u hu64 4 0 0 m1 g1 0
      have f1 := Free_of u v1 b1 e1
      have f2 := Biased_of u v2 o1 c1 b2 e2
      have f3 := Thin_of u v3 o1 c1 b3 e3
      have f4 := Fat_of u v4 m1 g1 b4 e4
      have l1 := alike_same v1 b1
      have l2 := alike_same v2 b2
      have l3 := alike_same v3 b3
      have l4 := alike_same v4 b4
      repeat' (first
        | refine sl_ff rfl rfl rfl (opv_neqS rfl rfl rfl rfl) (by simp) ?_
        | refine sl_ff rfl rfl rfl (opv_neqB Try.underlying4 rfl rfl rfl) (by simp) ?_
        | refine swp_seq ?_
        | (refine gk 0 rfl ?_; first | refine sl_op rfl rfl rfl (by first | exact opv_move rfl rfl | exact opv_assign rfl rfl | exact opv_pick_t rfl rfl rfl | exact opv_pick_f rfl rfl rfl | exact opv_not_t rfl rfl | exact opv_not_f rfl rfl | exact opv_not rfl rfl | exact opv_extract rfl rfl rfl | exact opv_makeFunc rfl rfl rfl) ?_ | refine sl_bool rfl rfl rfl (by first | exact opv_move rfl rfl | exact opv_assign rfl rfl | exact opv_pick_t rfl rfl rfl | exact opv_pick_f rfl rfl rfl | exact opv_not_t rfl rfl | exact opv_not_f rfl rfl | exact opv_not rfl rfl | exact opv_extract rfl rfl rfl | exact opv_makeFunc rfl rfl rfl) (fun h => ?_) (fun h => ?_) | refine sl_pass rfl rfl rfl rfl ?_)
        | (refine gk 1 rfl ?_; first | refine sl_op rfl rfl rfl (by first | exact opv_add64 rfl rfl rfl (by omega) (by omega) | exact opv_sub64 rfl rfl rfl (by omega) (by omega) | exact opv_add rfl rfl rfl | exact opv_sub rfl rfl rfl | exact opv_mul rfl rfl rfl | exact opv_rem rfl rfl rfl (by omega) | exact opv_quo rfl rfl rfl (by omega) | exact opv_shl rfl rfl rfl (by omega) | exact opv_shr rfl rfl rfl (by omega) | exact opv_bits rfl rfl rfl (by decide)) ?_ | refine sl_pass rfl rfl rfl rfl ?_)
        | (refine gk 2 rfl ?_; first | refine sl_pass rfl rfl rfl rfl ?_ | refine sl_yes rfl rfl rfl (by first | exact opv_lss rfl rfl rfl | exact opv_leq rfl rfl rfl | exact opv_gtr rfl rfl rfl | exact opv_geq rfl rfl rfl | exact opv_eql rfl rfl rfl | exact opv_neq rfl rfl rfl) (by first | omega | decide +kernel) ?_ | refine sl_no rfl rfl rfl (by first | exact opv_lss rfl rfl rfl | exact opv_leq rfl rfl rfl | exact opv_gtr rfl rfl rfl | exact opv_geq rfl rfl rfl | exact opv_eql rfl rfl rfl | exact opv_neq rfl rfl rfl) (by first | omega | decide +kernel) ?_ | refine sl_if rfl rfl rfl (by first | exact opv_lss rfl rfl rfl | exact opv_leq rfl rfl rfl | exact opv_gtr rfl rfl rfl | exact opv_geq rfl rfl rfl | exact opv_eql rfl rfl rfl | exact opv_neq rfl rfl rfl) (fun h => ?_) (fun h => ?_) | refine sl_tt rfl rfl rfl (by first | exact opv_eqlB Try.underlying4 rfl rfl rfl | exact opv_neqB Try.underlying4 rfl rfl rfl | exact opv_eqlS rfl rfl rfl rfl | exact opv_neqS rfl rfl rfl rfl) (by first | rfl | assumption) ?_ | refine sl_ff rfl rfl rfl (by first | exact opv_eqlB Try.underlying4 rfl rfl rfl | exact opv_neqB Try.underlying4 rfl rfl rfl | exact opv_eqlS rfl rfl rfl rfl | exact opv_neqS rfl rfl rfl rfl) (by first | rfl | assumption) ?_ | refine sl_bool rfl rfl rfl (by first | exact opv_eqlB Try.underlying4 rfl rfl rfl | exact opv_neqB Try.underlying4 rfl rfl rfl | exact opv_eqlS rfl rfl rfl rfl | exact opv_neqS rfl rfl rfl rfl) (fun h => ?_) (fun h => ?_))
        | (refine gk 3 rfl ?_; first | refine sl_op rfl rfl rfl (by first | exact opv_load rfl (by exact rfl) rfl (by exact rfl) | exact opv_fieldAddr rfl rfl | exact opv_loadA rfl (by exact rfl) rfl (by exact rfl) (by exact rfl) | exact opv_indexAddrI rfl rfl rfl (by omega) (by omega) (by first | omega | (simp only [List.length_map]; omega) | (simp only [List.length_cons, List.length_nil]; omega)) | exact opv_index rfl rfl rfl (by omega) (by omega) (by first | assumption | exact rfl) | exact opv_indexA rfl rfl rfl (by omega) (by omega) (by first | assumption | exact rfl) | exact opv_indexAddrR rfl rfl rfl (by omega) (by omega) | exact opv_indexAddrE rfl rfl rfl (by assumption) (by omega) (by omega) | exact opv_fieldAddrE rfl rfl (by first | assumption | omega) | exact opv_loadELx rfl (by exact rfl) (by infer_instance) rfl rfl rfl | exact opv_loadEx rfl (by exact rfl) (by infer_instance) (by first | assumption | exact rfl) | exact opv_load2 rfl (by exact rfl) (by infer_instance) (by assumption) (by assumption)) ?_ | refine sl_pass rfl rfl rfl rfl ?_)
        | (refine gk 4 rfl ?_; first | refine sl_pass rfl rfl rfl rfl ?_ | refine sl_op rfl rfl rfl (by first | exact opv_len rfl rfl rfl rfl rfl | exact opv_min rfl rfl rfl rfl rfl) ?_ | refine sl_op rfl rfl rfl (opv_call rfl rfl rfl rfl rfl (a1)) ?_ | refine sl_op rfl rfl rfl (opv_call rfl rfl rfl rfl rfl (a2)) ?_ | refine sl_op rfl rfl rfl (opv_call rfl rfl rfl rfl rfl (r1)) ?_ | refine sl_op rfl rfl rfl (opv_call rfl rfl rfl rfl rfl (r2)) ?_ | refine sl_op rfl rfl rfl (opv_call rfl rfl rfl rfl rfl (r3)) ?_ | refine sl_op rfl rfl rfl (opv_call rfl rfl rfl rfl rfl (r4)) ?_ | refine sl_op rfl rfl rfl (opv_call rfl rfl rfl rfl rfl (f1)) ?_ | refine sl_op rfl rfl rfl (opv_call rfl rfl rfl rfl rfl (f2)) ?_ | refine sl_op rfl rfl rfl (opv_call rfl rfl rfl rfl rfl (f3)) ?_ | refine sl_op rfl rfl rfl (opv_call rfl rfl rfl rfl rfl (f4)) ?_ | refine sl_op rfl rfl rfl (opv_call rfl rfl rfl rfl rfl (l1)) ?_ | refine sl_op rfl rfl rfl (opv_call rfl rfl rfl rfl rfl (l2)) ?_ | refine sl_op rfl rfl rfl (opv_call rfl rfl rfl rfl rfl (l3)) ?_ | refine sl_op rfl rfl rfl (opv_call rfl rfl rfl rfl rfl (l4)) ?_)
        | (refine gk 5 rfl ?_; first | refine sl_op rfl rfl rfl (by first | exact opv_build rfl rfl (by exact rfl) | exact opv_convert rfl rfl | exact opv_sliceHi rfl rfl rfl (by omega) (by omega) | exact opv_arrayAt rfl rfl rfl rfl) ?_ | refine sl_pass rfl rfl rfl rfl ?_ | refine sl_buildSlice rfl rfl rfl rfl rfl (by exact rfl) (by exact rfl) (by exact rfl) (by exact rfl) rfl (fun b => ?_) | refine sl_box rfl rfl rfl rfl rfl rfl (fun β => ?_) | refine sl_alloc rfl rfl rfl rfl (by exact rfl) (fun β => ?_) | refine sl_store rfl rfl rfl rfl rfl rfl (by exact rfl) rfl (by exact rfl) ?_)
        | refine sl_region rfl ?_
        | refine sl_draw (by kernel_rfl) (by kernel_rfl) rfl ?_
        | refine chu_nil ?_
        | refine chu_q rfl ?_
        | refine chu_f rfl ?_
        | refine chu_r rfl ?_
        | refine chu_new rfl rfl (by first | exact new_alloc rfl (by exact rfl) | exact new_box rfl rfl rfl | exact new_buildSlice rfl rfl (by exact rfl) rfl (by exact rfl) (by exact rfl) rfl) ?_
        | refine chu_rv rfl rfl rfl (fun β => ?_)
        | refine chu_pass rfl rfl rfl rfl ?_
        | refine chu_store rfl rfl rfl rfl rfl rfl (by exact rfl) rfl (by exact rfl) (by exact rfl) ?_
        | refine chu_P rfl rfl rfl rfl rfl rfl rfl rfl (a1) rfl ?_
        | refine chu_P rfl rfl rfl rfl rfl rfl rfl rfl (a2) rfl ?_
        | refine chu_P rfl rfl rfl rfl rfl rfl rfl rfl (r1) rfl ?_
        | refine chu_P rfl rfl rfl rfl rfl rfl rfl rfl (r2) rfl ?_
        | refine chu_P rfl rfl rfl rfl rfl rfl rfl rfl (r3) rfl ?_
        | refine chu_P rfl rfl rfl rfl rfl rfl rfl rfl (r4) rfl ?_
        | refine chu_P rfl rfl rfl rfl rfl rfl rfl rfl (f1) rfl ?_
        | refine chu_P rfl rfl rfl rfl rfl rfl rfl rfl (f2) rfl ?_
        | refine chu_P rfl rfl rfl rfl rfl rfl rfl rfl (f3) rfl ?_
        | refine chu_P rfl rfl rfl rfl rfl rfl rfl rfl (f4) rfl ?_
        | refine chu_P rfl rfl rfl rfl rfl rfl rfl rfl (l1) rfl ?_
        | refine chu_P rfl rfl rfl rfl rfl rfl rfl rfl (l2) rfl ?_
        | refine chu_P rfl rfl rfl rfl rfl rfl rfl rfl (l3) rfl ?_
        | refine chu_P rfl rfl rfl rfl rfl rfl rfl rfl (l4) rfl ?_
        | refine sl_nil ?_
        | refine thn_k ?_
        | refine swp_true rfl ?_
        | refine swp_false rfl ?_
        | refine swp_block ?_
        | refine swp_ret ?_
        | refine swp_exit ?_
        | refine swp_skip ?_
        | refine thn_ret ?_
        | refine inb_ret ?_
        | refine inb_k ?_
        | refine thn_exit ?_
        | refine inb_exit ?_
        | refine inb_out rfl ?_)
      refine ⟨rfl, ⟨i + 1⟩, next_ok (by repeat first | exact Sub.nil _ | refine Sub.cons rfl ?_), ?_, ?_⟩
      all_goals dsimp only
      · exact ⟨by omega, by omega⟩
      · omega
    · repeat' (first
        | refine swp_seq ?_
        | (refine gk 0 rfl ?_; first | refine sl_op rfl rfl rfl (by first | exact opv_move rfl rfl | exact opv_assign rfl rfl | exact opv_pick_t rfl rfl rfl | exact opv_pick_f rfl rfl rfl | exact opv_not_t rfl rfl | exact opv_not_f rfl rfl | exact opv_not rfl rfl | exact opv_extract rfl rfl rfl | exact opv_makeFunc rfl rfl rfl) ?_ | refine sl_bool rfl rfl rfl (by first | exact opv_move rfl rfl | exact opv_assign rfl rfl | exact opv_pick_t rfl rfl rfl | exact opv_pick_f rfl rfl rfl | exact opv_not_t rfl rfl | exact opv_not_f rfl rfl | exact opv_not rfl rfl | exact opv_extract rfl rfl rfl | exact opv_makeFunc rfl rfl rfl) (fun h => ?_) (fun h => ?_) | refine sl_pass rfl rfl rfl rfl ?_)
        | (refine gk 1 rfl ?_; first | refine sl_op rfl rfl rfl (by first | exact opv_add64 rfl rfl rfl (by omega) (by omega) | exact opv_sub64 rfl rfl rfl (by omega) (by omega) | exact opv_add rfl rfl rfl | exact opv_sub rfl rfl rfl | exact opv_mul rfl rfl rfl | exact opv_rem rfl rfl rfl (by omega) | exact opv_quo rfl rfl rfl (by omega) | exact opv_shl rfl rfl rfl (by omega) | exact opv_shr rfl rfl rfl (by omega) | exact opv_bits rfl rfl rfl (by decide)) ?_ | refine sl_pass rfl rfl rfl rfl ?_)
        | (refine gk 2 rfl ?_; first | refine sl_pass rfl rfl rfl rfl ?_ | refine sl_yes rfl rfl rfl (by first | exact opv_lss rfl rfl rfl | exact opv_leq rfl rfl rfl | exact opv_gtr rfl rfl rfl | exact opv_geq rfl rfl rfl | exact opv_eql rfl rfl rfl | exact opv_neq rfl rfl rfl) (by first | omega | decide +kernel) ?_ | refine sl_no rfl rfl rfl (by first | exact opv_lss rfl rfl rfl | exact opv_leq rfl rfl rfl | exact opv_gtr rfl rfl rfl | exact opv_geq rfl rfl rfl | exact opv_eql rfl rfl rfl | exact opv_neq rfl rfl rfl) (by first | omega | decide +kernel) ?_ | refine sl_if rfl rfl rfl (by first | exact opv_lss rfl rfl rfl | exact opv_leq rfl rfl rfl | exact opv_gtr rfl rfl rfl | exact opv_geq rfl rfl rfl | exact opv_eql rfl rfl rfl | exact opv_neq rfl rfl rfl) (fun h => ?_) (fun h => ?_) | refine sl_tt rfl rfl rfl (by first | exact opv_eqlB Try.underlying4 rfl rfl rfl | exact opv_neqB Try.underlying4 rfl rfl rfl | exact opv_eqlS rfl rfl rfl rfl | exact opv_neqS rfl rfl rfl rfl) (by first | rfl | assumption) ?_ | refine sl_ff rfl rfl rfl (by first | exact opv_eqlB Try.underlying4 rfl rfl rfl | exact opv_neqB Try.underlying4 rfl rfl rfl | exact opv_eqlS rfl rfl rfl rfl | exact opv_neqS rfl rfl rfl rfl) (by first | rfl | assumption) ?_ | refine sl_bool rfl rfl rfl (by first | exact opv_eqlB Try.underlying4 rfl rfl rfl | exact opv_neqB Try.underlying4 rfl rfl rfl | exact opv_eqlS rfl rfl rfl rfl | exact opv_neqS rfl rfl rfl rfl) (fun h => ?_) (fun h => ?_))
        | (refine gk 3 rfl ?_; first | refine sl_op rfl rfl rfl (by first | exact opv_load rfl (by exact rfl) rfl (by exact rfl) | exact opv_fieldAddr rfl rfl | exact opv_loadA rfl (by exact rfl) rfl (by exact rfl) (by exact rfl) | exact opv_indexAddrI rfl rfl rfl (by omega) (by omega) (by first | omega | (simp only [List.length_map]; omega) | (simp only [List.length_cons, List.length_nil]; omega)) | exact opv_index rfl rfl rfl (by omega) (by omega) (by first | assumption | exact rfl) | exact opv_indexA rfl rfl rfl (by omega) (by omega) (by first | assumption | exact rfl) | exact opv_indexAddrR rfl rfl rfl (by omega) (by omega) | exact opv_indexAddrE rfl rfl rfl (by assumption) (by omega) (by omega) | exact opv_fieldAddrE rfl rfl (by first | assumption | omega) | exact opv_loadELx rfl (by exact rfl) (by infer_instance) rfl rfl rfl | exact opv_loadEx rfl (by exact rfl) (by infer_instance) (by first | assumption | exact rfl) | exact opv_load2 rfl (by exact rfl) (by infer_instance) (by assumption) (by assumption)) ?_ | refine sl_pass rfl rfl rfl rfl ?_)
        | (refine gk 4 rfl ?_; first | refine sl_pass rfl rfl rfl rfl ?_ | refine sl_op rfl rfl rfl (by first | exact opv_len rfl rfl rfl rfl rfl | exact opv_min rfl rfl rfl rfl rfl) ?_ | refine sl_op rfl rfl rfl (opv_call rfl rfl rfl rfl rfl (works_calls)) ?_)
        | (refine gk 5 rfl ?_; first | refine sl_op rfl rfl rfl (by first | exact opv_build rfl rfl (by exact rfl) | exact opv_convert rfl rfl | exact opv_sliceHi rfl rfl rfl (by omega) (by omega) | exact opv_arrayAt rfl rfl rfl rfl) ?_ | refine sl_pass rfl rfl rfl rfl ?_ | refine sl_buildSlice rfl rfl rfl rfl rfl (by exact rfl) (by exact rfl) (by exact rfl) (by exact rfl) rfl (fun b => ?_) | refine sl_box rfl rfl rfl rfl rfl rfl (fun β => ?_) | refine sl_alloc rfl rfl rfl rfl (by exact rfl) (fun β => ?_) | refine sl_store rfl rfl rfl rfl rfl rfl (by exact rfl) rfl (by exact rfl) ?_)
        | refine sl_region rfl ?_
        | refine sl_draw (by kernel_rfl) (by kernel_rfl) rfl ?_
        | refine chu_nil ?_
        | refine chu_q rfl ?_
        | refine chu_f rfl ?_
        | refine chu_r rfl ?_
        | refine chu_new rfl rfl (by first | exact new_alloc rfl (by exact rfl) | exact new_box rfl rfl rfl | exact new_buildSlice rfl rfl (by exact rfl) rfl (by exact rfl) (by exact rfl) rfl) ?_
        | refine chu_rv rfl rfl rfl (fun β => ?_)
        | refine chu_pass rfl rfl rfl rfl ?_
        | refine chu_store rfl rfl rfl rfl rfl rfl (by exact rfl) rfl (by exact rfl) (by exact rfl) ?_
        | refine chu_P rfl rfl rfl rfl rfl rfl rfl rfl (works_calls) rfl ?_
        | refine sl_nil ?_
        | refine thn_k ?_
        | refine swp_true rfl ?_
        | refine swp_false rfl ?_
        | refine swp_block ?_
        | refine swp_ret ?_
        | refine swp_exit ?_
        | refine swp_skip ?_
        | refine thn_ret ?_
        | refine inb_ret ?_
        | refine inb_k ?_
        | refine thn_exit ?_
        | refine inb_exit ?_
        | refine inb_out rfl ?_)
      refine end_pure (resOk_one (resV_tmp rfl)) ?_
      rfl
end Go.Proofs.Ytblobkigbdcjeaa
