/- The statement WordBack, walked. -/
import Derived.Test.YtblobkigbdcjeaaWW7
namespace Go.Proofs.Ytblobkigbdcjeaa
open Go.SL
set_option maxRecDepth 100000
set_option maxHeartbeats 16000000
attribute [local irreducible] T PFn OpV SOL SWP HOp ChU
structure S5 where
  k : Int
/-- A header, there and back. -/
theorem header_back (t o c m g k : Int) : (∃ v : Nat, PFn Try.prog 10 [hdr t o c m g k] [] (.tuple #[u64 v, .bool true]) ∧ PFn Try.prog 11 [u64 v] [] (.tuple #[hdr t o c m g k, .bool true])) ∨
    (PFn Try.prog 10 [hdr t o c m g k] [] (.tuple #[u64 0, .bool false]) ∧ ∃ (t' o' c' m' g' k' : Int) (b : Bool), PFn Try.prog 11 [u64 0] [] (.tuple #[hdr t' o' c' m' g' k', .bool b])) := by
  rcases pack_cases t o c m g k with ⟨h, v, hv, e, c1, -⟩ | ⟨h, c1, -⟩
  · exact .inl ⟨v, c1, (open_of h v hv e).1⟩
  · refine .inr ⟨c1, ?_⟩
    rcases open_cases 0 (by decide) with ⟨t', o', c', m', g', k', -, -, c2, -⟩ | ⟨-, c2, -⟩
    · exact ⟨t', o', c', m', g', k', true, c2⟩
    · exact ⟨0, 0, 0, 0, 0, 0, false, c2⟩
theorem word_back (w : Nat) (hw : w < 2 ^ 64) : (∃ t o c m g k : Int, PFn Try.prog 11 [u64 w] [] (.tuple #[hdr t o c m g k, .bool true]) ∧ PFn Try.prog 10 [hdr t o c m g k] [] (.tuple #[u64 w, .bool true])) ∨
    (PFn Try.prog 11 [u64 w] [] (.tuple #[hdr 0 0 0 0 0 0, .bool false]) ∧ ∃ (v : Nat) (b : Bool), PFn Try.prog 10 [hdr 0 0 0 0 0 0] [] (.tuple #[u64 v, .bool b])) := by
  rcases open_cases w hw with ⟨t, o, c, m, g, k, h, e, c1, -⟩ | ⟨-, c1, -⟩
  · obtain ⟨v, hv, e', c2, -⟩ := pack_of h
    obtain rfl : v = w := by omega
    exact .inl ⟨t, o, c, m, g, k, c1, c2⟩
  · refine .inr ⟨c1, ?_⟩
    rcases pack_cases 0 0 0 0 0 0 with ⟨-, v, -, -, c2, -⟩ | ⟨-, c2, -⟩
    · exact ⟨v, true, c2⟩
    · exact ⟨0, false, c2⟩
/-- A header in a list of headers. -/
theorem two_hdr (t o c m g k t' o' c' m' g' k' : Int) {j : Int} (h0 : 0 ≤ j) (h1 : j < 2) : ∃ x1 x2 x3 x4 x5 x6 : Int,
    ((([i64 t, i64 o, i64 c, i64 m, i64 g, i64 k, i64 t', i64 o', i64 c', i64 m', i64 g', i64 k'] : List Value).drop (j.toNat * 6)).take 6) = [i64 x1, i64 x2, i64 x3, i64 x4, i64 x5, i64 x6] := by
  rcases (by omega : j = 0 ∨ j = 1) with rfl | rfl
  · exact ⟨_, _, _, _, _, _, rfl⟩
  · exact ⟨_, _, _, _, _, _, rfl⟩
theorem WordBack_calls (t o c m g k : Int) (w : Nat) (hw : w < 2 ^ 64) : PFn Try.prog 3 [hdr t o c m g k, u64 w] [] (.bool true) := by
  obtain ⟨t1, o1, c1, m1, g1, k1, cn⟩ : ∃ t1 o1 c1 m1 g1 k1, PFn Try.prog 9 [hdr t o c m g k] [] (hdr t1 o1 c1 m1 g1 k1) := ⟨_, _, _, _, _, _, near_calls t o c m g k⟩
  obtain ⟨o2, c2, m2, g2, cp⟩ := plain_calls t1 o1 c1 m1 g1 k1
  refine pure_of_body Try.func3 rfl (Nat.le_of_ble_eq_true rfl) fun F => ?_
  repeat' (first
    | refine swp_seq ?_
    | (refine gk 0 rfl ?_; first | refine sl_op rfl rfl rfl (by first | exact opv_move rfl rfl | exact opv_assign rfl rfl | exact opv_pick_t rfl rfl rfl | exact opv_pick_f rfl rfl rfl | exact opv_not_t rfl rfl | exact opv_not_f rfl rfl | exact opv_not rfl rfl | exact opv_extract rfl rfl rfl | exact opv_makeFunc rfl rfl rfl) ?_ | refine sl_bool rfl rfl rfl (by first | exact opv_move rfl rfl | exact opv_assign rfl rfl | exact opv_pick_t rfl rfl rfl | exact opv_pick_f rfl rfl rfl | exact opv_not_t rfl rfl | exact opv_not_f rfl rfl | exact opv_not rfl rfl | exact opv_extract rfl rfl rfl | exact opv_makeFunc rfl rfl rfl) (fun h => ?_) (fun h => ?_) | refine sl_pass rfl rfl rfl rfl ?_)
    | (refine gk 1 rfl ?_; first | refine sl_op rfl rfl rfl (by first | exact opv_add64 rfl rfl rfl (by omega) (by omega) | exact opv_sub64 rfl rfl rfl (by omega) (by omega) | exact opv_add rfl rfl rfl | exact opv_sub rfl rfl rfl | exact opv_mul rfl rfl rfl | exact opv_rem rfl rfl rfl (by omega) | exact opv_quo rfl rfl rfl (by omega) | exact opv_shl rfl rfl rfl (by omega) | exact opv_shr rfl rfl rfl (by omega) | exact opv_bits rfl rfl rfl (by decide)) ?_ | refine sl_pass rfl rfl rfl rfl ?_)
    | (refine gk 2 rfl ?_; first | refine sl_pass rfl rfl rfl rfl ?_ | refine sl_yes rfl rfl rfl (by first | exact opv_lss rfl rfl rfl | exact opv_leq rfl rfl rfl | exact opv_gtr rfl rfl rfl | exact opv_geq rfl rfl rfl | exact opv_eql rfl rfl rfl | exact opv_neq rfl rfl rfl) (by first | omega | decide +kernel) ?_ | refine sl_no rfl rfl rfl (by first | exact opv_lss rfl rfl rfl | exact opv_leq rfl rfl rfl | exact opv_gtr rfl rfl rfl | exact opv_geq rfl rfl rfl | exact opv_eql rfl rfl rfl | exact opv_neq rfl rfl rfl) (by first | omega | decide +kernel) ?_ | refine sl_if rfl rfl rfl (by first | exact opv_lss rfl rfl rfl | exact opv_leq rfl rfl rfl | exact opv_gtr rfl rfl rfl | exact opv_geq rfl rfl rfl | exact opv_eql rfl rfl rfl | exact opv_neq rfl rfl rfl) (fun h => ?_) (fun h => ?_) | refine sl_tt rfl rfl rfl (by first | exact opv_eqlB Try.underlying4 rfl rfl rfl | exact opv_neqB Try.underlying4 rfl rfl rfl | exact opv_eqlS rfl rfl rfl rfl | exact opv_neqS rfl rfl rfl rfl) (by first | rfl | assumption) ?_ | refine sl_ff rfl rfl rfl (by first | exact opv_eqlB Try.underlying4 rfl rfl rfl | exact opv_neqB Try.underlying4 rfl rfl rfl | exact opv_eqlS rfl rfl rfl rfl | exact opv_neqS rfl rfl rfl rfl) (by first | rfl | assumption) ?_ | refine sl_bool rfl rfl rfl (by first | exact opv_eqlB Try.underlying4 rfl rfl rfl | exact opv_neqB Try.underlying4 rfl rfl rfl | exact opv_eqlS rfl rfl rfl rfl | exact opv_neqS rfl rfl rfl rfl) (fun h => ?_) (fun h => ?_))
    | (refine gk 3 rfl ?_; first | refine sl_op rfl rfl rfl (by first | exact opv_load rfl (by exact rfl) rfl (by exact rfl) | exact opv_fieldAddr rfl rfl | exact opv_loadA rfl (by exact rfl) rfl (by exact rfl) (by exact rfl) | exact opv_indexAddrI rfl rfl rfl (by omega) (by omega) (by first | omega | (simp only [List.length_map]; omega) | (simp only [List.length_cons, List.length_nil]; omega)) | exact opv_index rfl rfl rfl (by omega) (by omega) (by first | assumption | exact rfl) | exact opv_indexA rfl rfl rfl (by omega) (by omega) (by first | assumption | exact rfl) | exact opv_indexAddrR rfl rfl rfl (by omega) (by omega) | exact opv_fieldAddrE rfl rfl (by first | assumption | omega) | exact opv_loadELx rfl (by exact rfl) (by infer_instance) rfl rfl rfl | exact opv_loadEx rfl (by exact rfl) (by infer_instance) (by first | assumption | exact rfl) | exact opv_load2 rfl (by exact rfl) (by infer_instance) (by assumption) (by assumption)) ?_ | refine sl_pass rfl rfl rfl rfl ?_)
    | (refine gk 4 rfl ?_; first | refine sl_pass rfl rfl rfl rfl ?_ | refine sl_op rfl rfl rfl (by first | exact opv_len rfl rfl rfl rfl rfl | exact opv_min rfl rfl rfl rfl rfl) ?_ | refine sl_op rfl rfl rfl (opv_call rfl rfl rfl rfl rfl (works_calls)) ?_ | refine sl_op rfl rfl rfl (opv_call rfl rfl rfl rfl rfl (cn)) ?_ | refine sl_op rfl rfl rfl (opv_call rfl rfl rfl rfl rfl (cp)) ?_)
    | (refine gk 5 rfl ?_; first | refine sl_op rfl rfl rfl (by first | exact opv_build rfl rfl (by exact rfl) | exact opv_convert rfl rfl | exact opv_sliceHi rfl rfl rfl (by omega) (by omega) | exact opv_arrayAt rfl rfl rfl rfl) ?_ | refine sl_pass rfl rfl rfl rfl ?_ | refine sl_buildSlice rfl rfl rfl rfl rfl (by exact rfl) (by exact rfl) (by exact rfl) (by exact rfl) rfl (fun b => ?_) | refine sl_box rfl rfl rfl rfl rfl rfl (fun β => ?_) | refine sl_alloc rfl rfl rfl rfl (by exact rfl) (fun β => ?_) | refine sl_store rfl rfl rfl rfl rfl rfl (by exact rfl) rfl (by exact rfl) ?_)
    | refine sl_region rfl ?_
    | refine sl_draw (by kernel_rfl) (by kernel_rfl) rfl ?_
    | refine chu_nil ?_
    | refine chu_q rfl ?_
    | refine chu_f rfl ?_
    | refine chu_r rfl ?_
    | refine chu_new rfl rfl (by first | exact new_alloc rfl (by exact rfl) | exact new_box rfl rfl rfl | exact new_buildSlice rfl rfl (by exact rfl) rfl (by exact rfl) (by exact rfl) rfl) ?_
    | refine chu_rv rfl rfl rfl (fun β => ?_)
    | refine chu_pass rfl rfl rfl rfl ?_
    | refine chu_store rfl rfl rfl rfl rfl rfl (by exact rfl) rfl (by exact rfl) (by exact rfl) ?_
    | refine chu_P rfl rfl rfl rfl rfl rfl rfl rfl (works_calls) rfl ?_
    | refine chu_P rfl rfl rfl rfl rfl rfl rfl rfl (cn) rfl ?_
    | refine chu_P rfl rfl rfl rfl rfl rfl rfl rfl (cp) rfl ?_
    | refine sl_nil ?_
    | refine thn_k ?_
    | refine swp_true rfl ?_
    | refine swp_false rfl ?_
    | refine swp_block ?_
    | refine swp_ret ?_
    | refine swp_exit ?_
    | refine swp_skip ?_
    | refine thn_ret ?_
    | refine inb_ret ?_
    | refine inb_k ?_
    | refine thn_exit ?_
    | refine inb_exit ?_
    | refine inb_out rfl ?_)
  refine swp_loopS (fun s : S5 => [(1, u64 w), (23, .agg ⟨[i64 t, i64 o, i64 c, i64 m, i64 g, i64 k, i64 t1, i64 o2, i64 c2, i64 m2, i64 g2, i64 k1]⟩), (24, i64 s.k)])
    (fun _ => []) (fun s => 0 ≤ s.k ∧ s.k ≤ 2) (fun s => (2 - s.k).toNat) ⟨0⟩ (by repeat first | exact Sub.nil _ | refine Sub.cons rfl ?_) ⟨by decide, by decide⟩ ?_
  rintro ⟨j⟩ ⟨hj0, hj1⟩
  dsimp only at hj0 hj1 ⊢
  by_cases hj : j < 2
  · obtain ⟨x1, x2, x3, x4, x5, x6, hx⟩ := two_hdr t o c m g k t1 o2 c2 m2 g2 k1 hj0 hj
    rcases header_back x1 x2 x3 x4 x5 x6 with ⟨v, d1, d2⟩ | ⟨d1, y1, y2, y3, y4, y5, y6, b, d2⟩
    · repeat' (first
        | refine sl_ff rfl rfl rfl (opv_neqS rfl rfl rfl rfl) (by simp) ?_
        | refine swp_seq ?_
        | (refine gk 0 rfl ?_; first | refine sl_op rfl rfl rfl (by first | exact opv_move rfl rfl | exact opv_assign rfl rfl | exact opv_pick_t rfl rfl rfl | exact opv_pick_f rfl rfl rfl | exact opv_not_t rfl rfl | exact opv_not_f rfl rfl | exact opv_not rfl rfl | exact opv_extract rfl rfl rfl | exact opv_makeFunc rfl rfl rfl) ?_ | refine sl_bool rfl rfl rfl (by first | exact opv_move rfl rfl | exact opv_assign rfl rfl | exact opv_pick_t rfl rfl rfl | exact opv_pick_f rfl rfl rfl | exact opv_not_t rfl rfl | exact opv_not_f rfl rfl | exact opv_not rfl rfl | exact opv_extract rfl rfl rfl | exact opv_makeFunc rfl rfl rfl) (fun h => ?_) (fun h => ?_) | refine sl_pass rfl rfl rfl rfl ?_)
        | (refine gk 1 rfl ?_; first | refine sl_op rfl rfl rfl (by first | exact opv_add64 rfl rfl rfl (by omega) (by omega) | exact opv_sub64 rfl rfl rfl (by omega) (by omega) | exact opv_add rfl rfl rfl | exact opv_sub rfl rfl rfl | exact opv_mul rfl rfl rfl | exact opv_rem rfl rfl rfl (by omega) | exact opv_quo rfl rfl rfl (by omega) | exact opv_shl rfl rfl rfl (by omega) | exact opv_shr rfl rfl rfl (by omega) | exact opv_bits rfl rfl rfl (by decide)) ?_ | refine sl_pass rfl rfl rfl rfl ?_)
        | (refine gk 2 rfl ?_; first | refine sl_pass rfl rfl rfl rfl ?_ | refine sl_yes rfl rfl rfl (by first | exact opv_lss rfl rfl rfl | exact opv_leq rfl rfl rfl | exact opv_gtr rfl rfl rfl | exact opv_geq rfl rfl rfl | exact opv_eql rfl rfl rfl | exact opv_neq rfl rfl rfl) (by first | omega | decide +kernel) ?_ | refine sl_no rfl rfl rfl (by first | exact opv_lss rfl rfl rfl | exact opv_leq rfl rfl rfl | exact opv_gtr rfl rfl rfl | exact opv_geq rfl rfl rfl | exact opv_eql rfl rfl rfl | exact opv_neq rfl rfl rfl) (by first | omega | decide +kernel) ?_ | refine sl_if rfl rfl rfl (by first | exact opv_lss rfl rfl rfl | exact opv_leq rfl rfl rfl | exact opv_gtr rfl rfl rfl | exact opv_geq rfl rfl rfl | exact opv_eql rfl rfl rfl | exact opv_neq rfl rfl rfl) (fun h => ?_) (fun h => ?_) | refine sl_tt rfl rfl rfl (by first | exact opv_eqlB Try.underlying4 rfl rfl rfl | exact opv_neqB Try.underlying4 rfl rfl rfl | exact opv_eqlS rfl rfl rfl rfl | exact opv_neqS rfl rfl rfl rfl) (by first | rfl | assumption) ?_ | refine sl_ff rfl rfl rfl (by first | exact opv_eqlB Try.underlying4 rfl rfl rfl | exact opv_neqB Try.underlying4 rfl rfl rfl | exact opv_eqlS rfl rfl rfl rfl | exact opv_neqS rfl rfl rfl rfl) (by first | rfl | assumption) ?_ | refine sl_bool rfl rfl rfl (by first | exact opv_eqlB Try.underlying4 rfl rfl rfl | exact opv_neqB Try.underlying4 rfl rfl rfl | exact opv_eqlS rfl rfl rfl rfl | exact opv_neqS rfl rfl rfl rfl) (fun h => ?_) (fun h => ?_))
        | (refine gk 3 rfl ?_; first | refine sl_op rfl rfl rfl (by first | exact opv_load rfl (by exact rfl) rfl (by exact rfl) | exact opv_fieldAddr rfl rfl | exact opv_loadA rfl (by exact rfl) rfl (by exact rfl) (by exact rfl) | exact opv_indexAddrI rfl rfl rfl (by omega) (by omega) (by first | omega | (simp only [List.length_map]; omega) | (simp only [List.length_cons, List.length_nil]; omega)) | exact opv_index rfl rfl rfl (by omega) (by omega) (by first | assumption | exact rfl) | exact opv_indexA rfl rfl rfl (by omega) (by omega) (by first | assumption | exact rfl) | exact opv_indexAddrR rfl rfl rfl (by omega) (by omega) | exact opv_fieldAddrE rfl rfl (by first | assumption | omega) | exact opv_loadELx rfl (by exact rfl) (by infer_instance) rfl rfl rfl | exact opv_loadEx rfl (by exact rfl) (by infer_instance) (by first | assumption | exact rfl) | exact opv_load2 rfl (by exact rfl) (by infer_instance) (by assumption) (by assumption)) ?_ | refine sl_pass rfl rfl rfl rfl ?_)
        | (refine gk 4 rfl ?_; first | refine sl_pass rfl rfl rfl rfl ?_ | refine sl_op rfl rfl rfl (by first | exact opv_len rfl rfl rfl rfl rfl | exact opv_min rfl rfl rfl rfl rfl) ?_ | refine sl_op rfl rfl rfl (opv_call rfl rfl rfl rfl rfl (d1)) ?_ | refine sl_op rfl rfl rfl (opv_call rfl rfl rfl rfl rfl (d2)) ?_)
        | (refine gk 5 rfl ?_; first | refine sl_op rfl rfl rfl (by first | exact opv_build rfl rfl (by exact rfl) | exact opv_convert rfl rfl | exact opv_sliceHi rfl rfl rfl (by omega) (by omega) | exact opv_arrayAt rfl rfl rfl rfl) ?_ | refine sl_pass rfl rfl rfl rfl ?_ | refine sl_buildSlice rfl rfl rfl rfl rfl (by exact rfl) (by exact rfl) (by exact rfl) (by exact rfl) rfl (fun b => ?_) | refine sl_box rfl rfl rfl rfl rfl rfl (fun β => ?_) | refine sl_alloc rfl rfl rfl rfl (by exact rfl) (fun β => ?_) | refine sl_store rfl rfl rfl rfl rfl rfl (by exact rfl) rfl (by exact rfl) ?_)
        | refine sl_region rfl ?_
        | refine sl_draw (by kernel_rfl) (by kernel_rfl) rfl ?_
        | refine chu_nil ?_
        | refine chu_q rfl ?_
        | refine chu_f rfl ?_
        | refine chu_r rfl ?_
        | refine chu_new rfl rfl (by first | exact new_alloc rfl (by exact rfl) | exact new_box rfl rfl rfl | exact new_buildSlice rfl rfl (by exact rfl) rfl (by exact rfl) (by exact rfl) rfl) ?_
        | refine chu_rv rfl rfl rfl (fun β => ?_)
        | refine chu_pass rfl rfl rfl rfl ?_
        | refine chu_store rfl rfl rfl rfl rfl rfl (by exact rfl) rfl (by exact rfl) (by exact rfl) ?_
        | refine chu_P rfl rfl rfl rfl rfl rfl rfl rfl (d1) rfl ?_
        | refine chu_P rfl rfl rfl rfl rfl rfl rfl rfl (d2) rfl ?_
        | refine sl_nil ?_
        | refine thn_k ?_
        | refine swp_true rfl ?_
        | refine swp_false rfl ?_
        | refine swp_block ?_
        | refine swp_ret ?_
        | refine swp_exit ?_
        | refine swp_skip ?_
        | refine thn_ret ?_
        | refine inb_ret ?_
        | refine inb_k ?_
        | refine thn_exit ?_
        | refine inb_exit ?_
        | refine inb_out rfl ?_)
      refine ⟨rfl, ⟨j + 1⟩, next_ok (by repeat first | exact Sub.nil _ | refine Sub.cons rfl ?_), ?_, ?_⟩
      all_goals dsimp only
      · exact ⟨by omega, by omega⟩
      · omega
    · repeat' (first
        | refine swp_seq ?_
        | (refine gk 0 rfl ?_; first | refine sl_op rfl rfl rfl (by first | exact opv_move rfl rfl | exact opv_assign rfl rfl | exact opv_pick_t rfl rfl rfl | exact opv_pick_f rfl rfl rfl | exact opv_not_t rfl rfl | exact opv_not_f rfl rfl | exact opv_not rfl rfl | exact opv_extract rfl rfl rfl | exact opv_makeFunc rfl rfl rfl) ?_ | refine sl_bool rfl rfl rfl (by first | exact opv_move rfl rfl | exact opv_assign rfl rfl | exact opv_pick_t rfl rfl rfl | exact opv_pick_f rfl rfl rfl | exact opv_not_t rfl rfl | exact opv_not_f rfl rfl | exact opv_not rfl rfl | exact opv_extract rfl rfl rfl | exact opv_makeFunc rfl rfl rfl) (fun h => ?_) (fun h => ?_) | refine sl_pass rfl rfl rfl rfl ?_)
        | (refine gk 1 rfl ?_; first | refine sl_op rfl rfl rfl (by first | exact opv_add64 rfl rfl rfl (by omega) (by omega) | exact opv_sub64 rfl rfl rfl (by omega) (by omega) | exact opv_add rfl rfl rfl | exact opv_sub rfl rfl rfl | exact opv_mul rfl rfl rfl | exact opv_rem rfl rfl rfl (by omega) | exact opv_quo rfl rfl rfl (by omega) | exact opv_shl rfl rfl rfl (by omega) | exact opv_shr rfl rfl rfl (by omega) | exact opv_bits rfl rfl rfl (by decide)) ?_ | refine sl_pass rfl rfl rfl rfl ?_)
        | (refine gk 2 rfl ?_; first | refine sl_pass rfl rfl rfl rfl ?_ | refine sl_yes rfl rfl rfl (by first | exact opv_lss rfl rfl rfl | exact opv_leq rfl rfl rfl | exact opv_gtr rfl rfl rfl | exact opv_geq rfl rfl rfl | exact opv_eql rfl rfl rfl | exact opv_neq rfl rfl rfl) (by first | omega | decide +kernel) ?_ | refine sl_no rfl rfl rfl (by first | exact opv_lss rfl rfl rfl | exact opv_leq rfl rfl rfl | exact opv_gtr rfl rfl rfl | exact opv_geq rfl rfl rfl | exact opv_eql rfl rfl rfl | exact opv_neq rfl rfl rfl) (by first | omega | decide +kernel) ?_ | refine sl_if rfl rfl rfl (by first | exact opv_lss rfl rfl rfl | exact opv_leq rfl rfl rfl | exact opv_gtr rfl rfl rfl | exact opv_geq rfl rfl rfl | exact opv_eql rfl rfl rfl | exact opv_neq rfl rfl rfl) (fun h => ?_) (fun h => ?_) | refine sl_tt rfl rfl rfl (by first | exact opv_eqlB Try.underlying4 rfl rfl rfl | exact opv_neqB Try.underlying4 rfl rfl rfl | exact opv_eqlS rfl rfl rfl rfl | exact opv_neqS rfl rfl rfl rfl) (by first | rfl | assumption) ?_ | refine sl_ff rfl rfl rfl (by first | exact opv_eqlB Try.underlying4 rfl rfl rfl | exact opv_neqB Try.underlying4 rfl rfl rfl | exact opv_eqlS rfl rfl rfl rfl | exact opv_neqS rfl rfl rfl rfl) (by first | rfl | assumption) ?_ | refine sl_bool rfl rfl rfl (by first | exact opv_eqlB Try.underlying4 rfl rfl rfl | exact opv_neqB Try.underlying4 rfl rfl rfl | exact opv_eqlS rfl rfl rfl rfl | exact opv_neqS rfl rfl rfl rfl) (fun h => ?_) (fun h => ?_))
        | (refine gk 3 rfl ?_; first | refine sl_op rfl rfl rfl (by first | exact opv_load rfl (by exact rfl) rfl (by exact rfl) | exact opv_fieldAddr rfl rfl | exact opv_loadA rfl (by exact rfl) rfl (by exact rfl) (by exact rfl) | exact opv_indexAddrI rfl rfl rfl (by omega) (by omega) (by first | omega | (simp only [List.length_map]; omega) | (simp only [List.length_cons, List.length_nil]; omega)) | exact opv_index rfl rfl rfl (by omega) (by omega) (by first | assumption | exact rfl) | exact opv_indexA rfl rfl rfl (by omega) (by omega) (by first | assumption | exact rfl) | exact opv_indexAddrR rfl rfl rfl (by omega) (by omega) | exact opv_fieldAddrE rfl rfl (by first | assumption | omega) | exact opv_loadELx rfl (by exact rfl) (by infer_instance) rfl rfl rfl | exact opv_loadEx rfl (by exact rfl) (by infer_instance) (by first | assumption | exact rfl) | exact opv_load2 rfl (by exact rfl) (by infer_instance) (by assumption) (by assumption)) ?_ | refine sl_pass rfl rfl rfl rfl ?_)
        | (refine gk 4 rfl ?_; first | refine sl_pass rfl rfl rfl rfl ?_ | refine sl_op rfl rfl rfl (by first | exact opv_len rfl rfl rfl rfl rfl | exact opv_min rfl rfl rfl rfl rfl) ?_ | refine sl_op rfl rfl rfl (opv_call rfl rfl rfl rfl rfl (d1)) ?_ | refine sl_op rfl rfl rfl (opv_call rfl rfl rfl rfl rfl (d2)) ?_)
        | (refine gk 5 rfl ?_; first | refine sl_op rfl rfl rfl (by first | exact opv_build rfl rfl (by exact rfl) | exact opv_convert rfl rfl | exact opv_sliceHi rfl rfl rfl (by omega) (by omega) | exact opv_arrayAt rfl rfl rfl rfl) ?_ | refine sl_pass rfl rfl rfl rfl ?_ | refine sl_buildSlice rfl rfl rfl rfl rfl (by exact rfl) (by exact rfl) (by exact rfl) (by exact rfl) rfl (fun b => ?_) | refine sl_box rfl rfl rfl rfl rfl rfl (fun β => ?_) | refine sl_alloc rfl rfl rfl rfl (by exact rfl) (fun β => ?_) | refine sl_store rfl rfl rfl rfl rfl rfl (by exact rfl) rfl (by exact rfl) ?_)
        | refine sl_region rfl ?_
        | refine sl_draw (by kernel_rfl) (by kernel_rfl) rfl ?_
        | refine chu_nil ?_
        | refine chu_q rfl ?_
        | refine chu_f rfl ?_
        | refine chu_r rfl ?_
        | refine chu_new rfl rfl (by first | exact new_alloc rfl (by exact rfl) | exact new_box rfl rfl rfl | exact new_buildSlice rfl rfl (by exact rfl) rfl (by exact rfl) (by exact rfl) rfl) ?_
        | refine chu_rv rfl rfl rfl (fun β => ?_)
        | refine chu_pass rfl rfl rfl rfl ?_
        | refine chu_store rfl rfl rfl rfl rfl rfl (by exact rfl) rfl (by exact rfl) (by exact rfl) ?_
        | refine chu_P rfl rfl rfl rfl rfl rfl rfl rfl (d1) rfl ?_
        | refine chu_P rfl rfl rfl rfl rfl rfl rfl rfl (d2) rfl ?_
        | refine sl_nil ?_
        | refine thn_k ?_
        | refine swp_true rfl ?_
        | refine swp_false rfl ?_
        | refine swp_block ?_
        | refine swp_ret ?_
        | refine swp_exit ?_
        | refine swp_skip ?_
        | refine thn_ret ?_
        | refine inb_ret ?_
        | refine inb_k ?_
        | refine thn_exit ?_
        | refine inb_exit ?_
        | refine inb_out rfl ?_)
      refine ⟨rfl, ⟨j + 1⟩, next_ok (by repeat first | exact Sub.nil _ | refine Sub.cons rfl ?_), ?_, ?_⟩
      all_goals dsimp only
      · exact ⟨by omega, by omega⟩
      · omega
  · repeat' (first
      | refine swp_seq ?_
      | (refine gk 0 rfl ?_; first | refine sl_op rfl rfl rfl (by first | exact opv_move rfl rfl | exact opv_assign rfl rfl | exact opv_pick_t rfl rfl rfl | exact opv_pick_f rfl rfl rfl | exact opv_not_t rfl rfl | exact opv_not_f rfl rfl | exact opv_not rfl rfl | exact opv_extract rfl rfl rfl | exact opv_makeFunc rfl rfl rfl) ?_ | refine sl_bool rfl rfl rfl (by first | exact opv_move rfl rfl | exact opv_assign rfl rfl | exact opv_pick_t rfl rfl rfl | exact opv_pick_f rfl rfl rfl | exact opv_not_t rfl rfl | exact opv_not_f rfl rfl | exact opv_not rfl rfl | exact opv_extract rfl rfl rfl | exact opv_makeFunc rfl rfl rfl) (fun h => ?_) (fun h => ?_) | refine sl_pass rfl rfl rfl rfl ?_)
      | (refine gk 1 rfl ?_; first | refine sl_op rfl rfl rfl (by first | exact opv_add64 rfl rfl rfl (by omega) (by omega) | exact opv_sub64 rfl rfl rfl (by omega) (by omega) | exact opv_add rfl rfl rfl | exact opv_sub rfl rfl rfl | exact opv_mul rfl rfl rfl | exact opv_rem rfl rfl rfl (by omega) | exact opv_quo rfl rfl rfl (by omega) | exact opv_shl rfl rfl rfl (by omega) | exact opv_shr rfl rfl rfl (by omega) | exact opv_bits rfl rfl rfl (by decide)) ?_ | refine sl_pass rfl rfl rfl rfl ?_)
      | (refine gk 2 rfl ?_; first | refine sl_pass rfl rfl rfl rfl ?_ | refine sl_yes rfl rfl rfl (by first | exact opv_lss rfl rfl rfl | exact opv_leq rfl rfl rfl | exact opv_gtr rfl rfl rfl | exact opv_geq rfl rfl rfl | exact opv_eql rfl rfl rfl | exact opv_neq rfl rfl rfl) (by first | omega | decide +kernel) ?_ | refine sl_no rfl rfl rfl (by first | exact opv_lss rfl rfl rfl | exact opv_leq rfl rfl rfl | exact opv_gtr rfl rfl rfl | exact opv_geq rfl rfl rfl | exact opv_eql rfl rfl rfl | exact opv_neq rfl rfl rfl) (by first | omega | decide +kernel) ?_ | refine sl_if rfl rfl rfl (by first | exact opv_lss rfl rfl rfl | exact opv_leq rfl rfl rfl | exact opv_gtr rfl rfl rfl | exact opv_geq rfl rfl rfl | exact opv_eql rfl rfl rfl | exact opv_neq rfl rfl rfl) (fun h => ?_) (fun h => ?_) | refine sl_tt rfl rfl rfl (by first | exact opv_eqlB Try.underlying4 rfl rfl rfl | exact opv_neqB Try.underlying4 rfl rfl rfl | exact opv_eqlS rfl rfl rfl rfl | exact opv_neqS rfl rfl rfl rfl) (by first | rfl | assumption) ?_ | refine sl_ff rfl rfl rfl (by first | exact opv_eqlB Try.underlying4 rfl rfl rfl | exact opv_neqB Try.underlying4 rfl rfl rfl | exact opv_eqlS rfl rfl rfl rfl | exact opv_neqS rfl rfl rfl rfl) (by first | rfl | assumption) ?_ | refine sl_bool rfl rfl rfl (by first | exact opv_eqlB Try.underlying4 rfl rfl rfl | exact opv_neqB Try.underlying4 rfl rfl rfl | exact opv_eqlS rfl rfl rfl rfl | exact opv_neqS rfl rfl rfl rfl) (fun h => ?_) (fun h => ?_))
      | (refine gk 3 rfl ?_; first | refine sl_op rfl rfl rfl (by first | exact opv_load rfl (by exact rfl) rfl (by exact rfl) | exact opv_fieldAddr rfl rfl | exact opv_loadA rfl (by exact rfl) rfl (by exact rfl) (by exact rfl) | exact opv_indexAddrI rfl rfl rfl (by omega) (by omega) (by first | omega | (simp only [List.length_map]; omega) | (simp only [List.length_cons, List.length_nil]; omega)) | exact opv_index rfl rfl rfl (by omega) (by omega) (by first | assumption | exact rfl) | exact opv_indexA rfl rfl rfl (by omega) (by omega) (by first | assumption | exact rfl) | exact opv_indexAddrR rfl rfl rfl (by omega) (by omega) | exact opv_fieldAddrE rfl rfl (by first | assumption | omega) | exact opv_loadELx rfl (by exact rfl) (by infer_instance) rfl rfl rfl | exact opv_loadEx rfl (by exact rfl) (by infer_instance) (by first | assumption | exact rfl) | exact opv_load2 rfl (by exact rfl) (by infer_instance) (by assumption) (by assumption)) ?_ | refine sl_pass rfl rfl rfl rfl ?_)
      | (refine gk 4 rfl ?_; first | refine sl_pass rfl rfl rfl rfl ?_ | refine sl_op rfl rfl rfl (by first | exact opv_len rfl rfl rfl rfl rfl | exact opv_min rfl rfl rfl rfl rfl) ?_)
      | (refine gk 5 rfl ?_; first | refine sl_op rfl rfl rfl (by first | exact opv_build rfl rfl (by exact rfl) | exact opv_convert rfl rfl | exact opv_sliceHi rfl rfl rfl (by omega) (by omega) | exact opv_arrayAt rfl rfl rfl rfl) ?_ | refine sl_pass rfl rfl rfl rfl ?_ | refine sl_buildSlice rfl rfl rfl rfl rfl (by exact rfl) (by exact rfl) (by exact rfl) (by exact rfl) rfl (fun b => ?_) | refine sl_box rfl rfl rfl rfl rfl rfl (fun β => ?_) | refine sl_alloc rfl rfl rfl rfl (by exact rfl) (fun β => ?_) | refine sl_store rfl rfl rfl rfl rfl rfl (by exact rfl) rfl (by exact rfl) ?_)
      | refine sl_region rfl ?_
      | refine sl_draw (by kernel_rfl) (by kernel_rfl) rfl ?_
      | refine chu_nil ?_
      | refine chu_q rfl ?_
      | refine chu_f rfl ?_
      | refine chu_r rfl ?_
      | refine chu_new rfl rfl (by first | exact new_alloc rfl (by exact rfl) | exact new_box rfl rfl rfl | exact new_buildSlice rfl rfl (by exact rfl) rfl (by exact rfl) (by exact rfl) rfl) ?_
      | refine chu_rv rfl rfl rfl (fun β => ?_)
      | refine chu_pass rfl rfl rfl rfl ?_
      | refine chu_store rfl rfl rfl rfl rfl rfl (by exact rfl) rfl (by exact rfl) (by exact rfl) ?_
      | refine sl_nil ?_
      | refine thn_k ?_
      | refine swp_true rfl ?_
      | refine swp_false rfl ?_
      | refine swp_block ?_
      | refine swp_ret ?_
      | refine swp_exit ?_
      | refine swp_skip ?_
      | refine thn_ret ?_
      | refine inb_ret ?_
      | refine inb_k ?_
      | refine thn_exit ?_
      | refine inb_exit ?_
      | refine inb_out rfl ?_)
    have hv : ∀ j : Int, 0 ≤ j → j < 3 → ∃ v : Nat, v < 2 ^ 64 ∧ ([u64 w, Value.int IntKind.u64 (bitsOp BinOp.and IntKind.u64 ↑w 1125899906842623), Value.int IntKind.u64 (bitsOp BinOp.and IntKind.u64 ↑w 134217727)] : List Value)[j.toNat * 1]? = some (u64 v) := fun j j0 j1 => by
      rcases (by omega : j = 0 ∨ j = 1 ∨ j = 2) with rfl | rfl | rfl
      · exact ⟨w, hw, rfl⟩
      · exact ⟨w &&& 1125899906842623, Nat.lt_of_le_of_lt Nat.and_le_left hw, congrArg (fun x => some (Value.int IntKind.u64 x)) (and_nat (b := 1125899906842623) hw (by decide))⟩
      · exact ⟨w &&& 134217727, Nat.lt_of_le_of_lt Nat.and_le_left hw, congrArg (fun x => some (Value.int IntKind.u64 x)) (and_nat (b := 134217727) hw (by decide))⟩
    refine swp_loopS (fun s : S5 => [(61, .agg ⟨[u64 w, Value.int IntKind.u64 (bitsOp BinOp.and IntKind.u64 ↑w 1125899906842623), Value.int IntKind.u64 (bitsOp BinOp.and IntKind.u64 ↑w 134217727)]⟩), (62, i64 s.k)])
      (fun _ => []) (fun s => 0 ≤ s.k ∧ s.k ≤ 3) (fun s => (3 - s.k).toNat) ⟨0⟩ (by repeat first | exact Sub.nil _ | refine Sub.cons rfl ?_) ⟨by decide, by decide⟩ ?_
    rintro ⟨i⟩ ⟨hi0, hi1⟩
    dsimp only at hi0 hi1 ⊢
    by_cases hi : i < 3
    · obtain ⟨v, hv64, hcell⟩ := hv i hi0 hi
      clear hv
      rcases word_back v hv64 with ⟨x1, x2, x3, x4, x5, x6, d1, d2⟩ | ⟨d1, u, b, d2⟩
      · repeat' (first
          | refine swp_seq ?_
          | (refine gk 0 rfl ?_; first | refine sl_op rfl rfl rfl (by first | exact opv_move rfl rfl | exact opv_assign rfl rfl | exact opv_pick_t rfl rfl rfl | exact opv_pick_f rfl rfl rfl | exact opv_not_t rfl rfl | exact opv_not_f rfl rfl | exact opv_not rfl rfl | exact opv_extract rfl rfl rfl | exact opv_makeFunc rfl rfl rfl) ?_ | refine sl_bool rfl rfl rfl (by first | exact opv_move rfl rfl | exact opv_assign rfl rfl | exact opv_pick_t rfl rfl rfl | exact opv_pick_f rfl rfl rfl | exact opv_not_t rfl rfl | exact opv_not_f rfl rfl | exact opv_not rfl rfl | exact opv_extract rfl rfl rfl | exact opv_makeFunc rfl rfl rfl) (fun h => ?_) (fun h => ?_) | refine sl_pass rfl rfl rfl rfl ?_)
          | (refine gk 1 rfl ?_; first | refine sl_op rfl rfl rfl (by first | exact opv_add64 rfl rfl rfl (by omega) (by omega) | exact opv_sub64 rfl rfl rfl (by omega) (by omega) | exact opv_add rfl rfl rfl | exact opv_sub rfl rfl rfl | exact opv_mul rfl rfl rfl | exact opv_rem rfl rfl rfl (by omega) | exact opv_quo rfl rfl rfl (by omega) | exact opv_shl rfl rfl rfl (by omega) | exact opv_shr rfl rfl rfl (by omega) | exact opv_bits rfl rfl rfl (by decide)) ?_ | refine sl_pass rfl rfl rfl rfl ?_)
          | (refine gk 2 rfl ?_; first | refine sl_pass rfl rfl rfl rfl ?_ | refine sl_yes rfl rfl rfl (by first | exact opv_lss rfl rfl rfl | exact opv_leq rfl rfl rfl | exact opv_gtr rfl rfl rfl | exact opv_geq rfl rfl rfl | exact opv_eql rfl rfl rfl | exact opv_neq rfl rfl rfl) (by first | omega | decide +kernel) ?_ | refine sl_no rfl rfl rfl (by first | exact opv_lss rfl rfl rfl | exact opv_leq rfl rfl rfl | exact opv_gtr rfl rfl rfl | exact opv_geq rfl rfl rfl | exact opv_eql rfl rfl rfl | exact opv_neq rfl rfl rfl) (by first | omega | decide +kernel) ?_ | refine sl_if rfl rfl rfl (by first | exact opv_lss rfl rfl rfl | exact opv_leq rfl rfl rfl | exact opv_gtr rfl rfl rfl | exact opv_geq rfl rfl rfl | exact opv_eql rfl rfl rfl | exact opv_neq rfl rfl rfl) (fun h => ?_) (fun h => ?_) | refine sl_tt rfl rfl rfl (by first | exact opv_eqlB Try.underlying4 rfl rfl rfl | exact opv_neqB Try.underlying4 rfl rfl rfl | exact opv_eqlS rfl rfl rfl rfl | exact opv_neqS rfl rfl rfl rfl) (by first | rfl | assumption) ?_ | refine sl_ff rfl rfl rfl (by first | exact opv_eqlB Try.underlying4 rfl rfl rfl | exact opv_neqB Try.underlying4 rfl rfl rfl | exact opv_eqlS rfl rfl rfl rfl | exact opv_neqS rfl rfl rfl rfl) (by first | rfl | assumption) ?_ | refine sl_bool rfl rfl rfl (by first | exact opv_eqlB Try.underlying4 rfl rfl rfl | exact opv_neqB Try.underlying4 rfl rfl rfl | exact opv_eqlS rfl rfl rfl rfl | exact opv_neqS rfl rfl rfl rfl) (fun h => ?_) (fun h => ?_))
          | (refine gk 3 rfl ?_; first | refine sl_op rfl rfl rfl (by first | exact opv_load rfl (by exact rfl) rfl (by exact rfl) | exact opv_fieldAddr rfl rfl | exact opv_loadA rfl (by exact rfl) rfl (by exact rfl) (by exact rfl) | exact opv_indexAddrI rfl rfl rfl (by omega) (by omega) (by first | omega | (simp only [List.length_map]; omega) | (simp only [List.length_cons, List.length_nil]; omega)) | exact opv_index rfl rfl rfl (by omega) (by omega) (by first | assumption | exact rfl) | exact opv_indexA rfl rfl rfl (by omega) (by omega) (by first | assumption | exact rfl) | exact opv_indexAddrR rfl rfl rfl (by omega) (by omega) | exact opv_fieldAddrE rfl rfl (by first | assumption | omega) | exact opv_loadELx rfl (by exact rfl) (by infer_instance) rfl rfl rfl | exact opv_loadEx rfl (by exact rfl) (by infer_instance) (by first | assumption | exact rfl) | exact opv_load2 rfl (by exact rfl) (by infer_instance) (by assumption) (by assumption)) ?_ | refine sl_pass rfl rfl rfl rfl ?_)
          | (refine gk 4 rfl ?_; first | refine sl_pass rfl rfl rfl rfl ?_ | refine sl_op rfl rfl rfl (by first | exact opv_len rfl rfl rfl rfl rfl | exact opv_min rfl rfl rfl rfl rfl) ?_ | refine sl_op rfl rfl rfl (opv_call rfl rfl rfl rfl rfl (d1)) ?_ | refine sl_op rfl rfl rfl (opv_call rfl rfl rfl rfl rfl (d2)) ?_)
          | (refine gk 5 rfl ?_; first | refine sl_op rfl rfl rfl (by first | exact opv_build rfl rfl (by exact rfl) | exact opv_convert rfl rfl | exact opv_sliceHi rfl rfl rfl (by omega) (by omega) | exact opv_arrayAt rfl rfl rfl rfl) ?_ | refine sl_pass rfl rfl rfl rfl ?_ | refine sl_buildSlice rfl rfl rfl rfl rfl (by exact rfl) (by exact rfl) (by exact rfl) (by exact rfl) rfl (fun b => ?_) | refine sl_box rfl rfl rfl rfl rfl rfl (fun β => ?_) | refine sl_alloc rfl rfl rfl rfl (by exact rfl) (fun β => ?_) | refine sl_store rfl rfl rfl rfl rfl rfl (by exact rfl) rfl (by exact rfl) ?_)
          | refine sl_region rfl ?_
          | refine sl_draw (by kernel_rfl) (by kernel_rfl) rfl ?_
          | refine chu_nil ?_
          | refine chu_q rfl ?_
          | refine chu_f rfl ?_
          | refine chu_r rfl ?_
          | refine chu_new rfl rfl (by first | exact new_alloc rfl (by exact rfl) | exact new_box rfl rfl rfl | exact new_buildSlice rfl rfl (by exact rfl) rfl (by exact rfl) (by exact rfl) rfl) ?_
          | refine chu_rv rfl rfl rfl (fun β => ?_)
          | refine chu_pass rfl rfl rfl rfl ?_
          | refine chu_store rfl rfl rfl rfl rfl rfl (by exact rfl) rfl (by exact rfl) (by exact rfl) ?_
          | refine chu_P rfl rfl rfl rfl rfl rfl rfl rfl (d1) rfl ?_
          | refine chu_P rfl rfl rfl rfl rfl rfl rfl rfl (d2) rfl ?_
          | refine sl_nil ?_
          | refine thn_k ?_
          | refine swp_true rfl ?_
          | refine swp_false rfl ?_
          | refine swp_block ?_
          | refine swp_ret ?_
          | refine swp_exit ?_
          | refine swp_skip ?_
          | refine thn_ret ?_
          | refine inb_ret ?_
          | refine inb_k ?_
          | refine thn_exit ?_
          | refine inb_exit ?_
          | refine inb_out rfl ?_)
        refine ⟨rfl, ⟨i + 1⟩, next_ok (by repeat first | exact Sub.nil _ | refine Sub.cons rfl ?_), ?_, ?_⟩
        all_goals dsimp only
        · exact ⟨by omega, by omega⟩
        · omega
      · repeat' (first
          | refine swp_seq ?_
          | (refine gk 0 rfl ?_; first | refine sl_op rfl rfl rfl (by first | exact opv_move rfl rfl | exact opv_assign rfl rfl | exact opv_pick_t rfl rfl rfl | exact opv_pick_f rfl rfl rfl | exact opv_not_t rfl rfl | exact opv_not_f rfl rfl | exact opv_not rfl rfl | exact opv_extract rfl rfl rfl | exact opv_makeFunc rfl rfl rfl) ?_ | refine sl_bool rfl rfl rfl (by first | exact opv_move rfl rfl | exact opv_assign rfl rfl | exact opv_pick_t rfl rfl rfl | exact opv_pick_f rfl rfl rfl | exact opv_not_t rfl rfl | exact opv_not_f rfl rfl | exact opv_not rfl rfl | exact opv_extract rfl rfl rfl | exact opv_makeFunc rfl rfl rfl) (fun h => ?_) (fun h => ?_) | refine sl_pass rfl rfl rfl rfl ?_)
          | (refine gk 1 rfl ?_; first | refine sl_op rfl rfl rfl (by first | exact opv_add64 rfl rfl rfl (by omega) (by omega) | exact opv_sub64 rfl rfl rfl (by omega) (by omega) | exact opv_add rfl rfl rfl | exact opv_sub rfl rfl rfl | exact opv_mul rfl rfl rfl | exact opv_rem rfl rfl rfl (by omega) | exact opv_quo rfl rfl rfl (by omega) | exact opv_shl rfl rfl rfl (by omega) | exact opv_shr rfl rfl rfl (by omega) | exact opv_bits rfl rfl rfl (by decide)) ?_ | refine sl_pass rfl rfl rfl rfl ?_)
          | (refine gk 2 rfl ?_; first | refine sl_pass rfl rfl rfl rfl ?_ | refine sl_yes rfl rfl rfl (by first | exact opv_lss rfl rfl rfl | exact opv_leq rfl rfl rfl | exact opv_gtr rfl rfl rfl | exact opv_geq rfl rfl rfl | exact opv_eql rfl rfl rfl | exact opv_neq rfl rfl rfl) (by first | omega | decide +kernel) ?_ | refine sl_no rfl rfl rfl (by first | exact opv_lss rfl rfl rfl | exact opv_leq rfl rfl rfl | exact opv_gtr rfl rfl rfl | exact opv_geq rfl rfl rfl | exact opv_eql rfl rfl rfl | exact opv_neq rfl rfl rfl) (by first | omega | decide +kernel) ?_ | refine sl_if rfl rfl rfl (by first | exact opv_lss rfl rfl rfl | exact opv_leq rfl rfl rfl | exact opv_gtr rfl rfl rfl | exact opv_geq rfl rfl rfl | exact opv_eql rfl rfl rfl | exact opv_neq rfl rfl rfl) (fun h => ?_) (fun h => ?_) | refine sl_tt rfl rfl rfl (by first | exact opv_eqlB Try.underlying4 rfl rfl rfl | exact opv_neqB Try.underlying4 rfl rfl rfl | exact opv_eqlS rfl rfl rfl rfl | exact opv_neqS rfl rfl rfl rfl) (by first | rfl | assumption) ?_ | refine sl_ff rfl rfl rfl (by first | exact opv_eqlB Try.underlying4 rfl rfl rfl | exact opv_neqB Try.underlying4 rfl rfl rfl | exact opv_eqlS rfl rfl rfl rfl | exact opv_neqS rfl rfl rfl rfl) (by first | rfl | assumption) ?_ | refine sl_bool rfl rfl rfl (by first | exact opv_eqlB Try.underlying4 rfl rfl rfl | exact opv_neqB Try.underlying4 rfl rfl rfl | exact opv_eqlS rfl rfl rfl rfl | exact opv_neqS rfl rfl rfl rfl) (fun h => ?_) (fun h => ?_))
          | (refine gk 3 rfl ?_; first | refine sl_op rfl rfl rfl (by first | exact opv_load rfl (by exact rfl) rfl (by exact rfl) | exact opv_fieldAddr rfl rfl | exact opv_loadA rfl (by exact rfl) rfl (by exact rfl) (by exact rfl) | exact opv_indexAddrI rfl rfl rfl (by omega) (by omega) (by first | omega | (simp only [List.length_map]; omega) | (simp only [List.length_cons, List.length_nil]; omega)) | exact opv_index rfl rfl rfl (by omega) (by omega) (by first | assumption | exact rfl) | exact opv_indexA rfl rfl rfl (by omega) (by omega) (by first | assumption | exact rfl) | exact opv_indexAddrR rfl rfl rfl (by omega) (by omega) | exact opv_fieldAddrE rfl rfl (by first | assumption | omega) | exact opv_loadELx rfl (by exact rfl) (by infer_instance) rfl rfl rfl | exact opv_loadEx rfl (by exact rfl) (by infer_instance) (by first | assumption | exact rfl) | exact opv_load2 rfl (by exact rfl) (by infer_instance) (by assumption) (by assumption)) ?_ | refine sl_pass rfl rfl rfl rfl ?_)
          | (refine gk 4 rfl ?_; first | refine sl_pass rfl rfl rfl rfl ?_ | refine sl_op rfl rfl rfl (by first | exact opv_len rfl rfl rfl rfl rfl | exact opv_min rfl rfl rfl rfl rfl) ?_ | refine sl_op rfl rfl rfl (opv_call rfl rfl rfl rfl rfl (d1)) ?_ | refine sl_op rfl rfl rfl (opv_call rfl rfl rfl rfl rfl (d2)) ?_)
          | (refine gk 5 rfl ?_; first | refine sl_op rfl rfl rfl (by first | exact opv_build rfl rfl (by exact rfl) | exact opv_convert rfl rfl | exact opv_sliceHi rfl rfl rfl (by omega) (by omega) | exact opv_arrayAt rfl rfl rfl rfl) ?_ | refine sl_pass rfl rfl rfl rfl ?_ | refine sl_buildSlice rfl rfl rfl rfl rfl (by exact rfl) (by exact rfl) (by exact rfl) (by exact rfl) rfl (fun b => ?_) | refine sl_box rfl rfl rfl rfl rfl rfl (fun β => ?_) | refine sl_alloc rfl rfl rfl rfl (by exact rfl) (fun β => ?_) | refine sl_store rfl rfl rfl rfl rfl rfl (by exact rfl) rfl (by exact rfl) ?_)
          | refine sl_region rfl ?_
          | refine sl_draw (by kernel_rfl) (by kernel_rfl) rfl ?_
          | refine chu_nil ?_
          | refine chu_q rfl ?_
          | refine chu_f rfl ?_
          | refine chu_r rfl ?_
          | refine chu_new rfl rfl (by first | exact new_alloc rfl (by exact rfl) | exact new_box rfl rfl rfl | exact new_buildSlice rfl rfl (by exact rfl) rfl (by exact rfl) (by exact rfl) rfl) ?_
          | refine chu_rv rfl rfl rfl (fun β => ?_)
          | refine chu_pass rfl rfl rfl rfl ?_
          | refine chu_store rfl rfl rfl rfl rfl rfl (by exact rfl) rfl (by exact rfl) (by exact rfl) ?_
          | refine chu_P rfl rfl rfl rfl rfl rfl rfl rfl (d1) rfl ?_
          | refine chu_P rfl rfl rfl rfl rfl rfl rfl rfl (d2) rfl ?_
          | refine sl_nil ?_
          | refine thn_k ?_
          | refine swp_true rfl ?_
          | refine swp_false rfl ?_
          | refine swp_block ?_
          | refine swp_ret ?_
          | refine swp_exit ?_
          | refine swp_skip ?_
          | refine thn_ret ?_
          | refine inb_ret ?_
          | refine inb_k ?_
          | refine thn_exit ?_
          | refine inb_exit ?_
          | refine inb_out rfl ?_)
        refine ⟨rfl, ⟨i + 1⟩, next_ok (by repeat first | exact Sub.nil _ | refine Sub.cons rfl ?_), ?_, ?_⟩
        all_goals dsimp only
        · exact ⟨by omega, by omega⟩
        · omega
    · repeat' (first
        | refine swp_seq ?_
        | (refine gk 0 rfl ?_; first | refine sl_op rfl rfl rfl (by first | exact opv_move rfl rfl | exact opv_assign rfl rfl | exact opv_pick_t rfl rfl rfl | exact opv_pick_f rfl rfl rfl | exact opv_not_t rfl rfl | exact opv_not_f rfl rfl | exact opv_not rfl rfl | exact opv_extract rfl rfl rfl | exact opv_makeFunc rfl rfl rfl) ?_ | refine sl_bool rfl rfl rfl (by first | exact opv_move rfl rfl | exact opv_assign rfl rfl | exact opv_pick_t rfl rfl rfl | exact opv_pick_f rfl rfl rfl | exact opv_not_t rfl rfl | exact opv_not_f rfl rfl | exact opv_not rfl rfl | exact opv_extract rfl rfl rfl | exact opv_makeFunc rfl rfl rfl) (fun h => ?_) (fun h => ?_) | refine sl_pass rfl rfl rfl rfl ?_)
        | (refine gk 1 rfl ?_; first | refine sl_op rfl rfl rfl (by first | exact opv_add64 rfl rfl rfl (by omega) (by omega) | exact opv_sub64 rfl rfl rfl (by omega) (by omega) | exact opv_add rfl rfl rfl | exact opv_sub rfl rfl rfl | exact opv_mul rfl rfl rfl | exact opv_rem rfl rfl rfl (by omega) | exact opv_quo rfl rfl rfl (by omega) | exact opv_shl rfl rfl rfl (by omega) | exact opv_shr rfl rfl rfl (by omega) | exact opv_bits rfl rfl rfl (by decide)) ?_ | refine sl_pass rfl rfl rfl rfl ?_)
        | (refine gk 2 rfl ?_; first | refine sl_pass rfl rfl rfl rfl ?_ | refine sl_yes rfl rfl rfl (by first | exact opv_lss rfl rfl rfl | exact opv_leq rfl rfl rfl | exact opv_gtr rfl rfl rfl | exact opv_geq rfl rfl rfl | exact opv_eql rfl rfl rfl | exact opv_neq rfl rfl rfl) (by first | omega | decide +kernel) ?_ | refine sl_no rfl rfl rfl (by first | exact opv_lss rfl rfl rfl | exact opv_leq rfl rfl rfl | exact opv_gtr rfl rfl rfl | exact opv_geq rfl rfl rfl | exact opv_eql rfl rfl rfl | exact opv_neq rfl rfl rfl) (by first | omega | decide +kernel) ?_ | refine sl_if rfl rfl rfl (by first | exact opv_lss rfl rfl rfl | exact opv_leq rfl rfl rfl | exact opv_gtr rfl rfl rfl | exact opv_geq rfl rfl rfl | exact opv_eql rfl rfl rfl | exact opv_neq rfl rfl rfl) (fun h => ?_) (fun h => ?_) | refine sl_tt rfl rfl rfl (by first | exact opv_eqlB Try.underlying4 rfl rfl rfl | exact opv_neqB Try.underlying4 rfl rfl rfl | exact opv_eqlS rfl rfl rfl rfl | exact opv_neqS rfl rfl rfl rfl) (by first | rfl | assumption) ?_ | refine sl_ff rfl rfl rfl (by first | exact opv_eqlB Try.underlying4 rfl rfl rfl | exact opv_neqB Try.underlying4 rfl rfl rfl | exact opv_eqlS rfl rfl rfl rfl | exact opv_neqS rfl rfl rfl rfl) (by first | rfl | assumption) ?_ | refine sl_bool rfl rfl rfl (by first | exact opv_eqlB Try.underlying4 rfl rfl rfl | exact opv_neqB Try.underlying4 rfl rfl rfl | exact opv_eqlS rfl rfl rfl rfl | exact opv_neqS rfl rfl rfl rfl) (fun h => ?_) (fun h => ?_))
        | (refine gk 3 rfl ?_; first | refine sl_op rfl rfl rfl (by first | exact opv_load rfl (by exact rfl) rfl (by exact rfl) | exact opv_fieldAddr rfl rfl | exact opv_loadA rfl (by exact rfl) rfl (by exact rfl) (by exact rfl) | exact opv_indexAddrI rfl rfl rfl (by omega) (by omega) (by first | omega | (simp only [List.length_map]; omega) | (simp only [List.length_cons, List.length_nil]; omega)) | exact opv_index rfl rfl rfl (by omega) (by omega) (by first | assumption | exact rfl) | exact opv_indexA rfl rfl rfl (by omega) (by omega) (by first | assumption | exact rfl) | exact opv_indexAddrR rfl rfl rfl (by omega) (by omega) | exact opv_fieldAddrE rfl rfl (by first | assumption | omega) | exact opv_loadELx rfl (by exact rfl) (by infer_instance) rfl rfl rfl | exact opv_loadEx rfl (by exact rfl) (by infer_instance) (by first | assumption | exact rfl) | exact opv_load2 rfl (by exact rfl) (by infer_instance) (by assumption) (by assumption)) ?_ | refine sl_pass rfl rfl rfl rfl ?_)
        | (refine gk 4 rfl ?_; first | refine sl_pass rfl rfl rfl rfl ?_ | refine sl_op rfl rfl rfl (by first | exact opv_len rfl rfl rfl rfl rfl | exact opv_min rfl rfl rfl rfl rfl) ?_)
        | (refine gk 5 rfl ?_; first | refine sl_op rfl rfl rfl (by first | exact opv_build rfl rfl (by exact rfl) | exact opv_convert rfl rfl | exact opv_sliceHi rfl rfl rfl (by omega) (by omega) | exact opv_arrayAt rfl rfl rfl rfl) ?_ | refine sl_pass rfl rfl rfl rfl ?_ | refine sl_buildSlice rfl rfl rfl rfl rfl (by exact rfl) (by exact rfl) (by exact rfl) (by exact rfl) rfl (fun b => ?_) | refine sl_box rfl rfl rfl rfl rfl rfl (fun β => ?_) | refine sl_alloc rfl rfl rfl rfl (by exact rfl) (fun β => ?_) | refine sl_store rfl rfl rfl rfl rfl rfl (by exact rfl) rfl (by exact rfl) ?_)
        | refine sl_region rfl ?_
        | refine sl_draw (by kernel_rfl) (by kernel_rfl) rfl ?_
        | refine chu_nil ?_
        | refine chu_q rfl ?_
        | refine chu_f rfl ?_
        | refine chu_r rfl ?_
        | refine chu_new rfl rfl (by first | exact new_alloc rfl (by exact rfl) | exact new_box rfl rfl rfl | exact new_buildSlice rfl rfl (by exact rfl) rfl (by exact rfl) (by exact rfl) rfl) ?_
        | refine chu_rv rfl rfl rfl (fun β => ?_)
        | refine chu_pass rfl rfl rfl rfl ?_
        | refine chu_store rfl rfl rfl rfl rfl rfl (by exact rfl) rfl (by exact rfl) (by exact rfl) ?_
        | refine sl_nil ?_
        | refine thn_k ?_
        | refine swp_true rfl ?_
        | refine swp_false rfl ?_
        | refine swp_block ?_
        | refine swp_ret ?_
        | refine swp_exit ?_
        | refine swp_skip ?_
        | refine thn_ret ?_
        | refine inb_ret ?_
        | refine inb_k ?_
        | refine thn_exit ?_
        | refine inb_exit ?_
        | refine inb_out rfl ?_)
      refine end_pure (resOk_one (resV_tmp rfl)) ?_
      rfl
end Go.Proofs.Ytblobkigbdcjeaa
