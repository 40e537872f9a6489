/- The law FieldTells, walked. -/
import Derived.Test.YthhlgaaamfeohaaWR4
namespace Go.Proofs.Ythhlgaaamfeohaa
open Go.SL
set_option maxRecDepth 100000
set_option maxHeartbeats 16000000
attribute [local irreducible] T PFn OpV SOL SWP HOp
theorem Most_no (a b : Int) (h : ¬ May a b) : PFn Try.prog 10 [fld a b] [] (.int .u64 0) := (Most_calls a b).to (by rw [most, if_neg h])
theorem Of_no (a b w : Int) (h : ¬ May a b) : PFn Try.prog 12 [fld a b, .int .u64 w] [] (.int .u64 0) := (Of_calls a b w).to (by rw [ofF, if_neg h])
theorem Put_not (a b w v : Int) (h : ¬ May a b) : PFn Try.prog 11 [fld a b, .int .u64 w, .int .u64 v] [] (.tuple #[.int .u64 0, .bool false]) := Put_no a b w v (fun x => h x.1)
theorem refMay_yes (a b : Int) (h : May a b) : PFn Try.prog 13 [i64 a, i64 b] [] (.bool true) := (refMay_calls a b).to (by rw [decide_eq_true h])
theorem refMay_no (a b : Int) (h : ¬ May a b) : PFn Try.prog 13 [i64 a, i64 b] [] (.bool false) := (refMay_calls a b).to (by rw [decide_eq_false h])
theorem May_yes (a b : Int) (h : May a b) : PFn Try.prog 14 [fld a b] [] (.bool true) := (May_calls a b).to (by rw [decide_eq_true h])
theorem May_no (a b : Int) (h : ¬ May a b) : PFn Try.prog 14 [fld a b] [] (.bool false) := (May_calls a b).to (by rw [decide_eq_false h])
theorem Apart_no (a b c d : Int) (h : ¬ May a b) : PFn Try.prog 15 [fld a b, fld c d] [] (.bool false) := (Apart_is a b c d).to (by rw [decide_eq_false (fun x => h x.1)])

structure S5 where
  k : Int
/-- The field that stands at a place. -/
def two (at_ wide : Int) (k : Int) : Int × Int := if k = 0 then (at_, wide) else ((IntKind.u64.wrap at_).tmod 66, (IntKind.u64.wrap wide).tmod 66)
theorem FieldTells_calls (at_ wide : Int) (w0 w1 : Nat) (h0 : w0 < 2 ^ 64) (h1 : w1 < 2 ^ 64) : PFn Try.prog 5 [i64 at_, i64 wide, .agg ⟨[u64 w0, u64 w1]⟩] [] (.bool true) := by
  refine pure_of_body Try.func5 rfl (Nat.le_of_ble_eq_true rfl) fun F => ?_
  repeat' (first
    | refine sl_box rfl rfl rfl rfl rfl rfl (fun β5 => ?_)
    | refine swp_seq ?_
    | refine sl_region rfl ?_
    | refine sl_draw (by kernel_rfl) (by kernel_rfl) rfl ?_
    | refine sl_nil ?_
    | refine thn_k ?_
    | refine sl_pass rfl rfl rfl rfl ?_
    | refine sl_op rfl rfl rfl (by first | exact opv_move rfl rfl | exact opv_assign rfl rfl | exact opv_load rfl (by exact rfl) rfl (by exact rfl) | exact opv_fieldAddr rfl rfl | exact opv_pick_t rfl rfl rfl | exact opv_pick_f rfl rfl rfl | exact opv_not_t rfl rfl | exact opv_not_f rfl rfl | exact opv_not rfl rfl | exact opv_extract rfl rfl rfl | exact opv_loadA rfl (by exact rfl) rfl (by exact rfl) (by exact rfl) | exact opv_build rfl rfl (by exact rfl) | exact opv_add64 rfl rfl rfl (by omega) (by omega) | exact opv_sub64 rfl rfl rfl (by omega) (by omega) | exact opv_add rfl rfl rfl | exact opv_sub rfl rfl rfl | exact opv_mul rfl rfl rfl | exact opv_rem rfl rfl rfl (by omega) | exact opv_quo rfl rfl rfl (by omega) | exact opv_shl rfl rfl rfl (by omega) | exact opv_shr rfl rfl rfl (by omega) | exact opv_bits rfl rfl rfl (by decide) | exact opv_len rfl rfl rfl rfl rfl | exact opv_min rfl rfl rfl rfl rfl | exact opv_convert rfl rfl | exact opv_makeFunc rfl rfl rfl | exact opv_indexAddrI rfl rfl rfl (by omega) (by omega) (by first | omega | (simp only [List.length_map]; omega) | (simp only [List.length_cons, List.length_nil]; omega)) | exact opv_index rfl rfl rfl (by omega) (by omega) (by first | assumption | exact rfl) | exact opv_indexA rfl rfl rfl (by omega) (by omega) (by first | assumption | exact rfl) | exact opv_indexAddrR rfl rfl rfl (by omega) (by omega) | exact opv_sliceHi rfl rfl rfl (by omega) (by omega) | exact opv_fieldAddrE rfl rfl (by first | assumption | omega) | exact opv_loadELx rfl (by exact rfl) (by infer_instance) rfl rfl rfl | exact opv_loadEx rfl (by exact rfl) (by infer_instance) (by first | assumption | exact rfl) | exact opv_load2 rfl (by exact rfl) (by infer_instance) (by assumption) (by assumption)) ?_
    | refine sl_tt rfl rfl rfl (by first | exact opv_eqlB Try.underlying4 rfl rfl rfl | exact opv_neqB Try.underlying4 rfl rfl rfl | exact opv_eqlS rfl rfl rfl rfl | exact opv_neqS rfl rfl rfl rfl) (by first | rfl | assumption) ?_
    | refine sl_ff rfl rfl rfl (by first | exact opv_eqlB Try.underlying4 rfl rfl rfl | exact opv_neqB Try.underlying4 rfl rfl rfl | exact opv_eqlS rfl rfl rfl rfl | exact opv_neqS rfl rfl rfl rfl) (by first | rfl | assumption) ?_
    | refine sl_bool rfl rfl rfl (by first | exact opv_eqlB Try.underlying4 rfl rfl rfl | exact opv_neqB Try.underlying4 rfl rfl rfl | exact opv_eqlS rfl rfl rfl rfl | exact opv_neqS rfl rfl rfl rfl) (fun h => ?_) (fun h => ?_)
    | refine sl_yes rfl rfl rfl (by first | exact opv_lss rfl rfl rfl | exact opv_leq rfl rfl rfl | exact opv_gtr rfl rfl rfl | exact opv_geq rfl rfl rfl | exact opv_eql rfl rfl rfl | exact opv_neq rfl rfl rfl) (by first | omega | decide +kernel) ?_
    | refine sl_no rfl rfl rfl (by first | exact opv_lss rfl rfl rfl | exact opv_leq rfl rfl rfl | exact opv_gtr rfl rfl rfl | exact opv_geq rfl rfl rfl | exact opv_eql rfl rfl rfl | exact opv_neq rfl rfl rfl) (by first | omega | decide +kernel) ?_
    | refine sl_if rfl rfl rfl (by first | exact opv_lss rfl rfl rfl | exact opv_leq rfl rfl rfl | exact opv_gtr rfl rfl rfl | exact opv_geq rfl rfl rfl | exact opv_eql rfl rfl rfl | exact opv_neq rfl rfl rfl) (fun h => ?_) (fun h => ?_)
    | refine sl_buildSlice rfl rfl rfl rfl rfl (by exact rfl) (by exact rfl) (by exact rfl) (by exact rfl) rfl (fun b => ?_)
    | refine sl_box rfl rfl rfl rfl rfl rfl (fun β => ?_)
    | refine sl_alloc rfl rfl rfl rfl (by exact rfl) (fun β => ?_)
    | refine sl_store rfl rfl rfl rfl rfl rfl (by exact rfl) rfl (by exact rfl) ?_
    | refine swp_true rfl ?_
    | refine swp_false rfl ?_
    | refine swp_block ?_
    | refine swp_ret ?_
    | refine swp_exit ?_
    | refine swp_skip ?_
    | refine thn_ret ?_
    | refine inb_ret ?_
    | refine inb_k ?_
    | refine thn_exit ?_
    | refine inb_exit ?_
    | refine inb_out rfl ?_)
  refine swp_loopS (fun s : S5 => [(5, .pointer (some ⟨β5, 0, none⟩)), (29, .agg ⟨[i64 (two at_ wide 0).1, i64 (two at_ wide 0).2, i64 (IntKind.i64.wrap (two at_ wide 1).1), i64 (IntKind.i64.wrap (two at_ wide 1).2)]⟩), (30, i64 s.k)])
    (fun _ => [blk β5 (.cells ⟨[u64 w0, u64 w1]⟩ 37 (0, 0))]) (fun s => 0 ≤ s.k ∧ s.k ≤ 2) (fun s => (2 - s.k).toNat) ⟨0⟩ ?_ ?_ ?_
  · repeat first | exact Sub.nil _ | refine Sub.cons rfl ?_
  · exact ⟨by decide, by decide⟩
  · rintro ⟨k⟩ ⟨hk0, hk1⟩
    dsimp only at hk0 hk1 ⊢
    by_cases hk : k < 2
    · obtain ⟨a, b, hab⟩ : ∃ a b : Int, ((([i64 (two at_ wide 0).1, i64 (two at_ wide 0).2, i64 (IntKind.i64.wrap (two at_ wide 1).1), i64 (IntKind.i64.wrap (two at_ wide 1).2)] : List Value).drop (k.toNat * 2)).take 2) = [i64 a, i64 b] := by
        rcases (by omega : k = 0 ∨ k = 1) with rfl | rfl
        · exact ⟨_, _, rfl⟩
        · exact ⟨_, _, rfl⟩
      by_cases hm : May a b
      · obtain ⟨m1, m2, m3, m4⟩ := id hm
        obtain ⟨na, rfl⟩ := Int.eq_ofNat_of_zero_le m1
        obtain ⟨nb, rfl⟩ := Int.eq_ofNat_of_zero_le (by omega : 0 ≤ b)
        have g1 : 1 ≤ nb := by omega
        have g2 : na + nb ≤ 64 := by omega
        repeat' (first
          | refine sl_op rfl rfl rfl (opv_call rfl rfl rfl rfl rfl (refMay_yes _ _ hm)) ?_
          | refine sl_op rfl rfl rfl (opv_call rfl rfl rfl rfl rfl (May_yes _ _ hm)) ?_
          | refine sl_op rfl rfl rfl (opv_call rfl rfl rfl rfl rfl (Most_N _ _ g1 g2)) ?_
          | refine sl_op rfl rfl rfl (opv_call rfl rfl rfl rfl rfl (Of_N _ _ _ h0 g1 g2)) ?_
          | refine swp_seq ?_
          | refine sl_region rfl ?_
          | refine sl_draw (by kernel_rfl) (by kernel_rfl) rfl ?_
          | refine sl_nil ?_
          | refine thn_k ?_
          | refine sl_pass rfl rfl rfl rfl ?_
          | refine sl_op rfl rfl rfl (by first | exact opv_move rfl rfl | exact opv_assign rfl rfl | exact opv_load rfl (by exact rfl) rfl (by exact rfl) | exact opv_fieldAddr rfl rfl | exact opv_pick_t rfl rfl rfl | exact opv_pick_f rfl rfl rfl | exact opv_not_t rfl rfl | exact opv_not_f rfl rfl | exact opv_not rfl rfl | exact opv_extract rfl rfl rfl | exact opv_loadA rfl (by exact rfl) rfl (by exact rfl) (by exact rfl) | exact opv_build rfl rfl (by exact rfl) | exact opv_add64 rfl rfl rfl (by omega) (by omega) | exact opv_sub64 rfl rfl rfl (by omega) (by omega) | exact opv_add rfl rfl rfl | exact opv_sub rfl rfl rfl | exact opv_mul rfl rfl rfl | exact opv_rem rfl rfl rfl (by omega) | exact opv_quo rfl rfl rfl (by omega) | exact opv_shl rfl rfl rfl (by omega) | exact opv_shr rfl rfl rfl (by omega) | exact opv_bits rfl rfl rfl (by decide) | exact opv_len rfl rfl rfl rfl rfl | exact opv_min rfl rfl rfl rfl rfl | exact opv_convert rfl rfl | exact opv_makeFunc rfl rfl rfl | exact opv_indexAddrI rfl rfl rfl (by omega) (by omega) (by first | omega | (simp only [List.length_map]; omega) | (simp only [List.length_cons, List.length_nil]; omega)) | exact opv_index rfl rfl rfl (by omega) (by omega) (by first | assumption | exact rfl) | exact opv_indexA rfl rfl rfl (by omega) (by omega) (by first | assumption | exact rfl) | exact opv_indexAddrR rfl rfl rfl (by omega) (by omega) | exact opv_sliceHi rfl rfl rfl (by omega) (by omega) | exact opv_fieldAddrE rfl rfl (by first | assumption | omega) | exact opv_loadELx rfl (by exact rfl) (by infer_instance) rfl rfl rfl | exact opv_loadEx rfl (by exact rfl) (by infer_instance) (by first | assumption | exact rfl) | exact opv_load2 rfl (by exact rfl) (by infer_instance) (by assumption) (by assumption)) ?_
          | refine sl_tt rfl rfl rfl (by first | exact opv_eqlB Try.underlying4 rfl rfl rfl | exact opv_neqB Try.underlying4 rfl rfl rfl | exact opv_eqlS rfl rfl rfl rfl | exact opv_neqS rfl rfl rfl rfl) (by first | rfl | assumption) ?_
          | refine sl_ff rfl rfl rfl (by first | exact opv_eqlB Try.underlying4 rfl rfl rfl | exact opv_neqB Try.underlying4 rfl rfl rfl | exact opv_eqlS rfl rfl rfl rfl | exact opv_neqS rfl rfl rfl rfl) (by first | rfl | assumption) ?_
          | refine sl_bool rfl rfl rfl (by first | exact opv_eqlB Try.underlying4 rfl rfl rfl | exact opv_neqB Try.underlying4 rfl rfl rfl | exact opv_eqlS rfl rfl rfl rfl | exact opv_neqS rfl rfl rfl rfl) (fun h => ?_) (fun h => ?_)
          | refine sl_yes rfl rfl rfl (by first | exact opv_lss rfl rfl rfl | exact opv_leq rfl rfl rfl | exact opv_gtr rfl rfl rfl | exact opv_geq rfl rfl rfl | exact opv_eql rfl rfl rfl | exact opv_neq rfl rfl rfl) (by first | omega | decide +kernel) ?_
          | refine sl_no rfl rfl rfl (by first | exact opv_lss rfl rfl rfl | exact opv_leq rfl rfl rfl | exact opv_gtr rfl rfl rfl | exact opv_geq rfl rfl rfl | exact opv_eql rfl rfl rfl | exact opv_neq rfl rfl rfl) (by first | omega | decide +kernel) ?_
          | refine sl_if rfl rfl rfl (by first | exact opv_lss rfl rfl rfl | exact opv_leq rfl rfl rfl | exact opv_gtr rfl rfl rfl | exact opv_geq rfl rfl rfl | exact opv_eql rfl rfl rfl | exact opv_neq rfl rfl rfl) (fun h => ?_) (fun h => ?_)
          | refine sl_buildSlice rfl rfl rfl rfl rfl (by exact rfl) (by exact rfl) (by exact rfl) (by exact rfl) rfl (fun b => ?_)
          | refine sl_box rfl rfl rfl rfl rfl rfl (fun β => ?_)
          | refine sl_alloc rfl rfl rfl rfl (by exact rfl) (fun β => ?_)
          | refine sl_store rfl rfl rfl rfl rfl rfl (by exact rfl) rfl (by exact rfl) ?_
          | refine swp_true rfl ?_
          | refine swp_false rfl ?_
          | refine swp_block ?_
          | refine swp_ret ?_
          | refine swp_exit ?_
          | refine swp_skip ?_
          | refine thn_ret ?_
          | refine inb_ret ?_
          | refine inb_k ?_
          | refine thn_exit ?_
          | refine inb_exit ?_
          | refine inb_out rfl ?_)
        have hv : ∀ j : Int, 0 ≤ j → j < 3 → ∃ v : Nat, v < 2 ^ 64 ∧ ([u64 w1, Value.int IntKind.u64 (bitsOp BinOp.and IntKind.u64 ↑w1 ((2 ^ nb - 1 : Nat) : Int)), Value.int IntKind.u64 ((↑w1 : Int).tmod 3)] : List Value)[j.toNat * 1]? = some (u64 v) := fun j j0 j1 => by
          have hb : 2 ^ nb - 1 < 2 ^ 64 := by
            have h2 : 2 ^ nb ≤ 2 ^ 64 := Nat.pow_le_pow_right (by decide) (by omega)
            have h3 := Nat.two_pow_pos nb
            omega
          rcases (by omega : j = 0 ∨ j = 1 ∨ j = 2) with rfl | rfl | rfl
          · exact ⟨w1, h1, rfl⟩
          · exact ⟨w1 &&& (2 ^ nb - 1), Nat.lt_of_le_of_lt Nat.and_le_left h1, by rw [and_nat h1 hb]; rfl⟩
          · exact ⟨w1 % 3, by omega, rfl⟩
        refine swp_loopS (fun s : S5 => [(5, .pointer (some ⟨β5, 0, none⟩)), (8, .pointer (some ⟨β, 0, none⟩)), (30, i64 k), (29, .agg ⟨[i64 (two at_ wide 0).1, i64 (two at_ wide 0).2, i64 (IntKind.i64.wrap (two at_ wide 1).1), i64 (IntKind.i64.wrap (two at_ wide 1).2)]⟩),
            (83, .agg ⟨[u64 w1, Value.int IntKind.u64 (bitsOp BinOp.and IntKind.u64 ↑w1 ((2 ^ nb - 1 : Nat) : Int)), Value.int IntKind.u64 ((↑w1 : Int).tmod 3)]⟩), (84, i64 s.k)])
          (fun _ => [blk β (.cells ⟨[i64 na, i64 nb]⟩ 30 (0, 0)), blk β5 (.cells ⟨[u64 w0, u64 w1]⟩ 37 (0, 0))]) (fun s => 0 ≤ s.k ∧ s.k ≤ 3) (fun s => (3 - s.k).toNat) ⟨0⟩ (by repeat first | exact Sub.nil _ | refine Sub.cons rfl ?_) ⟨by decide, by decide⟩ ?_
        rintro ⟨j⟩ ⟨hj0, hj1⟩
        dsimp only at hj0 hj1 ⊢
        by_cases hj : j < 3
        · obtain ⟨v, hv64, hcell⟩ := hv j hj0 hj
          by_cases hmost : v ≤ 2 ^ nb - 1
          · repeat' (first
              | refine sl_op rfl rfl rfl (opv_call rfl rfl rfl rfl rfl (Put_N _ _ _ _ h0 g1 g2 hmost)) ?_
              | refine sl_op rfl rfl rfl (opv_call rfl rfl rfl rfl rfl (refPut_yes _ _ _ _ h0 hv64 g1 g2 hmost)) ?_
              | refine swp_seq ?_
              | refine sl_region rfl ?_
              | refine sl_draw (by kernel_rfl) (by kernel_rfl) rfl ?_
              | refine sl_nil ?_
              | refine thn_k ?_
              | refine sl_pass rfl rfl rfl rfl ?_
              | refine sl_op rfl rfl rfl (by first | exact opv_move rfl rfl | exact opv_assign rfl rfl | exact opv_load rfl (by exact rfl) rfl (by exact rfl) | exact opv_fieldAddr rfl rfl | exact opv_pick_t rfl rfl rfl | exact opv_pick_f rfl rfl rfl | exact opv_not_t rfl rfl | exact opv_not_f rfl rfl | exact opv_not rfl rfl | exact opv_extract rfl rfl rfl | exact opv_loadA rfl (by exact rfl) rfl (by exact rfl) (by exact rfl) | exact opv_build rfl rfl (by exact rfl) | exact opv_add64 rfl rfl rfl (by omega) (by omega) | exact opv_sub64 rfl rfl rfl (by omega) (by omega) | exact opv_add rfl rfl rfl | exact opv_sub rfl rfl rfl | exact opv_mul rfl rfl rfl | exact opv_rem rfl rfl rfl (by omega) | exact opv_quo rfl rfl rfl (by omega) | exact opv_shl rfl rfl rfl (by omega) | exact opv_shr rfl rfl rfl (by omega) | exact opv_bits rfl rfl rfl (by decide) | exact opv_len rfl rfl rfl rfl rfl | exact opv_min rfl rfl rfl rfl rfl | exact opv_convert rfl rfl | exact opv_makeFunc rfl rfl rfl | exact opv_indexAddrI rfl rfl rfl (by omega) (by omega) (by first | omega | (simp only [List.length_map]; omega) | (simp only [List.length_cons, List.length_nil]; omega)) | exact opv_index rfl rfl rfl (by omega) (by omega) (by first | assumption | exact rfl) | exact opv_indexA rfl rfl rfl (by omega) (by omega) (by first | assumption | exact rfl) | exact opv_indexAddrR rfl rfl rfl (by omega) (by omega) | exact opv_sliceHi rfl rfl rfl (by omega) (by omega) | exact opv_fieldAddrE rfl rfl (by first | assumption | omega) | exact opv_loadELx rfl (by exact rfl) (by infer_instance) rfl rfl rfl | exact opv_loadEx rfl (by exact rfl) (by infer_instance) (by first | assumption | exact rfl) | exact opv_load2 rfl (by exact rfl) (by infer_instance) (by assumption) (by assumption)) ?_
              | refine sl_tt rfl rfl rfl (by first | exact opv_eqlB Try.underlying4 rfl rfl rfl | exact opv_neqB Try.underlying4 rfl rfl rfl | exact opv_eqlS rfl rfl rfl rfl | exact opv_neqS rfl rfl rfl rfl) (by first | rfl | assumption) ?_
              | refine sl_ff rfl rfl rfl (by first | exact opv_eqlB Try.underlying4 rfl rfl rfl | exact opv_neqB Try.underlying4 rfl rfl rfl | exact opv_eqlS rfl rfl rfl rfl | exact opv_neqS rfl rfl rfl rfl) (by first | rfl | assumption) ?_
              | refine sl_bool rfl rfl rfl (by first | exact opv_eqlB Try.underlying4 rfl rfl rfl | exact opv_neqB Try.underlying4 rfl rfl rfl | exact opv_eqlS rfl rfl rfl rfl | exact opv_neqS rfl rfl rfl rfl) (fun h => ?_) (fun h => ?_)
              | refine sl_yes rfl rfl rfl (by first | exact opv_lss rfl rfl rfl | exact opv_leq rfl rfl rfl | exact opv_gtr rfl rfl rfl | exact opv_geq rfl rfl rfl | exact opv_eql rfl rfl rfl | exact opv_neq rfl rfl rfl) (by first | omega | decide +kernel) ?_
              | refine sl_no rfl rfl rfl (by first | exact opv_lss rfl rfl rfl | exact opv_leq rfl rfl rfl | exact opv_gtr rfl rfl rfl | exact opv_geq rfl rfl rfl | exact opv_eql rfl rfl rfl | exact opv_neq rfl rfl rfl) (by first | omega | decide +kernel) ?_
              | refine sl_if rfl rfl rfl (by first | exact opv_lss rfl rfl rfl | exact opv_leq rfl rfl rfl | exact opv_gtr rfl rfl rfl | exact opv_geq rfl rfl rfl | exact opv_eql rfl rfl rfl | exact opv_neq rfl rfl rfl) (fun h => ?_) (fun h => ?_)
              | refine sl_buildSlice rfl rfl rfl rfl rfl (by exact rfl) (by exact rfl) (by exact rfl) (by exact rfl) rfl (fun b => ?_)
              | refine sl_box rfl rfl rfl rfl rfl rfl (fun β => ?_)
              | refine sl_alloc rfl rfl rfl rfl (by exact rfl) (fun β => ?_)
              | refine sl_store rfl rfl rfl rfl rfl rfl (by exact rfl) rfl (by exact rfl) ?_
              | refine swp_true rfl ?_
              | refine swp_false rfl ?_
              | refine swp_block ?_
              | refine swp_ret ?_
              | refine swp_exit ?_
              | refine swp_skip ?_
              | refine thn_ret ?_
              | refine inb_ret ?_
              | refine inb_k ?_
              | refine thn_exit ?_
              | refine inb_exit ?_
              | refine inb_out rfl ?_)
            refine ⟨rfl, ⟨j + 1⟩, next_ok (by repeat first | exact Sub.nil _ | refine Sub.cons rfl ?_), ?_, ?_⟩
            all_goals dsimp only
            · exact ⟨by omega, by omega⟩
            · omega
          · repeat' (first
              | refine sl_op rfl rfl rfl (opv_call rfl rfl rfl rfl rfl (Put_NO _ _ _ _ g1 g2 hmost)) ?_
              | refine sl_op rfl rfl rfl (opv_call rfl rfl rfl rfl rfl (refPut_no _ _ _ _ g1 (by omega) hmost)) ?_
              | refine swp_seq ?_
              | refine sl_region rfl ?_
              | refine sl_draw (by kernel_rfl) (by kernel_rfl) rfl ?_
              | refine sl_nil ?_
              | refine thn_k ?_
              | refine sl_pass rfl rfl rfl rfl ?_
              | refine sl_op rfl rfl rfl (by first | exact opv_move rfl rfl | exact opv_assign rfl rfl | exact opv_load rfl (by exact rfl) rfl (by exact rfl) | exact opv_fieldAddr rfl rfl | exact opv_pick_t rfl rfl rfl | exact opv_pick_f rfl rfl rfl | exact opv_not_t rfl rfl | exact opv_not_f rfl rfl | exact opv_not rfl rfl | exact opv_extract rfl rfl rfl | exact opv_loadA rfl (by exact rfl) rfl (by exact rfl) (by exact rfl) | exact opv_build rfl rfl (by exact rfl) | exact opv_add64 rfl rfl rfl (by omega) (by omega) | exact opv_sub64 rfl rfl rfl (by omega) (by omega) | exact opv_add rfl rfl rfl | exact opv_sub rfl rfl rfl | exact opv_mul rfl rfl rfl | exact opv_rem rfl rfl rfl (by omega) | exact opv_quo rfl rfl rfl (by omega) | exact opv_shl rfl rfl rfl (by omega) | exact opv_shr rfl rfl rfl (by omega) | exact opv_bits rfl rfl rfl (by decide) | exact opv_len rfl rfl rfl rfl rfl | exact opv_min rfl rfl rfl rfl rfl | exact opv_convert rfl rfl | exact opv_makeFunc rfl rfl rfl | exact opv_indexAddrI rfl rfl rfl (by omega) (by omega) (by first | omega | (simp only [List.length_map]; omega) | (simp only [List.length_cons, List.length_nil]; omega)) | exact opv_index rfl rfl rfl (by omega) (by omega) (by first | assumption | exact rfl) | exact opv_indexA rfl rfl rfl (by omega) (by omega) (by first | assumption | exact rfl) | exact opv_indexAddrR rfl rfl rfl (by omega) (by omega) | exact opv_sliceHi rfl rfl rfl (by omega) (by omega) | exact opv_fieldAddrE rfl rfl (by first | assumption | omega) | exact opv_loadELx rfl (by exact rfl) (by infer_instance) rfl rfl rfl | exact opv_loadEx rfl (by exact rfl) (by infer_instance) (by first | assumption | exact rfl) | exact opv_load2 rfl (by exact rfl) (by infer_instance) (by assumption) (by assumption)) ?_
              | refine sl_tt rfl rfl rfl (by first | exact opv_eqlB Try.underlying4 rfl rfl rfl | exact opv_neqB Try.underlying4 rfl rfl rfl | exact opv_eqlS rfl rfl rfl rfl | exact opv_neqS rfl rfl rfl rfl) (by first | rfl | assumption) ?_
              | refine sl_ff rfl rfl rfl (by first | exact opv_eqlB Try.underlying4 rfl rfl rfl | exact opv_neqB Try.underlying4 rfl rfl rfl | exact opv_eqlS rfl rfl rfl rfl | exact opv_neqS rfl rfl rfl rfl) (by first | rfl | assumption) ?_
              | refine sl_bool rfl rfl rfl (by first | exact opv_eqlB Try.underlying4 rfl rfl rfl | exact opv_neqB Try.underlying4 rfl rfl rfl | exact opv_eqlS rfl rfl rfl rfl | exact opv_neqS rfl rfl rfl rfl) (fun h => ?_) (fun h => ?_)
              | refine sl_yes rfl rfl rfl (by first | exact opv_lss rfl rfl rfl | exact opv_leq rfl rfl rfl | exact opv_gtr rfl rfl rfl | exact opv_geq rfl rfl rfl | exact opv_eql rfl rfl rfl | exact opv_neq rfl rfl rfl) (by first | omega | decide +kernel) ?_
              | refine sl_no rfl rfl rfl (by first | exact opv_lss rfl rfl rfl | exact opv_leq rfl rfl rfl | exact opv_gtr rfl rfl rfl | exact opv_geq rfl rfl rfl | exact opv_eql rfl rfl rfl | exact opv_neq rfl rfl rfl) (by first | omega | decide +kernel) ?_
              | refine sl_if rfl rfl rfl (by first | exact opv_lss rfl rfl rfl | exact opv_leq rfl rfl rfl | exact opv_gtr rfl rfl rfl | exact opv_geq rfl rfl rfl | exact opv_eql rfl rfl rfl | exact opv_neq rfl rfl rfl) (fun h => ?_) (fun h => ?_)
              | refine sl_buildSlice rfl rfl rfl rfl rfl (by exact rfl) (by exact rfl) (by exact rfl) (by exact rfl) rfl (fun b => ?_)
              | refine sl_box rfl rfl rfl rfl rfl rfl (fun β => ?_)
              | refine sl_alloc rfl rfl rfl rfl (by exact rfl) (fun β => ?_)
              | refine sl_store rfl rfl rfl rfl rfl rfl (by exact rfl) rfl (by exact rfl) ?_
              | refine swp_true rfl ?_
              | refine swp_false rfl ?_
              | refine swp_block ?_
              | refine swp_ret ?_
              | refine swp_exit ?_
              | refine swp_skip ?_
              | refine thn_ret ?_
              | refine inb_ret ?_
              | refine inb_k ?_
              | refine thn_exit ?_
              | refine inb_exit ?_
              | refine inb_out rfl ?_)
            refine ⟨rfl, ⟨j + 1⟩, next_ok (by repeat first | exact Sub.nil _ | refine Sub.cons rfl ?_), ?_, ?_⟩
            all_goals dsimp only
            · exact ⟨by omega, by omega⟩
            · omega
        · clear hv
          repeat' (first
            | refine sl_op rfl rfl rfl (opv_call rfl rfl rfl rfl rfl (May_yes _ _ hm)) ?_
            | refine sl_op rfl rfl rfl (opv_call rfl rfl rfl rfl rfl (Most_N _ _ g1 g2)) ?_
            | refine sl_op rfl rfl rfl (opv_call rfl rfl rfl rfl rfl (refMost_calls _ g1 (by omega))) ?_
            | refine sl_op rfl rfl rfl (opv_call rfl rfl rfl rfl rfl (Of_N _ _ _ h0 g1 g2)) ?_
            | refine sl_op rfl rfl rfl (opv_call rfl rfl rfl rfl rfl (refOf_calls _ _ _ h0 g1 g2)) ?_
            | refine swp_seq ?_
            | refine sl_region rfl ?_
            | refine sl_draw (by kernel_rfl) (by kernel_rfl) rfl ?_
            | refine sl_nil ?_
            | refine thn_k ?_
            | refine sl_pass rfl rfl rfl rfl ?_
            | refine sl_op rfl rfl rfl (by first | exact opv_move rfl rfl | exact opv_assign rfl rfl | exact opv_load rfl (by exact rfl) rfl (by exact rfl) | exact opv_fieldAddr rfl rfl | exact opv_pick_t rfl rfl rfl | exact opv_pick_f rfl rfl rfl | exact opv_not_t rfl rfl | exact opv_not_f rfl rfl | exact opv_not rfl rfl | exact opv_extract rfl rfl rfl | exact opv_loadA rfl (by exact rfl) rfl (by exact rfl) (by exact rfl) | exact opv_build rfl rfl (by exact rfl) | exact opv_add64 rfl rfl rfl (by omega) (by omega) | exact opv_sub64 rfl rfl rfl (by omega) (by omega) | exact opv_add rfl rfl rfl | exact opv_sub rfl rfl rfl | exact opv_mul rfl rfl rfl | exact opv_rem rfl rfl rfl (by omega) | exact opv_quo rfl rfl rfl (by omega) | exact opv_shl rfl rfl rfl (by omega) | exact opv_shr rfl rfl rfl (by omega) | exact opv_bits rfl rfl rfl (by decide) | exact opv_len rfl rfl rfl rfl rfl | exact opv_min rfl rfl rfl rfl rfl | exact opv_convert rfl rfl | exact opv_makeFunc rfl rfl rfl | exact opv_indexAddrI rfl rfl rfl (by omega) (by omega) (by first | omega | (simp only [List.length_map]; omega) | (simp only [List.length_cons, List.length_nil]; omega)) | exact opv_index rfl rfl rfl (by omega) (by omega) (by first | assumption | exact rfl) | exact opv_indexA rfl rfl rfl (by omega) (by omega) (by first | assumption | exact rfl) | exact opv_indexAddrR rfl rfl rfl (by omega) (by omega) | exact opv_sliceHi rfl rfl rfl (by omega) (by omega) | exact opv_fieldAddrE rfl rfl (by first | assumption | omega) | exact opv_loadELx rfl (by exact rfl) (by infer_instance) rfl rfl rfl | exact opv_loadEx rfl (by exact rfl) (by infer_instance) (by first | assumption | exact rfl) | exact opv_load2 rfl (by exact rfl) (by infer_instance) (by assumption) (by assumption)) ?_
            | refine sl_tt rfl rfl rfl (by first | exact opv_eqlB Try.underlying4 rfl rfl rfl | exact opv_neqB Try.underlying4 rfl rfl rfl | exact opv_eqlS rfl rfl rfl rfl | exact opv_neqS rfl rfl rfl rfl) (by first | rfl | assumption) ?_
            | refine sl_ff rfl rfl rfl (by first | exact opv_eqlB Try.underlying4 rfl rfl rfl | exact opv_neqB Try.underlying4 rfl rfl rfl | exact opv_eqlS rfl rfl rfl rfl | exact opv_neqS rfl rfl rfl rfl) (by first | rfl | assumption) ?_
            | refine sl_bool rfl rfl rfl (by first | exact opv_eqlB Try.underlying4 rfl rfl rfl | exact opv_neqB Try.underlying4 rfl rfl rfl | exact opv_eqlS rfl rfl rfl rfl | exact opv_neqS rfl rfl rfl rfl) (fun h => ?_) (fun h => ?_)
            | refine sl_yes rfl rfl rfl (by first | exact opv_lss rfl rfl rfl | exact opv_leq rfl rfl rfl | exact opv_gtr rfl rfl rfl | exact opv_geq rfl rfl rfl | exact opv_eql rfl rfl rfl | exact opv_neq rfl rfl rfl) (by first | omega | decide +kernel) ?_
            | refine sl_no rfl rfl rfl (by first | exact opv_lss rfl rfl rfl | exact opv_leq rfl rfl rfl | exact opv_gtr rfl rfl rfl | exact opv_geq rfl rfl rfl | exact opv_eql rfl rfl rfl | exact opv_neq rfl rfl rfl) (by first | omega | decide +kernel) ?_
            | refine sl_if rfl rfl rfl (by first | exact opv_lss rfl rfl rfl | exact opv_leq rfl rfl rfl | exact opv_gtr rfl rfl rfl | exact opv_geq rfl rfl rfl | exact opv_eql rfl rfl rfl | exact opv_neq rfl rfl rfl) (fun h => ?_) (fun h => ?_)
            | refine sl_buildSlice rfl rfl rfl rfl rfl (by exact rfl) (by exact rfl) (by exact rfl) (by exact rfl) rfl (fun b => ?_)
            | refine sl_box rfl rfl rfl rfl rfl rfl (fun β => ?_)
            | refine sl_alloc rfl rfl rfl rfl (by exact rfl) (fun β => ?_)
            | refine sl_store rfl rfl rfl rfl rfl rfl (by exact rfl) rfl (by exact rfl) ?_
            | refine swp_true rfl ?_
            | refine swp_false rfl ?_
            | refine swp_block ?_
            | refine swp_ret ?_
            | refine swp_exit ?_
            | refine swp_skip ?_
            | refine thn_ret ?_
            | refine inb_ret ?_
            | refine inb_k ?_
            | refine thn_exit ?_
            | refine inb_exit ?_
            | refine inb_out rfl ?_)
          refine ⟨rfl, ⟨k + 1⟩, next_ok (by repeat first | exact Sub.nil _ | refine Sub.cons rfl ?_), ?_, ?_⟩
          all_goals dsimp only
          · exact ⟨by omega, by omega⟩
          · omega
      · repeat' (first
          | refine sl_op rfl rfl rfl (opv_call rfl rfl rfl rfl rfl (refMay_no _ _ hm)) ?_
          | refine sl_op rfl rfl rfl (opv_call rfl rfl rfl rfl rfl (May_no _ _ hm)) ?_
          | refine sl_op rfl rfl rfl (opv_call rfl rfl rfl rfl rfl (Put_not _ _ _ _ hm)) ?_
          | refine sl_op rfl rfl rfl (opv_call rfl rfl rfl rfl rfl (Most_no _ _ hm)) ?_
          | refine sl_op rfl rfl rfl (opv_call rfl rfl rfl rfl rfl (Of_no _ _ _ hm)) ?_
          | refine sl_op rfl rfl rfl (opv_call rfl rfl rfl rfl rfl (Apart_no _ _ _ _ hm)) ?_
          | refine swp_seq ?_
          | refine sl_region rfl ?_
          | refine sl_draw (by kernel_rfl) (by kernel_rfl) rfl ?_
          | refine sl_nil ?_
          | refine thn_k ?_
          | refine sl_pass rfl rfl rfl rfl ?_
          | refine sl_op rfl rfl rfl (by first | exact opv_move rfl rfl | exact opv_assign rfl rfl | exact opv_load rfl (by exact rfl) rfl (by exact rfl) | exact opv_fieldAddr rfl rfl | exact opv_pick_t rfl rfl rfl | exact opv_pick_f rfl rfl rfl | exact opv_not_t rfl rfl | exact opv_not_f rfl rfl | exact opv_not rfl rfl | exact opv_extract rfl rfl rfl | exact opv_loadA rfl (by exact rfl) rfl (by exact rfl) (by exact rfl) | exact opv_build rfl rfl (by exact rfl) | exact opv_add64 rfl rfl rfl (by omega) (by omega) | exact opv_sub64 rfl rfl rfl (by omega) (by omega) | exact opv_add rfl rfl rfl | exact opv_sub rfl rfl rfl | exact opv_mul rfl rfl rfl | exact opv_rem rfl rfl rfl (by omega) | exact opv_quo rfl rfl rfl (by omega) | exact opv_shl rfl rfl rfl (by omega) | exact opv_shr rfl rfl rfl (by omega) | exact opv_bits rfl rfl rfl (by decide) | exact opv_len rfl rfl rfl rfl rfl | exact opv_min rfl rfl rfl rfl rfl | exact opv_convert rfl rfl | exact opv_makeFunc rfl rfl rfl | exact opv_indexAddrI rfl rfl rfl (by omega) (by omega) (by first | omega | (simp only [List.length_map]; omega) | (simp only [List.length_cons, List.length_nil]; omega)) | exact opv_index rfl rfl rfl (by omega) (by omega) (by first | assumption | exact rfl) | exact opv_indexA rfl rfl rfl (by omega) (by omega) (by first | assumption | exact rfl) | exact opv_indexAddrR rfl rfl rfl (by omega) (by omega) | exact opv_sliceHi rfl rfl rfl (by omega) (by omega) | exact opv_fieldAddrE rfl rfl (by first | assumption | omega) | exact opv_loadELx rfl (by exact rfl) (by infer_instance) rfl rfl rfl | exact opv_loadEx rfl (by exact rfl) (by infer_instance) (by first | assumption | exact rfl) | exact opv_load2 rfl (by exact rfl) (by infer_instance) (by assumption) (by assumption)) ?_
          | refine sl_tt rfl rfl rfl (by first | exact opv_eqlB Try.underlying4 rfl rfl rfl | exact opv_neqB Try.underlying4 rfl rfl rfl | exact opv_eqlS rfl rfl rfl rfl | exact opv_neqS rfl rfl rfl rfl) (by first | rfl | assumption) ?_
          | refine sl_ff rfl rfl rfl (by first | exact opv_eqlB Try.underlying4 rfl rfl rfl | exact opv_neqB Try.underlying4 rfl rfl rfl | exact opv_eqlS rfl rfl rfl rfl | exact opv_neqS rfl rfl rfl rfl) (by first | rfl | assumption) ?_
          | refine sl_bool rfl rfl rfl (by first | exact opv_eqlB Try.underlying4 rfl rfl rfl | exact opv_neqB Try.underlying4 rfl rfl rfl | exact opv_eqlS rfl rfl rfl rfl | exact opv_neqS rfl rfl rfl rfl) (fun h => ?_) (fun h => ?_)
          | refine sl_yes rfl rfl rfl (by first | exact opv_lss rfl rfl rfl | exact opv_leq rfl rfl rfl | exact opv_gtr rfl rfl rfl | exact opv_geq rfl rfl rfl | exact opv_eql rfl rfl rfl | exact opv_neq rfl rfl rfl) (by first | omega | decide +kernel) ?_
          | refine sl_no rfl rfl rfl (by first | exact opv_lss rfl rfl rfl | exact opv_leq rfl rfl rfl | exact opv_gtr rfl rfl rfl | exact opv_geq rfl rfl rfl | exact opv_eql rfl rfl rfl | exact opv_neq rfl rfl rfl) (by first | omega | decide +kernel) ?_
          | refine sl_if rfl rfl rfl (by first | exact opv_lss rfl rfl rfl | exact opv_leq rfl rfl rfl | exact opv_gtr rfl rfl rfl | exact opv_geq rfl rfl rfl | exact opv_eql rfl rfl rfl | exact opv_neq rfl rfl rfl) (fun h => ?_) (fun h => ?_)
          | refine sl_buildSlice rfl rfl rfl rfl rfl (by exact rfl) (by exact rfl) (by exact rfl) (by exact rfl) rfl (fun b => ?_)
          | refine sl_box rfl rfl rfl rfl rfl rfl (fun β => ?_)
          | refine sl_alloc rfl rfl rfl rfl (by exact rfl) (fun β => ?_)
          | refine sl_store rfl rfl rfl rfl rfl rfl (by exact rfl) rfl (by exact rfl) ?_
          | refine swp_true rfl ?_
          | refine swp_false rfl ?_
          | refine swp_block ?_
          | refine swp_ret ?_
          | refine swp_exit ?_
          | refine swp_skip ?_
          | refine thn_ret ?_
          | refine inb_ret ?_
          | refine inb_k ?_
          | refine thn_exit ?_
          | refine inb_exit ?_
          | refine inb_out rfl ?_)
        refine ⟨rfl, ⟨k + 1⟩, next_ok (by repeat first | exact Sub.nil _ | refine Sub.cons rfl ?_), ?_, ?_⟩
        all_goals dsimp only
        · exact ⟨by omega, by omega⟩
        · omega
    · repeat' (first
        | refine sl_op rfl rfl rfl (opv_call rfl rfl rfl rfl rfl (works_calls)) ?_
        | refine swp_seq ?_
        | refine sl_region rfl ?_
        | refine sl_draw (by kernel_rfl) (by kernel_rfl) rfl ?_
        | refine sl_nil ?_
        | refine thn_k ?_
        | refine sl_pass rfl rfl rfl rfl ?_
        | refine sl_op rfl rfl rfl (by first | exact opv_move rfl rfl | exact opv_assign rfl rfl | exact opv_load rfl (by exact rfl) rfl (by exact rfl) | exact opv_fieldAddr rfl rfl | exact opv_pick_t rfl rfl rfl | exact opv_pick_f rfl rfl rfl | exact opv_not_t rfl rfl | exact opv_not_f rfl rfl | exact opv_not rfl rfl | exact opv_extract rfl rfl rfl | exact opv_loadA rfl (by exact rfl) rfl (by exact rfl) (by exact rfl) | exact opv_build rfl rfl (by exact rfl) | exact opv_add64 rfl rfl rfl (by omega) (by omega) | exact opv_sub64 rfl rfl rfl (by omega) (by omega) | exact opv_add rfl rfl rfl | exact opv_sub rfl rfl rfl | exact opv_mul rfl rfl rfl | exact opv_rem rfl rfl rfl (by omega) | exact opv_quo rfl rfl rfl (by omega) | exact opv_shl rfl rfl rfl (by omega) | exact opv_shr rfl rfl rfl (by omega) | exact opv_bits rfl rfl rfl (by decide) | exact opv_len rfl rfl rfl rfl rfl | exact opv_min rfl rfl rfl rfl rfl | exact opv_convert rfl rfl | exact opv_makeFunc rfl rfl rfl | exact opv_indexAddrI rfl rfl rfl (by omega) (by omega) (by first | omega | (simp only [List.length_map]; omega) | (simp only [List.length_cons, List.length_nil]; omega)) | exact opv_index rfl rfl rfl (by omega) (by omega) (by first | assumption | exact rfl) | exact opv_indexA rfl rfl rfl (by omega) (by omega) (by first | assumption | exact rfl) | exact opv_indexAddrR rfl rfl rfl (by omega) (by omega) | exact opv_sliceHi rfl rfl rfl (by omega) (by omega) | exact opv_fieldAddrE rfl rfl (by first | assumption | omega) | exact opv_loadELx rfl (by exact rfl) (by infer_instance) rfl rfl rfl | exact opv_loadEx rfl (by exact rfl) (by infer_instance) (by first | assumption | exact rfl) | exact opv_load2 rfl (by exact rfl) (by infer_instance) (by assumption) (by assumption)) ?_
        | refine sl_tt rfl rfl rfl (by first | exact opv_eqlB Try.underlying4 rfl rfl rfl | exact opv_neqB Try.underlying4 rfl rfl rfl | exact opv_eqlS rfl rfl rfl rfl | exact opv_neqS rfl rfl rfl rfl) (by first | rfl | assumption) ?_
        | refine sl_ff rfl rfl rfl (by first | exact opv_eqlB Try.underlying4 rfl rfl rfl | exact opv_neqB Try.underlying4 rfl rfl rfl | exact opv_eqlS rfl rfl rfl rfl | exact opv_neqS rfl rfl rfl rfl) (by first | rfl | assumption) ?_
        | refine sl_bool rfl rfl rfl (by first | exact opv_eqlB Try.underlying4 rfl rfl rfl | exact opv_neqB Try.underlying4 rfl rfl rfl | exact opv_eqlS rfl rfl rfl rfl | exact opv_neqS rfl rfl rfl rfl) (fun h => ?_) (fun h => ?_)
        | refine sl_yes rfl rfl rfl (by first | exact opv_lss rfl rfl rfl | exact opv_leq rfl rfl rfl | exact opv_gtr rfl rfl rfl | exact opv_geq rfl rfl rfl | exact opv_eql rfl rfl rfl | exact opv_neq rfl rfl rfl) (by first | omega | decide +kernel) ?_
        | refine sl_no rfl rfl rfl (by first | exact opv_lss rfl rfl rfl | exact opv_leq rfl rfl rfl | exact opv_gtr rfl rfl rfl | exact opv_geq rfl rfl rfl | exact opv_eql rfl rfl rfl | exact opv_neq rfl rfl rfl) (by first | omega | decide +kernel) ?_
        | refine sl_if rfl rfl rfl (by first | exact opv_lss rfl rfl rfl | exact opv_leq rfl rfl rfl | exact opv_gtr rfl rfl rfl | exact opv_geq rfl rfl rfl | exact opv_eql rfl rfl rfl | exact opv_neq rfl rfl rfl) (fun h => ?_) (fun h => ?_)
        | refine sl_buildSlice rfl rfl rfl rfl rfl (by exact rfl) (by exact rfl) (by exact rfl) (by exact rfl) rfl (fun b => ?_)
        | refine sl_box rfl rfl rfl rfl rfl rfl (fun β => ?_)
        | refine sl_alloc rfl rfl rfl rfl (by exact rfl) (fun β => ?_)
        | refine sl_store rfl rfl rfl rfl rfl rfl (by exact rfl) rfl (by exact rfl) ?_
        | refine swp_true rfl ?_
        | refine swp_false rfl ?_
        | refine swp_block ?_
        | refine swp_ret ?_
        | refine swp_exit ?_
        | refine swp_skip ?_
        | refine thn_ret ?_
        | refine inb_ret ?_
        | refine inb_k ?_
        | refine thn_exit ?_
        | refine inb_exit ?_
        | refine inb_out rfl ?_)
      refine end_pure (resOk_one (resV_tmp rfl)) ?_
      rfl
end Go.Proofs.Ythhlgaaamfeohaa
