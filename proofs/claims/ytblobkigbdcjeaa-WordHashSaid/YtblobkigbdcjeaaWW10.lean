/- The statement WordHash, walked. -/
-- USE_IE
import Derived.Test.YtblobkigbdcjeaaWW9
namespace Go.Proofs.Ytblobkigbdcjeaa
open Go.SL
set_option maxRecDepth 100000
set_option maxHeartbeats 16000000
attribute [local irreducible] T PFn OpV SOL SWP HOp ChU
/-- A word whose hash is this. -/
def Hashed (K : Int) (w : Nat) : Prop := w < 2 ^ 64 ∧ ∃ t o c m g, HMay t o c m g K ∧ (w : Int) = wordN t o c m g K
theorem make_of {K : Int} {w : Nat} (h : Hashed K w) (T O C M G : Int) (hm : HMay T O C M G K) : ∃ v : Nat, Hashed K v ∧ PFn Try.prog 26 [u64 w, hdr T O C M G 0] [] (.tuple #[u64 v, .bool true]) ∧ PFn Try.prog 11 [u64 v] [] (.tuple #[hdr T O C M G K, .bool true]) := by
  obtain ⟨hw, t, o, c, m, g, h1, h2⟩ := h
  obtain ⟨v, b, hv, c1, -, h3, -⟩ := with_cases w hw T O C M G 0
  obtain ⟨rfl, e⟩ := h3 t o c m g K h1 h2 hm
  exact ⟨v, ⟨hv, T, O, C, M, G, hm, e⟩, c1, (open_of hm v hv e).1⟩
structure S6 where
  i : Int
  w : Nat
theorem u16_wrap {z : Int} (h : 0 ≤ z ∧ z ≤ 65535) : IntKind.i64.wrap z = z := wrap64_id (by omega) (by omega)
theorem tmod_range {z m : Int} (h : 0 ≤ z) (hm : 0 < m) : 0 ≤ z.tmod m ∧ z.tmod m ≤ m - 1 := by
  rw [Int.tmod_eq_emod_of_nonneg h]
  have h1 := Int.emod_nonneg z (show m ≠ 0 by omega)
  have h2 := Int.emod_lt_of_pos z hm
  omega
theorem WordHash_calls (t o c m g k : Int) (hS : Heap) (base : Option Addr) (len cap : Nat) (zs : List Int) (hl : zs.length = len * 3) (hlen : len ≤ maxLen) (hwf : ∀ z ∈ zs, 0 ≤ z ∧ z ≤ 65535) (sl : Sl hS base (zs.map (Value.int .u16))) :
    PFn Try.prog 6 [hdr t o c m g k, .slice base len cap] [hS] (.bool true) := by
  have hml : maxLen = 9223372036854775807 := rfl
  obtain ⟨K, hK0, hK1, hK⟩ : ∃ K : Int, 0 ≤ K ∧ K ≤ 16777215 ∧ IntKind.i64.wrap ((IntKind.u64.wrap k).tmod 16777216) = K := by
    obtain ⟨n, hn, e⟩ := wrap_u64_nat k
    rw [e]
    obtain ⟨h1, h2⟩ := tmod_range (show (0 : Int) ≤ n by omega) (show (0 : Int) < 16777216 by decide)
    exact ⟨_, h1, by omega, wrap64_id (by omega) (by omega)⟩
  obtain ⟨w0, hw0, e0, p0, -⟩ := pack_of (show HMay 0 0 0 0 0 K by omega)
  have s0 : Hashed K w0 := ⟨hw0, 0, 0, 0, 0, 0, by omega, e0⟩
  refine pure_of_body Try.func6 rfl (Nat.le_of_ble_eq_true rfl) fun F => ?_
  repeat' (first
    | refine sl_op rfl rfl rfl ((opv_convert rfl rfl).to (congrArg (Value.int .i64) hK)) ?_
    | refine swp_seq ?_
    | (refine gk 0 rfl ?_; first | refine sl_op rfl rfl rfl (by first | exact opv_move rfl rfl | exact opv_assign rfl rfl | exact opv_pick_t rfl rfl rfl | exact opv_pick_f rfl rfl rfl | exact opv_not_t rfl rfl | exact opv_not_f rfl rfl | exact opv_not rfl rfl | exact opv_extract rfl rfl rfl | exact opv_makeFunc rfl rfl rfl) ?_ | refine sl_bool rfl rfl rfl (by first | exact opv_move rfl rfl | exact opv_assign rfl rfl | exact opv_pick_t rfl rfl rfl | exact opv_pick_f rfl rfl rfl | exact opv_not_t rfl rfl | exact opv_not_f rfl rfl | exact opv_not rfl rfl | exact opv_extract rfl rfl rfl | exact opv_makeFunc rfl rfl rfl) (fun h => ?_) (fun h => ?_) | refine sl_pass rfl rfl rfl rfl ?_)
    | (refine gk 1 rfl ?_; first | refine sl_op rfl rfl rfl (by first | exact opv_add64 rfl rfl rfl (by omega) (by omega) | exact opv_sub64 rfl rfl rfl (by omega) (by omega) | exact opv_add rfl rfl rfl | exact opv_sub rfl rfl rfl | exact opv_mul rfl rfl rfl | exact opv_rem rfl rfl rfl (by omega) | exact opv_quo rfl rfl rfl (by omega) | exact opv_shl rfl rfl rfl (by omega) | exact opv_shr rfl rfl rfl (by omega) | exact opv_bits rfl rfl rfl (by decide)) ?_ | refine sl_pass rfl rfl rfl rfl ?_)
    | (refine gk 2 rfl ?_; first | refine sl_pass rfl rfl rfl rfl ?_ | refine sl_yes rfl rfl rfl (by first | exact opv_lss rfl rfl rfl | exact opv_leq rfl rfl rfl | exact opv_gtr rfl rfl rfl | exact opv_geq rfl rfl rfl | exact opv_eql rfl rfl rfl | exact opv_neq rfl rfl rfl) (by first | omega | decide +kernel) ?_ | refine sl_no rfl rfl rfl (by first | exact opv_lss rfl rfl rfl | exact opv_leq rfl rfl rfl | exact opv_gtr rfl rfl rfl | exact opv_geq rfl rfl rfl | exact opv_eql rfl rfl rfl | exact opv_neq rfl rfl rfl) (by first | omega | decide +kernel) ?_ | refine sl_if rfl rfl rfl (by first | exact opv_lss rfl rfl rfl | exact opv_leq rfl rfl rfl | exact opv_gtr rfl rfl rfl | exact opv_geq rfl rfl rfl | exact opv_eql rfl rfl rfl | exact opv_neq rfl rfl rfl) (fun h => ?_) (fun h => ?_) | refine sl_tt rfl rfl rfl (by first | exact opv_eqlB Try.underlying4 rfl rfl rfl | exact opv_neqB Try.underlying4 rfl rfl rfl | exact opv_eqlS rfl rfl rfl rfl | exact opv_neqS rfl rfl rfl rfl) (by first | rfl | assumption) ?_ | refine sl_ff rfl rfl rfl (by first | exact opv_eqlB Try.underlying4 rfl rfl rfl | exact opv_neqB Try.underlying4 rfl rfl rfl | exact opv_eqlS rfl rfl rfl rfl | exact opv_neqS rfl rfl rfl rfl) (by first | rfl | assumption) ?_ | refine sl_bool rfl rfl rfl (by first | exact opv_eqlB Try.underlying4 rfl rfl rfl | exact opv_neqB Try.underlying4 rfl rfl rfl | exact opv_eqlS rfl rfl rfl rfl | exact opv_neqS rfl rfl rfl rfl) (fun h => ?_) (fun h => ?_))
    | (refine gk 3 rfl ?_; first | refine sl_op rfl rfl rfl (by first | exact opv_load rfl (by exact rfl) rfl (by exact rfl) | exact opv_fieldAddr rfl rfl | exact opv_loadA rfl (by exact rfl) rfl (by exact rfl) (by exact rfl) | exact opv_indexAddrI rfl rfl rfl (by omega) (by omega) (by first | omega | (simp only [List.length_map]; omega) | (simp only [List.length_cons, List.length_nil]; omega)) | exact opv_index rfl rfl rfl (by omega) (by omega) (by first | assumption | exact rfl) | exact opv_indexA rfl rfl rfl (by omega) (by omega) (by first | assumption | exact rfl) | exact opv_indexAddrR rfl rfl rfl (by omega) (by omega) | exact opv_indexAddrE rfl rfl rfl (by assumption) (by omega) (by omega) | exact opv_fieldAddrE rfl rfl (by first | assumption | omega) | exact opv_loadELx rfl (by exact rfl) (by infer_instance) rfl rfl rfl | exact opv_loadEx rfl (by exact rfl) (by infer_instance) (by first | assumption | exact rfl) | exact opv_load2 rfl (by exact rfl) (by infer_instance) (by assumption) (by assumption)) ?_ | refine sl_pass rfl rfl rfl rfl ?_)
    | (refine gk 4 rfl ?_; first | refine sl_pass rfl rfl rfl rfl ?_ | refine sl_op rfl rfl rfl (by first | exact opv_len rfl rfl rfl rfl rfl | exact opv_min rfl rfl rfl rfl rfl) ?_ | refine sl_op rfl rfl rfl (opv_call rfl rfl rfl rfl rfl (works_calls)) ?_ | refine sl_op rfl rfl rfl (opv_call rfl rfl rfl rfl rfl (p0)) ?_)
    | (refine gk 5 rfl ?_; first | refine sl_op rfl rfl rfl (by first | exact opv_build rfl rfl (by exact rfl) | exact opv_convert rfl rfl | exact opv_sliceHi rfl rfl rfl (by omega) (by omega) | exact opv_arrayAt rfl rfl rfl rfl) ?_ | refine sl_pass rfl rfl rfl rfl ?_ | refine sl_buildSlice rfl rfl rfl rfl rfl (by exact rfl) (by exact rfl) (by exact rfl) (by exact rfl) rfl (fun b => ?_) | refine sl_box rfl rfl rfl rfl rfl rfl (fun β => ?_) | refine sl_alloc rfl rfl rfl rfl (by exact rfl) (fun β => ?_) | refine sl_store rfl rfl rfl rfl rfl rfl (by exact rfl) rfl (by exact rfl) ?_)
    | refine sl_region rfl ?_
    | refine sl_draw (by kernel_rfl) (by kernel_rfl) rfl ?_
    | refine chu_nil ?_
    | refine chu_q rfl ?_
    | refine chu_f rfl ?_
    | refine chu_r rfl ?_
    | refine chu_new rfl rfl (by first | exact new_alloc rfl (by exact rfl) | exact new_box rfl rfl rfl | exact new_buildSlice rfl rfl (by exact rfl) rfl (by exact rfl) (by exact rfl) rfl) ?_
    | refine chu_rv rfl rfl rfl (fun β => ?_)
    | refine chu_pass rfl rfl rfl rfl ?_
    | refine chu_store rfl rfl rfl rfl rfl rfl (by exact rfl) rfl (by exact rfl) (by exact rfl) ?_
    | refine chu_P rfl rfl rfl rfl rfl rfl rfl rfl (works_calls) rfl ?_
    | refine chu_P rfl rfl rfl rfl rfl rfl rfl rfl (p0) rfl ?_
    | refine sl_nil ?_
    | refine thn_k ?_
    | refine swp_true rfl ?_
    | refine swp_false rfl ?_
    | refine swp_block ?_
    | refine swp_ret ?_
    | refine swp_exit ?_
    | refine swp_skip ?_
    | refine thn_ret ?_
    | refine inb_ret ?_
    | refine inb_k ?_
    | refine thn_exit ?_
    | refine inb_exit ?_
    | refine inb_out rfl ?_)
  refine swp_loopS (fun s : S6 => [(1, .slice base len cap), (5, .pointer (some ⟨β, 0, none⟩)), (6, u64 s.w), (8, i64 s.i)])
    (fun _ => [blk β (.cells ⟨[i64 0, i64 0, i64 0, i64 0, i64 0, i64 K]⟩ 23 (0, 0)), hS]) (fun s => 0 ≤ s.i ∧ s.i ≤ 20 ∧ Hashed K s.w) (fun s => (20 - s.i).toNat) ⟨0, w0⟩ (by repeat first | exact Sub.nil _ | refine Sub.cons rfl ?_) ⟨Int.le_refl 0, by dsimp only; decide, s0⟩ ?_
  rintro ⟨i, w⟩ ⟨hi0, hi1, hw⟩
  dsimp only at hi0 hi1 hw ⊢
  by_cases hi : i < len ∧ i < 20
  · obtain ⟨hia, hib⟩ := hi
    have hb : i.toNat * 3 + 2 < zs.length := by omega
    have hcl : i.toNat * 3 < (zs.map (Value.int .u16)).length := by rw [List.length_map]; omega
    obtain ⟨z0, e0, g0⟩ : ∃ z, (zs.map (Value.int .u16))[i.toNat * 3 + Int.toNat 0 * 1]? = some (.int .u16 z) ∧ 0 ≤ z ∧ z ≤ 65535 := by
      refine ⟨zs[i.toNat * 3], ?_, hwf _ (List.getElem_mem _)⟩
      rw [List.getElem?_map, show i.toNat * 3 + Int.toNat 0 * 1 = i.toNat * 3 from rfl, List.getElem?_eq_getElem (by omega)]; rfl
    obtain ⟨z1, e1, g1⟩ : ∃ z, (zs.map (Value.int .u16))[i.toNat * 3 + Int.toNat 1 * 1]? = some (.int .u16 z) ∧ 0 ≤ z ∧ z ≤ 65535 := by
      refine ⟨zs[i.toNat * 3 + 1], ?_, hwf _ (List.getElem_mem _)⟩
      rw [List.getElem?_map, show i.toNat * 3 + Int.toNat 1 * 1 = i.toNat * 3 + 1 from rfl, List.getElem?_eq_getElem (by omega)]; rfl
    obtain ⟨z2, e2, g2⟩ : ∃ z, (zs.map (Value.int .u16))[i.toNat * 3 + Int.toNat 2 * 1]? = some (.int .u16 z) ∧ 0 ≤ z ∧ z ≤ 65535 := by
      refine ⟨zs[i.toNat * 3 + 2], ?_, hwf _ (List.getElem_mem _)⟩
      rw [List.getElem?_map, show i.toNat * 3 + Int.toNat 2 * 1 = i.toNat * 3 + 2 from rfl, List.getElem?_eq_getElem (by omega)]; rfl
    have w1 := u16_wrap g1
    have w2 := u16_wrap g2
    have m1 := tmod_range g1.1 (show (0 : Int) < 32766 by decide)
    have m2 := tmod_range g2.1 (show (0 : Int) < 256 by decide)
    have m3 := tmod_range g2.1 (show (0 : Int) < 255 by decide)
    have m4 := tmod_range g1.1 (show (0 : Int) < 4096 by decide)
    have m5 := tmod_range g2.1 (show (0 : Int) < 4096 by decide)
    obtain ⟨v1, s1, c1, d1⟩ := make_of hw 1 0 0 0 0 (by omega)
    obtain ⟨v2, s2, c2, d2⟩ := make_of hw 2 (z1.tmod 32766) (z2.tmod 256) 0 0 (by omega)
    obtain ⟨v3, s3, c3, d3⟩ := make_of hw 3 (z1.tmod 32766) (1 + z2.tmod 255) 0 0 (by omega)
    obtain ⟨v4, s4, c4, d4⟩ := make_of hw 4 0 0 (z1.tmod 4096) (z2.tmod 4096) (by omega)
    have f1 := Free_of w v1 true c1
    have f2 := Biased_of w v2 _ _ true c2
    have f3 := Thin_of w v3 _ _ true c3
    have f4 := Fat_of w v4 _ _ true c4
    repeat' (first
      | refine sl_op rfl rfl rfl ((opv_convert rfl rfl).to (congrArg (Value.int .i64) w1)) ?_
      | refine sl_op rfl rfl rfl ((opv_convert rfl rfl).to (congrArg (Value.int .i64) w2)) ?_
      | refine sl_ff rfl rfl rfl (opv_neqS rfl rfl rfl rfl) (by simp) ?_
      | refine swp_seq ?_
      | (refine gk 0 rfl ?_; first | refine sl_op rfl rfl rfl (by first | exact opv_move rfl rfl | exact opv_assign rfl rfl | exact opv_pick_t rfl rfl rfl | exact opv_pick_f rfl rfl rfl | exact opv_not_t rfl rfl | exact opv_not_f rfl rfl | exact opv_not rfl rfl | exact opv_extract rfl rfl rfl | exact opv_makeFunc rfl rfl rfl) ?_ | refine sl_bool rfl rfl rfl (by first | exact opv_move rfl rfl | exact opv_assign rfl rfl | exact opv_pick_t rfl rfl rfl | exact opv_pick_f rfl rfl rfl | exact opv_not_t rfl rfl | exact opv_not_f rfl rfl | exact opv_not rfl rfl | exact opv_extract rfl rfl rfl | exact opv_makeFunc rfl rfl rfl) (fun h => ?_) (fun h => ?_) | refine sl_pass rfl rfl rfl rfl ?_)
      | (refine gk 1 rfl ?_; first | refine sl_op rfl rfl rfl (by first | exact opv_add64 rfl rfl rfl (by omega) (by omega) | exact opv_sub64 rfl rfl rfl (by omega) (by omega) | exact opv_add rfl rfl rfl | exact opv_sub rfl rfl rfl | exact opv_mul rfl rfl rfl | exact opv_rem rfl rfl rfl (by omega) | exact opv_quo rfl rfl rfl (by omega) | exact opv_shl rfl rfl rfl (by omega) | exact opv_shr rfl rfl rfl (by omega) | exact opv_bits rfl rfl rfl (by decide)) ?_ | refine sl_pass rfl rfl rfl rfl ?_)
      | (refine gk 2 rfl ?_; first | refine sl_pass rfl rfl rfl rfl ?_ | refine sl_yes rfl rfl rfl (by first | exact opv_lss rfl rfl rfl | exact opv_leq rfl rfl rfl | exact opv_gtr rfl rfl rfl | exact opv_geq rfl rfl rfl | exact opv_eql rfl rfl rfl | exact opv_neq rfl rfl rfl) (by first | omega | decide +kernel) ?_ | refine sl_no rfl rfl rfl (by first | exact opv_lss rfl rfl rfl | exact opv_leq rfl rfl rfl | exact opv_gtr rfl rfl rfl | exact opv_geq rfl rfl rfl | exact opv_eql rfl rfl rfl | exact opv_neq rfl rfl rfl) (by first | omega | decide +kernel) ?_ | refine sl_if rfl rfl rfl (by first | exact opv_lss rfl rfl rfl | exact opv_leq rfl rfl rfl | exact opv_gtr rfl rfl rfl | exact opv_geq rfl rfl rfl | exact opv_eql rfl rfl rfl | exact opv_neq rfl rfl rfl) (fun h => ?_) (fun h => ?_) | refine sl_tt rfl rfl rfl (by first | exact opv_eqlB Try.underlying4 rfl rfl rfl | exact opv_neqB Try.underlying4 rfl rfl rfl | exact opv_eqlS rfl rfl rfl rfl | exact opv_neqS rfl rfl rfl rfl) (by first | rfl | assumption) ?_ | refine sl_ff rfl rfl rfl (by first | exact opv_eqlB Try.underlying4 rfl rfl rfl | exact opv_neqB Try.underlying4 rfl rfl rfl | exact opv_eqlS rfl rfl rfl rfl | exact opv_neqS rfl rfl rfl rfl) (by first | rfl | assumption) ?_ | refine sl_bool rfl rfl rfl (by first | exact opv_eqlB Try.underlying4 rfl rfl rfl | exact opv_neqB Try.underlying4 rfl rfl rfl | exact opv_eqlS rfl rfl rfl rfl | exact opv_neqS rfl rfl rfl rfl) (fun h => ?_) (fun h => ?_))
      | (refine gk 3 rfl ?_; first | refine sl_op rfl rfl rfl (by first | exact opv_load rfl (by exact rfl) rfl (by exact rfl) | exact opv_fieldAddr rfl rfl | exact opv_loadA rfl (by exact rfl) rfl (by exact rfl) (by exact rfl) | exact opv_indexAddrI rfl rfl rfl (by omega) (by omega) (by first | omega | (simp only [List.length_map]; omega) | (simp only [List.length_cons, List.length_nil]; omega)) | exact opv_index rfl rfl rfl (by omega) (by omega) (by first | assumption | exact rfl) | exact opv_indexA rfl rfl rfl (by omega) (by omega) (by first | assumption | exact rfl) | exact opv_indexAddrR rfl rfl rfl (by omega) (by omega) | exact opv_indexAddrE rfl rfl rfl (by assumption) (by omega) (by omega) | exact opv_fieldAddrE rfl rfl (by first | assumption | omega) | exact opv_loadELx rfl (by exact rfl) (by infer_instance) rfl rfl rfl | exact opv_loadEx rfl (by exact rfl) (by infer_instance) (by first | assumption | exact rfl) | exact opv_load2 rfl (by exact rfl) (by infer_instance) (by assumption) (by assumption)) ?_ | refine sl_pass rfl rfl rfl rfl ?_)
      | (refine gk 4 rfl ?_; first | refine sl_pass rfl rfl rfl rfl ?_ | refine sl_op rfl rfl rfl (by first | exact opv_len rfl rfl rfl rfl rfl | exact opv_min rfl rfl rfl rfl rfl) ?_ | refine sl_op rfl rfl rfl (opv_call rfl rfl rfl rfl rfl (f1)) ?_ | refine sl_op rfl rfl rfl (opv_call rfl rfl rfl rfl rfl (f2)) ?_ | refine sl_op rfl rfl rfl (opv_call rfl rfl rfl rfl rfl (f3)) ?_ | refine sl_op rfl rfl rfl (opv_call rfl rfl rfl rfl rfl (f4)) ?_ | refine sl_op rfl rfl rfl (opv_call rfl rfl rfl rfl rfl (d1)) ?_ | refine sl_op rfl rfl rfl (opv_call rfl rfl rfl rfl rfl (d2)) ?_ | refine sl_op rfl rfl rfl (opv_call rfl rfl rfl rfl rfl (d3)) ?_ | refine sl_op rfl rfl rfl (opv_call rfl rfl rfl rfl rfl (d4)) ?_)
      | (refine gk 5 rfl ?_; first | refine sl_op rfl rfl rfl (by first | exact opv_build rfl rfl (by exact rfl) | exact opv_convert rfl rfl | exact opv_sliceHi rfl rfl rfl (by omega) (by omega) | exact opv_arrayAt rfl rfl rfl rfl) ?_ | refine sl_pass rfl rfl rfl rfl ?_ | refine sl_buildSlice rfl rfl rfl rfl rfl (by exact rfl) (by exact rfl) (by exact rfl) (by exact rfl) rfl (fun b => ?_) | refine sl_box rfl rfl rfl rfl rfl rfl (fun β => ?_) | refine sl_alloc rfl rfl rfl rfl (by exact rfl) (fun β => ?_) | refine sl_store rfl rfl rfl rfl rfl rfl (by exact rfl) rfl (by exact rfl) ?_)
      | refine sl_region rfl ?_
      | refine sl_draw (by kernel_rfl) (by kernel_rfl) rfl ?_
      | refine chu_nil ?_
      | refine chu_q rfl ?_
      | refine chu_f rfl ?_
      | refine chu_r rfl ?_
      | refine chu_new rfl rfl (by first | exact new_alloc rfl (by exact rfl) | exact new_box rfl rfl rfl | exact new_buildSlice rfl rfl (by exact rfl) rfl (by exact rfl) (by exact rfl) rfl) ?_
      | refine chu_rv rfl rfl rfl (fun β => ?_)
      | refine chu_pass rfl rfl rfl rfl ?_
      | refine chu_store rfl rfl rfl rfl rfl rfl (by exact rfl) rfl (by exact rfl) (by exact rfl) ?_
      | refine chu_P rfl rfl rfl rfl rfl rfl rfl rfl (f1) rfl ?_
      | refine chu_P rfl rfl rfl rfl rfl rfl rfl rfl (f2) rfl ?_
      | refine chu_P rfl rfl rfl rfl rfl rfl rfl rfl (f3) rfl ?_
      | refine chu_P rfl rfl rfl rfl rfl rfl rfl rfl (f4) rfl ?_
      | refine chu_P rfl rfl rfl rfl rfl rfl rfl rfl (d1) rfl ?_
      | refine chu_P rfl rfl rfl rfl rfl rfl rfl rfl (d2) rfl ?_
      | refine chu_P rfl rfl rfl rfl rfl rfl rfl rfl (d3) rfl ?_
      | refine chu_P rfl rfl rfl rfl rfl rfl rfl rfl (d4) rfl ?_
      | refine sl_nil ?_
      | refine thn_k ?_
      | refine swp_true rfl ?_
      | refine swp_false rfl ?_
      | refine swp_block ?_
      | refine swp_ret ?_
      | refine swp_exit ?_
      | refine swp_skip ?_
      | refine thn_ret ?_
      | refine inb_ret ?_
      | refine inb_k ?_
      | refine thn_exit ?_
      | refine inb_exit ?_
      | refine inb_out rfl ?_)
    all_goals
      first
        | exact ⟨rfl, ⟨i + 1, v1⟩, next_ok (Sub.cons rfl (Sub.cons rfl (Sub.cons rfl (Sub.cons rfl (Sub.nil _))))), ⟨by dsimp only; omega, by dsimp only; omega, s1⟩, by dsimp only; omega⟩
        | exact ⟨rfl, ⟨i + 1, v2⟩, next_ok (Sub.cons rfl (Sub.cons rfl (Sub.cons rfl (Sub.cons rfl (Sub.nil _))))), ⟨by dsimp only; omega, by dsimp only; omega, s2⟩, by dsimp only; omega⟩
        | exact ⟨rfl, ⟨i + 1, v3⟩, next_ok (Sub.cons rfl (Sub.cons rfl (Sub.cons rfl (Sub.cons rfl (Sub.nil _))))), ⟨by dsimp only; omega, by dsimp only; omega, s3⟩, by dsimp only; omega⟩
        | exact ⟨rfl, ⟨i + 1, v4⟩, next_ok (Sub.cons rfl (Sub.cons rfl (Sub.cons rfl (Sub.cons rfl (Sub.nil _))))), ⟨by dsimp only; omega, by dsimp only; omega, s4⟩, by dsimp only; omega⟩
  · repeat' (first
      | refine swp_seq ?_
      | (refine gk 0 rfl ?_; first | refine sl_op rfl rfl rfl (by first | exact opv_move rfl rfl | exact opv_assign rfl rfl | exact opv_pick_t rfl rfl rfl | exact opv_pick_f rfl rfl rfl | exact opv_not_t rfl rfl | exact opv_not_f rfl rfl | exact opv_not rfl rfl | exact opv_extract rfl rfl rfl | exact opv_makeFunc rfl rfl rfl) ?_ | refine sl_bool rfl rfl rfl (by first | exact opv_move rfl rfl | exact opv_assign rfl rfl | exact opv_pick_t rfl rfl rfl | exact opv_pick_f rfl rfl rfl | exact opv_not_t rfl rfl | exact opv_not_f rfl rfl | exact opv_not rfl rfl | exact opv_extract rfl rfl rfl | exact opv_makeFunc rfl rfl rfl) (fun h => ?_) (fun h => ?_) | refine sl_pass rfl rfl rfl rfl ?_)
      | (refine gk 1 rfl ?_; first | refine sl_op rfl rfl rfl (by first | exact opv_add64 rfl rfl rfl (by omega) (by omega) | exact opv_sub64 rfl rfl rfl (by omega) (by omega) | exact opv_add rfl rfl rfl | exact opv_sub rfl rfl rfl | exact opv_mul rfl rfl rfl | exact opv_rem rfl rfl rfl (by omega) | exact opv_quo rfl rfl rfl (by omega) | exact opv_shl rfl rfl rfl (by omega) | exact opv_shr rfl rfl rfl (by omega) | exact opv_bits rfl rfl rfl (by decide)) ?_ | refine sl_pass rfl rfl rfl rfl ?_)
      | (refine gk 2 rfl ?_; first | refine sl_pass rfl rfl rfl rfl ?_ | refine sl_yes rfl rfl rfl (by first | exact opv_lss rfl rfl rfl | exact opv_leq rfl rfl rfl | exact opv_gtr rfl rfl rfl | exact opv_geq rfl rfl rfl | exact opv_eql rfl rfl rfl | exact opv_neq rfl rfl rfl) (by first | omega | decide +kernel) ?_ | refine sl_no rfl rfl rfl (by first | exact opv_lss rfl rfl rfl | exact opv_leq rfl rfl rfl | exact opv_gtr rfl rfl rfl | exact opv_geq rfl rfl rfl | exact opv_eql rfl rfl rfl | exact opv_neq rfl rfl rfl) (by first | omega | decide +kernel) ?_ | refine sl_if rfl rfl rfl (by first | exact opv_lss rfl rfl rfl | exact opv_leq rfl rfl rfl | exact opv_gtr rfl rfl rfl | exact opv_geq rfl rfl rfl | exact opv_eql rfl rfl rfl | exact opv_neq rfl rfl rfl) (fun h => ?_) (fun h => ?_) | refine sl_tt rfl rfl rfl (by first | exact opv_eqlB Try.underlying4 rfl rfl rfl | exact opv_neqB Try.underlying4 rfl rfl rfl | exact opv_eqlS rfl rfl rfl rfl | exact opv_neqS rfl rfl rfl rfl) (by first | rfl | assumption) ?_ | refine sl_ff rfl rfl rfl (by first | exact opv_eqlB Try.underlying4 rfl rfl rfl | exact opv_neqB Try.underlying4 rfl rfl rfl | exact opv_eqlS rfl rfl rfl rfl | exact opv_neqS rfl rfl rfl rfl) (by first | rfl | assumption) ?_ | refine sl_bool rfl rfl rfl (by first | exact opv_eqlB Try.underlying4 rfl rfl rfl | exact opv_neqB Try.underlying4 rfl rfl rfl | exact opv_eqlS rfl rfl rfl rfl | exact opv_neqS rfl rfl rfl rfl) (fun h => ?_) (fun h => ?_))
      | (refine gk 3 rfl ?_; first | refine sl_op rfl rfl rfl (by first | exact opv_load rfl (by exact rfl) rfl (by exact rfl) | exact opv_fieldAddr rfl rfl | exact opv_loadA rfl (by exact rfl) rfl (by exact rfl) (by exact rfl) | exact opv_indexAddrI rfl rfl rfl (by omega) (by omega) (by first | omega | (simp only [List.length_map]; omega) | (simp only [List.length_cons, List.length_nil]; omega)) | exact opv_index rfl rfl rfl (by omega) (by omega) (by first | assumption | exact rfl) | exact opv_indexA rfl rfl rfl (by omega) (by omega) (by first | assumption | exact rfl) | exact opv_indexAddrR rfl rfl rfl (by omega) (by omega) | exact opv_indexAddrE rfl rfl rfl (by assumption) (by omega) (by omega) | exact opv_fieldAddrE rfl rfl (by first | assumption | omega) | exact opv_loadELx rfl (by exact rfl) (by infer_instance) rfl rfl rfl | exact opv_loadEx rfl (by exact rfl) (by infer_instance) (by first | assumption | exact rfl) | exact opv_load2 rfl (by exact rfl) (by infer_instance) (by assumption) (by assumption)) ?_ | refine sl_pass rfl rfl rfl rfl ?_)
      | (refine gk 4 rfl ?_; first | refine sl_pass rfl rfl rfl rfl ?_ | refine sl_op rfl rfl rfl (by first | exact opv_len rfl rfl rfl rfl rfl | exact opv_min rfl rfl rfl rfl rfl) ?_)
      | (refine gk 5 rfl ?_; first | refine sl_op rfl rfl rfl (by first | exact opv_build rfl rfl (by exact rfl) | exact opv_convert rfl rfl | exact opv_sliceHi rfl rfl rfl (by omega) (by omega) | exact opv_arrayAt rfl rfl rfl rfl) ?_ | refine sl_pass rfl rfl rfl rfl ?_ | refine sl_buildSlice rfl rfl rfl rfl rfl (by exact rfl) (by exact rfl) (by exact rfl) (by exact rfl) rfl (fun b => ?_) | refine sl_box rfl rfl rfl rfl rfl rfl (fun β => ?_) | refine sl_alloc rfl rfl rfl rfl (by exact rfl) (fun β => ?_) | refine sl_store rfl rfl rfl rfl rfl rfl (by exact rfl) rfl (by exact rfl) ?_)
      | refine sl_region rfl ?_
      | refine sl_draw (by kernel_rfl) (by kernel_rfl) rfl ?_
      | refine chu_nil ?_
      | refine chu_q rfl ?_
      | refine chu_f rfl ?_
      | refine chu_r rfl ?_
      | refine chu_new rfl rfl (by first | exact new_alloc rfl (by exact rfl) | exact new_box rfl rfl rfl | exact new_buildSlice rfl rfl (by exact rfl) rfl (by exact rfl) (by exact rfl) rfl) ?_
      | refine chu_rv rfl rfl rfl (fun β => ?_)
      | refine chu_pass rfl rfl rfl rfl ?_
      | refine chu_store rfl rfl rfl rfl rfl rfl (by exact rfl) rfl (by exact rfl) (by exact rfl) ?_
      | refine sl_nil ?_
      | refine thn_k ?_
      | refine swp_true rfl ?_
      | refine swp_false rfl ?_
      | refine swp_block ?_
      | refine swp_ret ?_
      | refine swp_exit ?_
      | refine swp_skip ?_
      | refine thn_ret ?_
      | refine inb_ret ?_
      | refine inb_k ?_
      | refine thn_exit ?_
      | refine inb_exit ?_
      | refine inb_out rfl ?_)
    all_goals
      first
        | (exfalso; omega)
        | exact end_pure (resOk_one (resV_tmp rfl)) rfl
end Go.Proofs.Ytblobkigbdcjeaa
