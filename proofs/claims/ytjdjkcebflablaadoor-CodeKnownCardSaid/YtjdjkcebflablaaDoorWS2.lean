/- Images alike: the document's Same, walked. -/
import Derived.Test.YtjdjkcebflablaaDoorWS1
set_option linter.unusedVariables false
set_option linter.unusedSimpArgs false
set_option linter.unusedSectionVars false
namespace Go.Proofs.YtjdjkcebflablaaDoor
open Go.SL
set_option maxRecDepth 100000
set_option maxHeartbeats 16000000
attribute [local irreducible] SL.T PFn OpV SOL SWP HOp ChU
-- ALIAS Tryd
-- USE_L4
-- USE_L1
theorem kindsSame_calls (J : Heap) (b1 b2 : Option Addr) (n1 n2 c1 c2 : Nat) (l1 l2 : List Int) [Sl J b1 (l1.map i64)] [Sl J b2 (l2.map i64)] (h1 : l1.length = n1) (h2 : l2.length = n2) (hs1 : n1 ≤ 9223372036854775807) (hs2 : n2 ≤ 9223372036854775807) :
    PFn Tryd.prog 44 [.slice b1 n1 c1, .slice b2 n2 c2] [J] (.bool (decide (l1 = l2))) := by
  refine pure_of_body Tryd.func44 rfl (Nat.le_of_ble_eq_true rfl) fun F => ?_
  by_cases hn : n1 = n2
  · obtain rfl := hn
    repeat' (first
      | refine swp_seq ?_
      | (refine gk 0 rfl ?_; first | refine sl_op rfl rfl rfl (by first | exact opv_move rfl rfl | exact opv_assign rfl rfl ) ?_ )
      | (refine gk 2 rfl ?_; first | refine sl_no rfl rfl rfl (by first | exact opv_neq rfl rfl rfl) (by first | omega ) ?_ )
      | (refine gk 4 rfl ?_; first | refine sl_op rfl rfl rfl (by first | exact opv_len rfl rfl rfl rfl rfl ) ?_)
      | refine sl_region rfl ?_
      | refine sl_nil ?_
      | refine thn_k ?_
      | refine swp_false rfl ?_
      | refine swp_block ?_
      | refine swp_skip ?_
      )
    refine swp_loopS (fun j : Nat => [(0, .slice b1 n1 c1), (1, .slice b2 n1 c2), (5, i64 (j : Int))]) (fun _ => [J]) (fun j => j ≤ n1 ∧ l1.take j = l2.take j) (fun j => n1 - j) 0 (by repeat first | exact Sub.nil _ | refine Sub.cons rfl ?_) ⟨Nat.zero_le _, by simp⟩ ?_
    rintro j ⟨hj1, hj2⟩
    by_cases hj : j < n1
    · obtain ⟨x, hx⟩ : ∃ z, l1[j]? = some z := ⟨_, List.getElem?_eq_getElem (by omega)⟩
      obtain ⟨y, hy⟩ : ∃ z, l2[j]? = some z := ⟨_, List.getElem?_eq_getElem (by omega)⟩
      have hk1 : ((j : Nat) : Int).toNat * 1 < (l1.map i64).length := by simp; omega
      have hk2 : ((j : Nat) : Int).toNat * 1 < (l2.map i64).length := by simp; omega
      have hcx : (l1.map i64)[((j : Nat) : Int).toNat * 1]? = some (i64 x) := by simp [hx]
      have hcy : (l2.map i64)[((j : Nat) : Int).toNat * 1]? = some (i64 y) := by simp [hy]
      by_cases hxy : x = y
      · subst hxy
        repeat' (first
          | refine swp_seq ?_
          | (refine gk 0 rfl ?_; first | refine sl_op rfl rfl rfl (by first | exact opv_move rfl rfl | exact opv_assign rfl rfl ) ?_ )
          | (refine gk 1 rfl ?_; first | refine sl_op rfl rfl rfl (by first | exact opv_add64 rfl rfl rfl (by omega) (by omega) ) ?_ )
          | (refine gk 2 rfl ?_; first | refine sl_yes rfl rfl rfl (by first | exact opv_lss rfl rfl rfl | exact opv_neq rfl rfl rfl) (by first | omega ) ?_ | refine sl_no rfl rfl rfl (by first | exact opv_neq rfl rfl rfl) (by first | omega ) ?_ )
          | (refine gk 3 rfl ?_; first | refine sl_op rfl rfl rfl (by first | exact opv_indexAddrI rfl rfl rfl (by omega) (by omega) (by first | omega ) | exact opv_loadEx rfl (by exact rfl) (by infer_instance) (by first | assumption ) ) ?_ )
          | (refine gk 4 rfl ?_; first | refine sl_op rfl rfl rfl (by first | exact opv_len rfl rfl rfl rfl rfl ) ?_)
          | refine sl_region rfl ?_
          | refine sl_draw (by kernel_rfl) (by kernel_rfl) rfl ?_
          | refine sl_nil ?_
          | refine thn_k ?_
          | refine swp_true rfl ?_
          | refine swp_false rfl ?_
          | refine swp_block ?_
          | refine swp_skip ?_
          )
        exact ⟨rfl, j + 1, next_ok (by repeat first | exact Sub.nil _ | refine Sub.cons rfl ?_), ⟨by omega, take_eq hj2 hx hy⟩, by omega⟩
      · repeat' (first
          | refine swp_seq ?_
          | (refine gk 0 rfl ?_; first | refine sl_op rfl rfl rfl (by first | exact opv_move rfl rfl | exact opv_assign rfl rfl ) ?_ )
          | (refine gk 2 rfl ?_; first | refine sl_yes rfl rfl rfl (by first | exact opv_lss rfl rfl rfl | exact opv_neq rfl rfl rfl) (by first | omega ) ?_ )
          | (refine gk 3 rfl ?_; first | refine sl_op rfl rfl rfl (by first | exact opv_indexAddrI rfl rfl rfl (by omega) (by omega) (by first | omega ) | exact opv_loadEx rfl (by exact rfl) (by infer_instance) (by first | assumption ) ) ?_ )
          | (refine gk 4 rfl ?_; first | refine sl_op rfl rfl rfl (by first | exact opv_len rfl rfl rfl rfl rfl ) ?_)
          | refine sl_region rfl ?_
          | refine sl_draw (by kernel_rfl) (by kernel_rfl) rfl ?_
          | refine sl_nil ?_
          | refine thn_k ?_
          | refine swp_true rfl ?_
          | refine swp_block ?_
          | refine swp_ret ?_
          | refine swp_skip ?_
          | refine thn_ret ?_
          | refine inb_ret ?_
          )
        refine end_pure (resOk_one (resV_tmp rfl)) ?_
        rw [decide_eq_false (ne_at hx hy hxy)]
    · rw [List.take_of_length_le (by omega), List.take_of_length_le (by omega)] at hj2
      repeat' (first
        | refine swp_seq ?_
        | (refine gk 0 rfl ?_; first | refine sl_op rfl rfl rfl (by first | exact opv_move rfl rfl | exact opv_assign rfl rfl ) ?_ )
        | (refine gk 2 rfl ?_; first | refine sl_no rfl rfl rfl (by first | exact opv_lss rfl rfl rfl ) (by first | omega ) ?_ )
        | (refine gk 4 rfl ?_; first | refine sl_op rfl rfl rfl (by first | exact opv_len rfl rfl rfl rfl rfl ) ?_)
        | refine sl_region rfl ?_
        | refine sl_nil ?_
        | refine thn_k ?_
        | refine swp_false rfl ?_
        | refine swp_ret ?_
        | refine swp_exit ?_
        )
      refine end_pure (resOk_one (resV_tmp rfl)) ?_
      rw [decide_eq_true hj2]
  · repeat' (first
      | refine swp_seq ?_
      | (refine gk 0 rfl ?_; first | refine sl_op rfl rfl rfl (by first | exact opv_move rfl rfl | exact opv_assign rfl rfl ) ?_ )
      | (refine gk 2 rfl ?_; first | refine sl_yes rfl rfl rfl (by first | exact opv_neq rfl rfl rfl) (by first | omega ) ?_ )
      | (refine gk 4 rfl ?_; first | refine sl_op rfl rfl rfl (by first | exact opv_len rfl rfl rfl rfl rfl ) ?_)
      | refine sl_region rfl ?_
      | refine sl_nil ?_
      | refine thn_k ?_
      | refine swp_true rfl ?_
      | refine swp_ret ?_
      | refine thn_ret ?_
      )
    refine end_pure (resOk_one (resV_tmp rfl)) ?_
    rw [decide_eq_false fun e => hn (by rw [← h1, ← h2, e])]
theorem rSame_calls (J : Heap) (x y : Im) (v w : Value) (hx : ImIn J x v) (hy : ImIn J y w) : PFn Tryd.prog 24 [v, w] [J] (.bool (eqIm x y)) := by
  obtain ⟨b1, n1, c1, m1, k1, e1', rfl, hc1, hm1, -, -⟩ := hx
  obtain ⟨b2, n2, c2, m2, k2, e2', rfl, hc2, hm2, -, -⟩ := hy
  obtain ⟨v1, sv1, hv1, h1, hs1, f1⟩ := hc1
  obtain ⟨v2, sv2, hv2, h2, hs2, f2⟩ := hc2
  obtain ⟨u1, su1, hu1, g1, gs1, q1⟩ := hm1
  obtain ⟨u2, su2, hu2, g2, gs2, q2⟩ := hm2
  haveI := sv1
  haveI := sv2
  haveI := su1
  haveI := su2
  have hno : x ≠ y → eqIm x y = false := fun h => bool_no eqIm_iff h
  refine pure_of_body Tryd.func24 rfl (Nat.le_of_ble_eq_true rfl) fun F => ?_
  by_cases hn : n1 = n2
  · obtain rfl := hn
    by_cases hk : k1 = k2
    · obtain rfl := hk
      repeat' (first
        | refine swp_seq ?_
        | (refine gk 0 rfl ?_; first | refine sl_op rfl rfl rfl (by first | exact opv_move rfl rfl | exact opv_assign rfl rfl | exact opv_pick_f rfl rfl rfl ) ?_ )
        | (refine gk 2 rfl ?_; first | refine sl_no rfl rfl rfl (by first | exact opv_neq rfl rfl rfl) (by first | omega ) ?_ )
        | (refine gk 3 rfl ?_; first | refine sl_op rfl rfl rfl (by first | exact opv_load rfl (by exact rfl) rfl (by exact rfl) | exact opv_fieldAddr rfl rfl ) ?_ )
        | (refine gk 4 rfl ?_; first | refine sl_op rfl rfl rfl (by first | exact opv_len rfl rfl rfl rfl rfl ) ?_)
        | (refine gk 5 rfl ?_; first | refine sl_box rfl rfl rfl rfl rfl rfl (fun β => ?_) )
        | refine sl_region rfl ?_
        | refine sl_nil ?_
        | refine thn_k ?_
        | refine swp_false rfl ?_
        | refine swp_block ?_
        | refine swp_skip ?_
        )
      rename_i βy
      rename Nat => βx
      refine swp_loopS (fun j : Nat => [(2, ptr βy), (3, ptr βx), (5, i64 (j : Int))]) (fun _ => [blk βx (.cells ⟨[.slice b2 n1 c2, .slice m2 k1 e2']⟩ 25 (0, 0)), blk βy (.cells ⟨[.slice b1 n1 c1, .slice m1 k1 e1']⟩ 25 (0, 0)), J]) (fun j => j ≤ n1 ∧ x.cls.take j = y.cls.take j) (fun j => n1 - j) 0 (by repeat first | exact Sub.nil _ | refine Sub.cons rfl ?_) ⟨Nat.zero_le _, by simp⟩ ?_
      rintro j ⟨hj1, hj2⟩
      by_cases hj : j < n1
      · obtain ⟨z, hz⟩ : ∃ z, x.cls[j]? = some z := ⟨_, List.getElem?_eq_getElem (by omega)⟩
        obtain ⟨t, ht⟩ : ∃ z, y.cls[j]? = some z := ⟨_, List.getElem?_eq_getElem (by omega)⟩
        obtain ⟨xb, xn, xc, g1', g2', g3', g4'⟩ := f1 j z hz
        obtain ⟨yb, yn, yc, k1', k2', k3', k4'⟩ := f2 j t ht
        haveI := g2'
        haveI := k2'
        have hk1 : ((j : Nat) : Int).toNat * 1 < v1.length := by simp; omega
        have hk2 : ((j : Nat) : Int).toNat * 1 < v2.length := by simp; omega
        have hcx : v1[((j : Nat) : Int).toNat * 1]? = some (.slice xb xn xc) := by simpa using g1'
        have hcy : v2[((j : Nat) : Int).toNat * 1]? = some (.slice yb yn yc) := by simpa using k1'
        have hcx0 : v1[((j : Nat) : Int).toNat * 1 + 0]? = some (.slice xb xn xc) := by simpa using g1'
        have hcy0 : v2[((j : Nat) : Int).toNat * 1 + 0]? = some (.slice yb yn yc) := by simpa using k1'
        have hr := kindsSame_calls J xb yb xn yn xc yc z t g3' k3' g4' k4'
        by_cases hxy : z = t
        · rw [decide_eq_true hxy] at hr
          subst hxy
          repeat' (first
            | refine swp_seq ?_
            | (refine gk 0 rfl ?_; first | refine sl_op rfl rfl rfl (by first | exact opv_move rfl rfl ) ?_ )
            | (refine gk 2 rfl ?_; first | refine sl_yes rfl rfl rfl (by first | exact opv_lss rfl rfl rfl ) (by first | omega ) ?_ )
            | (refine gk 3 rfl ?_; first | refine sl_op rfl rfl rfl (by first | exact opv_load rfl (by exact rfl) rfl (by exact rfl) | exact opv_fieldAddr rfl rfl ) ?_ )
            | (refine gk 4 rfl ?_; first | refine sl_op rfl rfl rfl (by first | exact opv_len rfl rfl rfl rfl rfl ) ?_)
            | refine sl_region rfl ?_
            | refine sl_nil ?_
            | refine thn_k ?_
            | refine swp_true rfl ?_
            | refine swp_block ?_
            | refine swp_skip ?_
            )
          refine sl_draw (by kernel_rfl) (by kernel_rfl) rfl ?_
          repeat' (first
            | (refine gk 0 rfl ?_; first | refine sl_op rfl rfl rfl (by first | exact opv_move rfl rfl | exact opv_assign rfl rfl | exact opv_not_t rfl rfl ) ?_ )
            | (refine gk 1 rfl ?_; first | refine sl_op rfl rfl rfl (by first | exact opv_add64 rfl rfl rfl (by omega) (by omega) ) ?_ )
            | (refine gk 3 rfl ?_; first | refine sl_op rfl rfl rfl (by first | exact opv_load rfl (by exact rfl) rfl (by exact rfl) | exact opv_fieldAddr rfl rfl | exact opv_indexAddrI rfl rfl rfl (by omega) (by omega) (by first | omega ) | exact opv_fieldAddrE rfl rfl (by first | assumption ) | exact opv_loadEx rfl (by exact rfl) (by infer_instance) (by first | assumption ) ) ?_ )
            | (refine gk 4 rfl ?_; first | refine sl_op rfl rfl rfl (opv_call rfl rfl rfl rfl rfl (hr)) ?_)
            | refine sl_region rfl ?_
            | refine sl_nil ?_
            | refine thn_k ?_
            | refine swp_false rfl ?_
            | refine swp_skip ?_
            )
          exact ⟨rfl, j + 1, next_ok (by repeat first | exact Sub.nil _ | refine Sub.cons rfl ?_), ⟨by omega, take_eq hj2 hz ht⟩, by omega⟩
        · rw [decide_eq_false hxy] at hr
          repeat' (first
            | refine swp_seq ?_
            | (refine gk 0 rfl ?_; first | refine sl_op rfl rfl rfl (by first | exact opv_move rfl rfl ) ?_ )
            | (refine gk 2 rfl ?_; first | refine sl_yes rfl rfl rfl (by first | exact opv_lss rfl rfl rfl ) (by first | omega ) ?_ )
            | (refine gk 3 rfl ?_; first | refine sl_op rfl rfl rfl (by first | exact opv_load rfl (by exact rfl) rfl (by exact rfl) | exact opv_fieldAddr rfl rfl ) ?_ )
            | (refine gk 4 rfl ?_; first | refine sl_op rfl rfl rfl (by first | exact opv_len rfl rfl rfl rfl rfl ) ?_)
            | refine sl_region rfl ?_
            | refine sl_nil ?_
            | refine thn_k ?_
            | refine swp_true rfl ?_
            | refine swp_block ?_
            | refine swp_skip ?_
            )
          refine sl_draw (by kernel_rfl) (by kernel_rfl) rfl ?_
          repeat' (first
            | refine swp_seq ?_
            | (refine gk 0 rfl ?_; first | refine sl_op rfl rfl rfl (by first | exact opv_move rfl rfl | exact opv_assign rfl rfl | exact opv_not_f rfl rfl ) ?_ )
            | (refine gk 3 rfl ?_; first | refine sl_op rfl rfl rfl (by first | exact opv_load rfl (by exact rfl) rfl (by exact rfl) | exact opv_fieldAddr rfl rfl | exact opv_indexAddrI rfl rfl rfl (by omega) (by omega) (by first | omega ) | exact opv_fieldAddrE rfl rfl (by first | assumption ) | exact opv_loadEx rfl (by exact rfl) (by infer_instance) (by first | assumption ) ) ?_ )
            | (refine gk 4 rfl ?_; first | refine sl_op rfl rfl rfl (opv_call rfl rfl rfl rfl rfl (hr)) ?_)
            | refine sl_region rfl ?_
            | refine sl_nil ?_
            | refine thn_k ?_
            | refine swp_true rfl ?_
            | refine swp_ret ?_
            | refine thn_ret ?_
            | refine inb_ret ?_
            )
          refine end_pure (resOk_one (resV_tmp rfl)) ?_
          rw [hno fun e => ne_at hz ht hxy (by rw [e])]
      · rw [List.take_of_length_le (by omega), List.take_of_length_le (by omega)] at hj2
        repeat' (first
          | refine swp_seq ?_
          | (refine gk 0 rfl ?_; first | refine sl_op rfl rfl rfl (by first | exact opv_move rfl rfl | exact opv_assign rfl rfl ) ?_ )
          | (refine gk 2 rfl ?_; first | refine sl_no rfl rfl rfl (by first | exact opv_lss rfl rfl rfl ) (by first | omega ) ?_ )
          | (refine gk 3 rfl ?_; first | refine sl_op rfl rfl rfl (by first | exact opv_load rfl (by exact rfl) rfl (by exact rfl) | exact opv_fieldAddr rfl rfl ) ?_ )
          | (refine gk 4 rfl ?_; first | refine sl_op rfl rfl rfl (by first | exact opv_len rfl rfl rfl rfl rfl ) ?_)
          | refine sl_region rfl ?_
          | refine sl_nil ?_
          | refine thn_k ?_
          | refine swp_false rfl ?_
          | refine swp_block ?_
          | refine swp_exit ?_
          )
        refine swp_loopS (fun j : Nat => [(2, ptr βy), (3, ptr βx), (6, i64 (j : Int))]) (fun _ => [blk βx (.cells ⟨[.slice b2 n1 c2, .slice m2 k1 e2']⟩ 25 (0, 0)), blk βy (.cells ⟨[.slice b1 n1 c1, .slice m1 k1 e1']⟩ 25 (0, 0)), J]) (fun j => j ≤ k1 ∧ x.ms.take j = y.ms.take j) (fun j => k1 - j) 0 (by repeat first | exact Sub.nil _ | refine Sub.cons rfl ?_) ⟨Nat.zero_le _, by simp⟩ ?_
        rintro i ⟨hi1, hi2⟩
        by_cases hi : i < k1
        · obtain ⟨m, hm⟩ : ∃ z, x.ms[i]? = some z := ⟨_, List.getElem?_eq_getElem (by omega)⟩
          obtain ⟨n, hn⟩ : ∃ z, y.ms[i]? = some z := ⟨_, List.getElem?_eq_getElem (by omega)⟩
          obtain ⟨pb, pn, pc, cb, cn, cc, a1, a2, a3, a4, a5, a6, a7, a8, a9, a10, a11⟩ := q1 i m hm
          obtain ⟨qb, qn, qc, db, dn, dc, d1, d2, d3, d4, d5, d6, d7, d8, d9, d10, d11⟩ := q2 i n hn
          haveI := a5
          haveI := a8
          haveI := d5
          haveI := d8
          have hk1 : ((i : Nat) : Int).toNat * 4 < u1.length := by simp; omega
          have hk2 : ((i : Nat) : Int).toNat * 4 < u2.length := by simp; omega
          have hx0 : u1[((i : Nat) : Int).toNat * 4]? = some (.slice pb pn pc) := by simpa using a1
          have hx1 : u1[((i : Nat) : Int).toNat * 4 + 1]? = some (i64 m.lo) := by simpa using a2
          have hx2 : u1[((i : Nat) : Int).toNat * 4 + 2]? = some (i64 m.st) := by simpa using a3
          have hx3 : u1[((i : Nat) : Int).toNat * 4 + 3]? = some (.slice cb cn cc) := by simpa using a4
          have hy0 : u2[((i : Nat) : Int).toNat * 4]? = some (.slice qb qn qc) := by simpa using d1
          have hy1 : u2[((i : Nat) : Int).toNat * 4 + 1]? = some (i64 n.lo) := by simpa using d2
          have hy2 : u2[((i : Nat) : Int).toNat * 4 + 2]? = some (i64 n.st) := by simpa using d3
          have hy3 : u2[((i : Nat) : Int).toNat * 4 + 3]? = some (.slice db dn dc) := by simpa using d4
          have hr := kindsSame_calls J pb qb pn qn pc qc m.params n.params a6 d6 a7 d7
          have hbad : m ≠ n → eqIm x y = false := fun h => hno fun e => ne_at hm hn h (by rw [e])
          repeat' (first
            | refine swp_seq ?_
            | (refine gk 0 rfl ?_; first | refine sl_op rfl rfl rfl (by first | exact opv_move rfl rfl ) ?_ )
            | (refine gk 2 rfl ?_; first | refine sl_yes rfl rfl rfl (by first | exact opv_lss rfl rfl rfl ) (by first | omega ) ?_ )
            | (refine gk 3 rfl ?_; first | refine sl_op rfl rfl rfl (by first | exact opv_load rfl (by exact rfl) rfl (by exact rfl) | exact opv_fieldAddr rfl rfl ) ?_ )
            | (refine gk 4 rfl ?_; first | refine sl_op rfl rfl rfl (by first | exact opv_len rfl rfl rfl rfl rfl ) ?_)
            | refine sl_region rfl ?_
            | refine sl_nil ?_
            | refine thn_k ?_
            | refine swp_true rfl ?_
            | refine swp_block ?_
            | refine swp_skip ?_
            )
          refine sl_drawC [.q [0, 1, 2, 3, 4], .f [5], .r [6], .f [7], .r [8, 9], .an 10, .an 11, .rv 10, .rv 11, .h true 12, .h true 13] [J, blk βx (.cells ⟨[.slice b2 n1 c2, .slice m2 k1 e2']⟩ 25 (0, 0)), blk βy (.cells ⟨[.slice b1 n1 c1, .slice m1 k1 e1']⟩ 25 (0, 0))] (by kernel_rfl) (by kernel_rfl) (by kernel_rfl) (by kernel_rfl) ?_
          repeat' (first
            | refine swp_seq ?_
            | (refine gk 0 rfl ?_; first | refine sl_op rfl rfl rfl (by first | exact opv_move rfl rfl ) ?_ )
            | (refine gk 3 rfl ?_; first | refine sl_op rfl rfl rfl (by first | exact opv_load rfl (by exact rfl) rfl (by exact rfl) | exact opv_fieldAddr rfl rfl | exact opv_indexAddrI rfl rfl rfl (by omega) (by omega) (by first | omega ) | exact opv_load4 rfl (by exact rfl) (by infer_instance) (by assumption) (by assumption) (by assumption) (by assumption) ) ?_ )
            | refine sl_region rfl ?_
            | refine chu_nil ?_
            | refine chu_q rfl ?_
            | refine chu_f rfl ?_
            | refine chu_r rfl ?_
            | refine chu_new rfl rfl (by first | exact new_alloc rfl (by exact rfl) ) ?_
            | refine chu_rv rfl rfl rfl (fun β => ?_)
            | refine chu_store rfl rfl rfl rfl rfl rfl (by exact rfl) rfl (by exact rfl) (by exact rfl) ?_
            | refine sl_nil ?_
            )
          rename_i βm
          rename Nat => βn
          by_cases e1 : m.params = n.params
          · rw [decide_eq_true e1] at hr
            by_cases e2 : m.lo = n.lo
            · by_cases e3 : m.st = n.st
              · by_cases e4 : cn = dn
                · obtain rfl := e4
                  repeat' (first
                    | refine swp_seq ?_
                    | (refine gk 0 rfl ?_; first | refine sl_op rfl rfl rfl (by first | exact opv_move rfl rfl | exact opv_assign rfl rfl | exact opv_pick_f rfl rfl rfl | exact opv_not_t rfl rfl ) ?_ )
                    | (refine gk 2 rfl ?_; first | refine sl_no rfl rfl rfl (by first | exact opv_neq rfl rfl rfl) (by first | omega ) ?_ )
                    | (refine gk 3 rfl ?_; first | refine sl_op rfl rfl rfl (by first | exact opv_load rfl (by exact rfl) rfl (by exact rfl) | exact opv_fieldAddr rfl rfl ) ?_ )
                    | (refine gk 4 rfl ?_; first | refine sl_op rfl rfl rfl (by first | exact opv_len rfl rfl rfl rfl rfl ) ?_ | refine sl_op rfl rfl rfl (opv_call rfl rfl rfl rfl rfl (hr)) ?_)
                    | refine sl_region rfl ?_
                    | refine sl_nil ?_
                    | refine thn_k ?_
                    | refine swp_false rfl ?_
                    | refine swp_block ?_
                    | refine swp_skip ?_
                    )
                  refine swp_loopS (fun k : Nat => [(2, ptr βy), (3, ptr βx), (6, i64 (i : Int)), (7, ptr βm), (8, ptr βn), (9, i64 (k : Int))])
                    (fun _ => [blk βn (.cells ⟨[.slice qb qn qc, i64 n.lo, i64 n.st, .slice db cn dc]⟩ 56 (0, 0)), blk βm (.cells ⟨[.slice pb pn pc, i64 m.lo, i64 m.st, .slice cb cn cc]⟩ 56 (0, 0)), blk βx (.cells ⟨[.slice b2 n1 c2, .slice m2 k1 e2']⟩ 25 (0, 0)), blk βy (.cells ⟨[.slice b1 n1 c1, .slice m1 k1 e1']⟩ 25 (0, 0)), J])
                    (fun k => k ≤ cn ∧ m.code.take k = n.code.take k) (fun k => cn - k) 0 (by repeat first | exact Sub.nil _ | refine Sub.cons rfl ?_) ⟨Nat.zero_le _, by simp⟩ ?_
                  rintro k ⟨hkk1, hkk2⟩
                  by_cases hkk : k < cn
                  · obtain ⟨z, hz⟩ : ∃ z, m.code[k]? = some z := ⟨_, List.getElem?_eq_getElem (by omega)⟩
                    obtain ⟨t, ht⟩ : ∃ z, n.code[k]? = some z := ⟨_, List.getElem?_eq_getElem (by omega)⟩
                    have hl1 : ((k : Nat) : Int).toNat * 3 < (flatI m.code).length := by rw [flatI_length]; omega
                    have hl2 : ((k : Nat) : Int).toNat * 3 < (flatI n.code).length := by rw [flatI_length]; omega
                    obtain ⟨y0, y1, y2⟩ := flatI_at hz
                    obtain ⟨z0, z1, z2⟩ := flatI_at ht
                    have r0 : (flatI m.code)[((k : Nat) : Int).toNat * 3]? = some (i64 z.op) := by simpa using y0
                    have r1 : (flatI m.code)[((k : Nat) : Int).toNat * 3 + 1]? = some (i64 z.a) := by simpa using y1
                    have r2 : (flatI m.code)[((k : Nat) : Int).toNat * 3 + 2]? = some (i64 z.b) := by simpa using y2
                    have s0 : (flatI n.code)[((k : Nat) : Int).toNat * 3]? = some (i64 t.op) := by simpa using z0
                    have s1 : (flatI n.code)[((k : Nat) : Int).toNat * 3 + 1]? = some (i64 t.a) := by simpa using z1
                    have s2 : (flatI n.code)[((k : Nat) : Int).toNat * 3 + 2]? = some (i64 t.b) := by simpa using z2
                    by_cases hzt : z = t
                    · subst hzt
                      repeat' (first
                        | refine sl_ff rfl rfl rfl (opv_neqS rfl rfl rfl rfl) (by simp) ?_
                        | refine swp_seq ?_
                        | (refine gk 0 rfl ?_; first | refine sl_op rfl rfl rfl (by first | exact opv_move rfl rfl | exact opv_assign rfl rfl ) ?_ )
                        | (refine gk 1 rfl ?_; first | refine sl_op rfl rfl rfl (by first | exact opv_add64 rfl rfl rfl (by omega) (by omega) ) ?_ )
                        | (refine gk 2 rfl ?_; first | refine sl_yes rfl rfl rfl (by first | exact opv_lss rfl rfl rfl ) (by first | omega ) ?_ )
                        | (refine gk 3 rfl ?_; first | refine sl_op rfl rfl rfl (by first | exact opv_load rfl (by exact rfl) rfl (by exact rfl) | exact opv_fieldAddr rfl rfl | exact opv_indexAddrI rfl rfl rfl (by omega) (by omega) (by first | omega ) | exact opv_load3 rfl (by exact rfl) (by infer_instance) (by assumption) (by assumption) (by assumption) ) ?_ )
                        | (refine gk 4 rfl ?_; first | refine sl_op rfl rfl rfl (by first | exact opv_len rfl rfl rfl rfl rfl ) ?_)
                        | refine sl_region rfl ?_
                        | refine sl_draw (by kernel_rfl) (by kernel_rfl) rfl ?_
                        | refine sl_nil ?_
                        | refine thn_k ?_
                        | refine swp_true rfl ?_
                        | refine swp_false rfl ?_
                        | refine swp_block ?_
                        | refine swp_skip ?_
                        )
                      exact ⟨rfl, k + 1, next_ok (by repeat first | exact Sub.nil _ | refine Sub.cons rfl ?_), ⟨by omega, take_eq hkk2 hz ht⟩, by omega⟩
                    · have hne : ¬ (z.op = t.op ∧ z.a = t.a ∧ z.b = t.b) := fun ⟨e1, e2, e3⟩ => hzt (by cases z; cases t; simp_all)
                      have hb : (!(decide (z.op = t.op) && (decide (z.a = t.a) && (decide (z.b = t.b) && true)))) = true := by
                        simp only [Bool.and_true, Bool.not_eq_true', Bool.and_eq_false_imp, decide_eq_true_eq, decide_eq_false_iff_not]
                        exact fun e1 e2 e3 => hne ⟨e1, e2, e3⟩
                      have e := hbad fun e => ne_at hz ht hzt (by rw [e])
                      repeat' (first
                        | refine swp_seq ?_
                        | (refine gk 0 rfl ?_; first | refine sl_op rfl rfl rfl (by first | exact opv_move rfl rfl | exact opv_assign rfl rfl ) ?_ )
                        | (refine gk 2 rfl ?_; first | refine sl_yes rfl rfl rfl (by first | exact opv_lss rfl rfl rfl ) (by first | omega ) ?_ | refine sl_tt rfl rfl rfl (by first | exact opv_neqS rfl rfl rfl rfl) (by first | assumption) ?_ )
                        | (refine gk 3 rfl ?_; first | refine sl_op rfl rfl rfl (by first | exact opv_load rfl (by exact rfl) rfl (by exact rfl) | exact opv_fieldAddr rfl rfl | exact opv_indexAddrI rfl rfl rfl (by omega) (by omega) (by first | omega ) | exact opv_load3 rfl (by exact rfl) (by infer_instance) (by assumption) (by assumption) (by assumption) ) ?_ )
                        | (refine gk 4 rfl ?_; first | refine sl_op rfl rfl rfl (by first | exact opv_len rfl rfl rfl rfl rfl ) ?_)
                        | refine sl_region rfl ?_
                        | refine sl_draw (by kernel_rfl) (by kernel_rfl) rfl ?_
                        | refine sl_nil ?_
                        | refine thn_k ?_
                        | refine swp_true rfl ?_
                        | refine swp_block ?_
                        | refine swp_ret ?_
                        | refine swp_skip ?_
                        | refine thn_ret ?_
                        | refine inb_ret ?_
                        )
                      refine end_pure (resOk_one (resV_tmp rfl)) ?_
                      rw [e]
                  · rw [List.take_of_length_le (by omega), List.take_of_length_le (by omega)] at hkk2
                    have e : m = n := by cases m; cases n; simp only at e1 e2 e3 hkk2; rw [e1, e2, e3, hkk2]
                    subst e
                    repeat' (first
                      | refine swp_seq ?_
                      | (refine gk 0 rfl ?_; first | refine sl_op rfl rfl rfl (by first | exact opv_move rfl rfl | exact opv_assign rfl rfl ) ?_ )
                      | (refine gk 1 rfl ?_; first | refine sl_op rfl rfl rfl (by first | exact opv_add64 rfl rfl rfl (by omega) (by omega) ) ?_ )
                      | (refine gk 2 rfl ?_; first | refine sl_no rfl rfl rfl (by first | exact opv_lss rfl rfl rfl ) (by first | omega ) ?_ )
                      | (refine gk 3 rfl ?_; first | refine sl_op rfl rfl rfl (by first | exact opv_load rfl (by exact rfl) rfl (by exact rfl) | exact opv_fieldAddr rfl rfl ) ?_ )
                      | (refine gk 4 rfl ?_; first | refine sl_op rfl rfl rfl (by first | exact opv_len rfl rfl rfl rfl rfl ) ?_)
                      | refine sl_region rfl ?_
                      | refine sl_nil ?_
                      | refine thn_k ?_
                      | refine swp_false rfl ?_
                      | refine swp_exit ?_
                      )
                    exact ⟨rfl, i + 1, next_ok (by repeat first | exact Sub.nil _ | refine Sub.cons rfl ?_), ⟨by omega, take_eq hi2 hm hn⟩, by omega⟩
                · have e := hbad fun e => e4 (by rw [← a9, ← d9, e])
                  repeat' (first
                    | refine swp_seq ?_
                    | (refine gk 0 rfl ?_; first | refine sl_op rfl rfl rfl (by first | exact opv_move rfl rfl | exact opv_assign rfl rfl | exact opv_pick_f rfl rfl rfl | exact opv_not_t rfl rfl ) ?_ )
                    | (refine gk 2 rfl ?_; first | refine sl_yes rfl rfl rfl (by first | exact opv_neq rfl rfl rfl) (by first | omega ) ?_ | refine sl_no rfl rfl rfl (by first | exact opv_neq rfl rfl rfl) (by first | omega ) ?_ )
                    | (refine gk 3 rfl ?_; first | refine sl_op rfl rfl rfl (by first | exact opv_load rfl (by exact rfl) rfl (by exact rfl) | exact opv_fieldAddr rfl rfl ) ?_ )
                    | (refine gk 4 rfl ?_; first | refine sl_op rfl rfl rfl (by first | exact opv_len rfl rfl rfl rfl rfl ) ?_ | refine sl_op rfl rfl rfl (opv_call rfl rfl rfl rfl rfl (hr)) ?_)
                    | refine sl_region rfl ?_
                    | refine sl_nil ?_
                    | refine thn_k ?_
                    | refine swp_true rfl ?_
                    | refine swp_ret ?_
                    | refine thn_ret ?_
                    | refine inb_ret ?_
                    )
                  refine end_pure (resOk_one (resV_tmp rfl)) ?_
                  rw [e]
              · have e := hbad fun e => e3 (by rw [e])
                repeat' (first
                  | refine swp_seq ?_
                  | (refine gk 0 rfl ?_; first | refine sl_op rfl rfl rfl (by first | exact opv_move rfl rfl | exact opv_assign rfl rfl | exact opv_pick_t rfl rfl rfl | exact opv_pick_f rfl rfl rfl | exact opv_not_t rfl rfl ) ?_ )
                  | (refine gk 2 rfl ?_; first | refine sl_pass rfl rfl rfl rfl ?_ | refine sl_yes rfl rfl rfl (by first | exact opv_neq rfl rfl rfl) (by first | omega ) ?_ | refine sl_no rfl rfl rfl (by first | exact opv_neq rfl rfl rfl) (by first | omega ) ?_ )
                  | (refine gk 3 rfl ?_; first | refine sl_op rfl rfl rfl (by first | exact opv_load rfl (by exact rfl) rfl (by exact rfl) | exact opv_fieldAddr rfl rfl ) ?_ | refine sl_pass rfl rfl rfl rfl ?_)
                  | (refine gk 4 rfl ?_; first | refine sl_pass rfl rfl rfl rfl ?_ | refine sl_op rfl rfl rfl (opv_call rfl rfl rfl rfl rfl (hr)) ?_)
                  | refine sl_region rfl ?_
                  | refine sl_nil ?_
                  | refine thn_k ?_
                  | refine swp_true rfl ?_
                  | refine swp_ret ?_
                  | refine thn_ret ?_
                  | refine inb_ret ?_
                  )
                refine end_pure (resOk_one (resV_tmp rfl)) ?_
                rw [e]
            · have e := hbad fun e => e2 (by rw [e])
              repeat' (first
                | refine swp_seq ?_
                | (refine gk 0 rfl ?_; first | refine sl_op rfl rfl rfl (by first | exact opv_move rfl rfl | exact opv_assign rfl rfl | exact opv_pick_t rfl rfl rfl | exact opv_pick_f rfl rfl rfl | exact opv_not_t rfl rfl ) ?_ )
                | (refine gk 2 rfl ?_; first | refine sl_pass rfl rfl rfl rfl ?_ | refine sl_yes rfl rfl rfl (by first | exact opv_neq rfl rfl rfl) (by first | omega ) ?_ )
                | (refine gk 3 rfl ?_; first | refine sl_op rfl rfl rfl (by first | exact opv_load rfl (by exact rfl) rfl (by exact rfl) | exact opv_fieldAddr rfl rfl ) ?_ | refine sl_pass rfl rfl rfl rfl ?_)
                | (refine gk 4 rfl ?_; first | refine sl_pass rfl rfl rfl rfl ?_ | refine sl_op rfl rfl rfl (opv_call rfl rfl rfl rfl rfl (hr)) ?_)
                | refine sl_region rfl ?_
                | refine sl_nil ?_
                | refine thn_k ?_
                | refine swp_true rfl ?_
                | refine swp_ret ?_
                | refine thn_ret ?_
                | refine inb_ret ?_
                )
              refine end_pure (resOk_one (resV_tmp rfl)) ?_
              rw [e]
          · rw [decide_eq_false e1] at hr
            have e := hbad fun e => e1 (by rw [e])
            repeat' (first
              | refine swp_seq ?_
              | (refine gk 0 rfl ?_; first | refine sl_op rfl rfl rfl (by first | exact opv_move rfl rfl | exact opv_assign rfl rfl | exact opv_pick_t rfl rfl rfl | exact opv_not_f rfl rfl ) ?_ )
              | (refine gk 2 rfl ?_; first | refine sl_pass rfl rfl rfl rfl ?_ )
              | (refine gk 3 rfl ?_; first | refine sl_pass rfl rfl rfl rfl ?_)
              | (refine gk 4 rfl ?_; first | refine sl_pass rfl rfl rfl rfl ?_ | refine sl_op rfl rfl rfl (opv_call rfl rfl rfl rfl rfl (hr)) ?_)
              | refine sl_region rfl ?_
              | refine sl_nil ?_
              | refine thn_k ?_
              | refine swp_true rfl ?_
              | refine swp_ret ?_
              | refine thn_ret ?_
              | refine inb_ret ?_
              )
            refine end_pure (resOk_one (resV_tmp rfl)) ?_
            rw [e]
        · rw [List.take_of_length_le (by omega), List.take_of_length_le (by omega)] at hi2
          repeat' (first
            | refine swp_seq ?_
            | (refine gk 0 rfl ?_; first | refine sl_op rfl rfl rfl (by first | exact opv_move rfl rfl | exact opv_assign rfl rfl ) ?_ )
            | (refine gk 2 rfl ?_; first | refine sl_no rfl rfl rfl (by first | exact opv_lss rfl rfl rfl ) (by first | omega ) ?_ )
            | (refine gk 3 rfl ?_; first | refine sl_op rfl rfl rfl (by first | exact opv_load rfl (by exact rfl) rfl (by exact rfl) | exact opv_fieldAddr rfl rfl ) ?_ )
            | (refine gk 4 rfl ?_; first | refine sl_op rfl rfl rfl (by first | exact opv_len rfl rfl rfl rfl rfl ) ?_)
            | refine sl_region rfl ?_
            | refine sl_nil ?_
            | refine thn_k ?_
            | refine swp_false rfl ?_
            | refine swp_ret ?_
            | refine swp_exit ?_
            )
          refine end_pure (resOk_one (resV_tmp rfl)) ?_
          rw [eqIm_iff.2 (show x = y by cases x; cases y; simp only at hj2 hi2; rw [hj2, hi2])]
    · repeat' (first
        | refine swp_seq ?_
        | (refine gk 0 rfl ?_; first | refine sl_op rfl rfl rfl (by first | exact opv_move rfl rfl | exact opv_assign rfl rfl | exact opv_pick_f rfl rfl rfl ) ?_ )
        | (refine gk 2 rfl ?_; first | refine sl_yes rfl rfl rfl (by first | exact opv_neq rfl rfl rfl) (by first | omega ) ?_ | refine sl_no rfl rfl rfl (by first | exact opv_neq rfl rfl rfl) (by first | omega ) ?_ )
        | (refine gk 3 rfl ?_; first | refine sl_op rfl rfl rfl (by first | exact opv_load rfl (by exact rfl) rfl (by exact rfl) | exact opv_fieldAddr rfl rfl ) ?_ )
        | (refine gk 4 rfl ?_; first | refine sl_op rfl rfl rfl (by first | exact opv_len rfl rfl rfl rfl rfl ) ?_)
        | (refine gk 5 rfl ?_; first | refine sl_box rfl rfl rfl rfl rfl rfl (fun β => ?_) )
        | refine sl_region rfl ?_
        | refine sl_nil ?_
        | refine thn_k ?_
        | refine swp_true rfl ?_
        | refine swp_ret ?_
        | refine thn_ret ?_
        )
      refine end_pure (resOk_one (resV_tmp rfl)) ?_
      rw [hno fun e => hk (by rw [← g1, ← g2, e])]
  · repeat' (first
      | refine swp_seq ?_
      | (refine gk 0 rfl ?_; first | refine sl_op rfl rfl rfl (by first | exact opv_move rfl rfl | exact opv_assign rfl rfl | exact opv_pick_t rfl rfl rfl ) ?_ )
      | (refine gk 2 rfl ?_; first | refine sl_pass rfl rfl rfl rfl ?_ | refine sl_yes rfl rfl rfl (by first | exact opv_neq rfl rfl rfl) (by first | omega ) ?_ )
      | (refine gk 3 rfl ?_; first | refine sl_op rfl rfl rfl (by first | exact opv_load rfl (by exact rfl) rfl (by exact rfl) | exact opv_fieldAddr rfl rfl ) ?_ | refine sl_pass rfl rfl rfl rfl ?_)
      | (refine gk 4 rfl ?_; first | refine sl_pass rfl rfl rfl rfl ?_ | refine sl_op rfl rfl rfl (by first | exact opv_len rfl rfl rfl rfl rfl ) ?_)
      | (refine gk 5 rfl ?_; first | refine sl_box rfl rfl rfl rfl rfl rfl (fun β => ?_) )
      | refine sl_region rfl ?_
      | refine sl_nil ?_
      | refine thn_k ?_
      | refine swp_true rfl ?_
      | refine swp_ret ?_
      | refine thn_ret ?_
      )
    refine end_pure (resOk_one (resV_tmp rfl)) ?_
    rw [hno fun e => hn (by rw [← h1, ← h2, e])]
end Go.Proofs.YtjdjkcebflablaaDoor
