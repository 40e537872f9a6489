/- The law CodeKnown, walked. -/
import Derived.Test.YtjdjkcebflablaaDoorWU1
import Derived.Test.YtjdjkcebflablaaDoorWU3
set_option linter.unusedVariables false
set_option linter.unusedSimpArgs false
set_option linter.unusedSectionVars false
namespace Go.Proofs.YtjdjkcebflablaaDoor
open Go.SL
set_option maxRecDepth 100000
set_option maxHeartbeats 16000000
attribute [local irreducible] SL.T PFn OpV SOL SWP HOp ChU DZ.ChU
-- ALIAS Tryd
-- USE_L1
-- USE_L4
theorem least_pre : SL.T Tryd.prog 16 [] [] fun e o => ∃ b1 b2 : Nat, o = [blk b1 (.cells ⟨[i64 20, i64 0, i64 0]⟩ 58 (0, 0)), blk b2 (.cells ⟨[.slice none 0 0, i64 0, i64 0, .slice (some ⟨b1, 0, none⟩) 1 1]⟩ 56 (0, 0))] ∧ e = .returned (.tuple ⟨[.agg ⟨[.slice none 0 0, .slice (some ⟨b2, 0, none⟩) 1 1]⟩, str leastB]⟩) := by
  refine t_of_body Tryd.func16 rfl (Nat.le_of_ble_eq_true rfl) fun F => ?_
  repeat' (first
    | refine swp_seq ?_
    | (refine gk 0 rfl ?_; first | refine sl_op rfl rfl rfl (by first | exact opv_assign rfl rfl ) ?_ )
    | (refine gk 5 rfl ?_; first | refine sl_op rfl rfl rfl (by first | exact opv_build rfl rfl (by exact rfl) ) ?_ | refine sl_buildSlice rfl rfl rfl rfl rfl (by exact rfl) (by exact rfl) (by exact rfl) (by exact rfl) rfl (fun b => ?_) | refine sl_alloc rfl rfl rfl rfl (by exact rfl) (fun β => ?_) | refine sl_store rfl rfl rfl rfl rfl rfl (by exact rfl) rfl (by exact rfl) ?_)
    | refine sl_region rfl ?_
    | refine sl_nil ?_
    | refine thn_k ?_
    | refine swp_ret ?_
    )
  rename_i b1
  exact end_retZ [blk b1 (.cells ⟨[i64 20, i64 0, i64 0]⟩ 58 (0, 0)), blk b (.cells ⟨[.slice none 0 0, i64 0, i64 0, .slice (some ⟨b1, 0, none⟩) 1 1]⟩ 56 (0, 0))] (resOk_two (resV_cellA rfl rfl rfl rfl) (resV_tmp rfl)) ⟨b1, b, rfl, rfl⟩
structure U2S where
  j : Nat
  h : Heap
  K : Heap
  vals : List Value
structure U3S where
  j : Nat
  h : Heap
  hc : Heap
  K : Heap
  ms : List Me
  vals : List Value
abbrev c0v : List Value := [i64 16, i64 0, i64 1, i64 2, i64 3, i64 4, i64 5, i64 6]
theorem succ_bits {ops : Array Oper} (h : (nw17.all fun i => (succ17 i).all fun j => ((SL.bits ops.toList []).getD j 0).testBit i) = true) {i j : Nat} (hi : i ∈ nw17) (hj : (succ17 i).contains j = true) : ((SL.bits ops.toList []).getD j 0).testBit i = true := by
  have h1 := List.all_eq_true.1 h i hi
  exact List.all_eq_true.1 h1 j (by simpa using hj)
theorem CodeKnown_calls (J : Heap) [sg : Ges J] : PFn Tryd.prog 5 [] [J] (.bool true) := by
  refine pure_of_body Tryd.func5 rfl (Nat.le_of_ble_eq_true rfl) fun F => ?_
  repeat' (first
    | refine swp_seq ?_
    | (refine gk 0 rfl ?_; first | refine sl_op rfl rfl rfl (by first | exact opv_move rfl rfl | exact opv_assign rfl rfl | exact opv_extract rfl rfl rfl ) ?_ )
    | (refine gk 4 rfl ?_; first | (refine sl_callT rfl rfl rfl rfl rfl rfl rfl rfl (least_pre) ?_; rintro _ _ ⟨b1, b2, rfl, rfl⟩; refine ⟨_, _, rfl, rfl, ?_⟩))
    | (refine gk 5 rfl ?_; first | refine sl_alloc rfl rfl rfl rfl (by exact rfl) (fun β => ?_) | refine sl_store rfl rfl rfl rfl rfl rfl (by exact rfl) rfl (by exact rfl) ?_)
    | refine sl_region rfl ?_
    | refine sl_nil ?_
    )
  refine sl_drawC [.an 0, .an 1, .an 3, .rv 0, .rv 1, .q [2], .rv 3, .h true 4] [] (by kernel_rfl) (by kernel_rfl) (by kernel_rfl) (by kernel_rfl) ?_
  repeat' (first
    | refine swp_seq ?_
    | (refine gk 0 rfl ?_; first | refine sl_op rfl rfl rfl (by first | exact opv_assign rfl rfl ) ?_ )
    | (refine gk 5 rfl ?_; first | refine sl_op rfl rfl rfl (by first | exact opv_build rfl rfl (by exact rfl) ) ?_ )
    | refine sl_region rfl ?_
    | refine chu_nil ?_
    | refine chu_q rfl ?_
    | refine chu_new rfl rfl (by first | exact new_alloc rfl (by exact rfl) ) ?_
    | refine chu_rv rfl rfl rfl (fun β => ?_)
    | refine chu_store rfl rfl rfl rfl rfl rfl (by exact rfl) rfl (by exact rfl) (by exact rfl) ?_
    | refine chu_new rfl rfl (new_makeSliceW (m := 16) rfl rfl rfl (by exact rfl) (by exact rfl) (by omega) (by omega) (by omega)) ?_
    | refine chu_new rfl rfl (new_makeSliceW (m := 32) rfl rfl rfl (by exact rfl) (by exact rfl) (by omega) (by omega) (by omega)) ?_
    | refine sl_nil ?_
    | refine thn_k ?_
    | refine swp_block ?_
    )
  rename_i βx βC βM
  rename Nat => βf
  refine swp_emp ?_
  refine swp_loopD (fun t : U2S => [(1, ptr βx), (2, str leastB), (3, ptr βf), (4, i64 (t.j : Int))])
    (fun t => [t.K, t.h, blk βf (.cells ⟨[.slice (some ⟨βC, 0, none⟩) 16 16, .slice (some ⟨βM, 0, none⟩) 32 32]⟩ 25 (0, 0)), blk βM (.cells ⟨(List.replicate 32 [nilS, i64 0, i64 0, nilS]).flatten⟩ 56 (0, 0)), blk βx (.cells ⟨[nilS, .slice (some ⟨b2, 0, none⟩) 1 1]⟩ 25 (0, 0)), blk b1 (.cells ⟨[i64 20, i64 0, i64 0]⟩ 58 (0, 0)), blk b2 (.cells ⟨[nilS, i64 0, i64 0, .slice (some ⟨b1, 0, none⟩) 1 1]⟩ 56 (0, 0)), J])
    (fun t => t.j ≤ 16 ∧ OS t.h (some ⟨βC, 0, none⟩) 16 16 53 1 (t.vals ++ List.replicate (16 - t.j) nilS) ∧ t.vals.length = t.j ∧ ClsP t.K (List.replicate t.j cls0) t.vals) (fun t => 16 - t.j)
    ⟨0, blk βC (.cells ⟨(List.replicate 16 [nilS]).flatten⟩ 53 (0, 0)), emp, []⟩ (by repeat first | exact Sub.nil _ | refine Sub.cons rfl ?_) ⟨Nat.zero_le _, OS.blk rfl, rfl, ClsP.nil⟩ ?_
  rintro ⟨j, h, K, vals⟩ ⟨hj, os, hvl, hP⟩
  dsimp only at hj os hvl hP ⊢
  haveI slC := os.sl
  have hcl := os.hlen
  by_cases hj2 : j < 16
  · have hset : ∀ v, (vals ++ List.replicate (16 - j) nilS).take (((j : Nat) : Int).toNat * 1 + 0) ++ [v] ++ (vals ++ List.replicate (16 - j) nilS).drop (((j : Nat) : Int).toNat * 1 + 0 + 1) = (vals ++ [v]) ++ List.replicate (16 - (j + 1)) nilS := fun v => set_one hvl hj2 (by simp)
    repeat' (first
      | refine sl_storeE rfl rfl rfl rfl rfl os rfl rfl rfl (Nat.succ_pos _) (by dsimp only [List.length_cons, List.length_nil]; omega) (hset _) (fun h' os' => ?_)
      | refine swp_seq ?_
      | (refine gk 0 rfl ?_; first | refine sl_op rfl rfl rfl (by first | exact opv_move rfl rfl | exact opv_assign rfl rfl ) ?_ )
      | (refine gk 1 rfl ?_; first | refine sl_op rfl rfl rfl (by first | exact opv_add64 rfl rfl rfl (by omega) (by omega) ) ?_ )
      | (refine gk 2 rfl ?_; first | refine sl_yes rfl rfl rfl (by first | exact opv_lss rfl rfl rfl ) (by first | omega ) ?_ )
      | (refine gk 3 rfl ?_; first | refine sl_op rfl rfl rfl (by first | exact opv_load rfl (by exact rfl) rfl (by exact rfl) | exact opv_fieldAddr rfl rfl | exact opv_indexAddrI rfl rfl rfl (by omega) (by omega) (by first | omega ) ) ?_ )
      | (refine gk 5 rfl ?_; first | refine sl_buildSlice rfl rfl rfl rfl rfl (by exact rfl) (by exact rfl) (by exact rfl) (by exact rfl) rfl (fun b => ?_) )
      | refine sl_region rfl ?_
      | refine sl_nil ?_
      | refine thn_k ?_
      | refine swp_true rfl ?_
      | refine swp_block ?_
      | refine swp_skip ?_
      )
    intro hd
    have dj : Disj (blk b (.cells ⟨c0v⟩ 50 (0, 0))) K := disj_of hd
    refine ⟨rfl, ⟨j + 1, h', join (blk b (.cells ⟨c0v⟩ 50 (0, 0))) K, vals ++ [.slice (some ⟨b, 0, none⟩) 8 8]⟩, next_join (h := blk b (.cells ⟨c0v⟩ 50 (0, 0))) (k := K) (by repeat first | exact Sub.nil _ | refine Sub.cons rfl ?_), ⟨by dsimp only; omega, os', by simp [hvl], ?_⟩, by dsimp only; omega⟩
    dsimp only
    rw [List.replicate_succ']
    exact (hP.mono (join_right dj)).snoc (Sl.blk.mono join_left) rfl (by decide)
  · obtain rfl : j = 16 := by omega
    rw [Nat.sub_self, List.replicate_zero, List.append_nil] at os
    clear hcl slC
    refine swp_emp ?_
    refine swp_emp ?_
    repeat' (first
      | refine swp_seq ?_
      | (refine gk 0 rfl ?_; first | refine sl_op rfl rfl rfl (by first | exact opv_move rfl rfl | exact opv_assign rfl rfl ) ?_ )
      | (refine gk 2 rfl ?_; first | refine sl_no rfl rfl rfl (by first | exact opv_lss rfl rfl rfl ) (by first | omega ) ?_ )
      | refine sl_region rfl ?_
      | refine sl_nil ?_
      | refine thn_k ?_
      | refine swp_false rfl ?_
      | refine swp_block ?_
      | refine swp_exit ?_
      )
    refine swp_loopD (fun t : U3S => [(1, ptr βx), (2, str leastB), (3, ptr βf), (5, i64 (t.j : Int))])
      (fun t => [t.K, t.h, t.hc, blk βf (.cells ⟨[.slice (some ⟨βC, 0, none⟩) 16 16, .slice (some ⟨βM, 0, none⟩) 32 32]⟩ 25 (0, 0)), K, h, blk βx (.cells ⟨[nilS, .slice (some ⟨b2, 0, none⟩) 1 1]⟩ 25 (0, 0)), blk b1 (.cells ⟨[i64 20, i64 0, i64 0]⟩ 58 (0, 0)), blk b2 (.cells ⟨[nilS, i64 0, i64 0, .slice (some ⟨b1, 0, none⟩) 1 1]⟩ 56 (0, 0)), J])
      (fun t => t.j ≤ 32 ∧ OS t.h (some ⟨βM, 0, none⟩) 32 32 56 4 (t.vals ++ (List.replicate (32 - t.j) [nilS, i64 0, i64 0, nilS]).flatten) ∧ t.vals.length = t.j * 4 ∧ t.ms = List.replicate t.j m0 ∧ MsX t.K t.hc t.ms t.vals) (fun t => 32 - t.j)
      ⟨0, blk βM (.cells ⟨(List.replicate 32 [nilS, i64 0, i64 0, nilS]).flatten⟩ 56 (0, 0)), emp, emp, [], []⟩ (by repeat first | exact Sub.nil _ | refine Sub.cons rfl ?_) ⟨Nat.zero_le _, OS.blk rfl, rfl, rfl, MsX.nil⟩ ?_
    rintro ⟨i, hM, hc, K2, ms, vm⟩ ⟨hi, osM, hvm, hms, hX⟩
    dsimp only at hi osM hvm hms hX ⊢
    subst hms
    haveI slM := osM.sl
    have hcm := osM.hlen
    by_cases hi2 : i < 32
    · have hset : ∀ v : List Value, v.length = 4 → (vm ++ (List.replicate (32 - i) [nilS, i64 0, i64 0, nilS]).flatten).take (((i : Nat) : Int).toNat * 4) ++ v ++ (vm ++ (List.replicate (32 - i) [nilS, i64 0, i64 0, nilS]).flatten).drop (((i : Nat) : Int).toNat * 4 + 4) = (vm ++ v) ++ (List.replicate (32 - (i + 1)) [nilS, i64 0, i64 0, nilS]).flatten := fun v hv => set_four rfl hv hvm hi2 (by simp)
      repeat' (first
        | refine swp_seq ?_
        | (refine gk 0 rfl ?_; first | refine sl_op rfl rfl rfl (by first | exact opv_move rfl rfl ) ?_ )
        | (refine gk 2 rfl ?_; first | refine sl_yes rfl rfl rfl (by first | exact opv_lss rfl rfl rfl ) (by first | omega ) ?_ )
        | refine sl_region rfl ?_
        | refine sl_nil ?_
        | refine thn_k ?_
        | refine swp_true rfl ?_
        | refine swp_block ?_
        | refine swp_skip ?_
        )
      refine sl_drawC [.q [0, 1, 2], .an 3, .rv 3, .q [4, 5], .h true 6] [blk βf (.cells ⟨[.slice (some ⟨βC, 0, none⟩) 16 16, .slice (some ⟨βM, 0, none⟩) 32 32]⟩ 25 (0, 0))] (by kernel_rfl) (by kernel_rfl) (by kernel_rfl) (by kernel_rfl) ?_
      repeat' (first
        | (refine gk 0 rfl ?_; first | refine sl_op rfl rfl rfl (by first | exact opv_move rfl rfl | exact opv_assign rfl rfl ) ?_ )
        | (refine gk 1 rfl ?_; first | refine sl_op rfl rfl rfl (by first | exact opv_add64 rfl rfl rfl (by omega) (by omega) ) ?_ )
        | (refine gk 3 rfl ?_; first | refine sl_op rfl rfl rfl (by first | exact opv_load rfl (by exact rfl) rfl (by exact rfl) | exact opv_fieldAddr rfl rfl | exact opv_indexAddrI rfl rfl rfl (by omega) (by omega) (by first | omega ) ) ?_ )
        | (refine gk 5 rfl ?_; first | refine sl_op rfl rfl rfl (by first | exact opv_build rfl rfl (by exact rfl) ) ?_ )
        | refine sl_region rfl ?_
        | refine chu_nil ?_
        | refine chu_q rfl ?_
        | refine chu_rv rfl rfl rfl (fun β => ?_)
        | refine chu_new rfl rfl (new_makeSliceW (m := 256) rfl rfl rfl (by exact rfl) (by exact rfl) (by omega) (by omega) (by omega)) ?_
        | refine chu_storeE rfl rfl rfl rfl rfl rfl osM rfl rfl rfl (Nat.succ_pos _) (by dsimp only [List.length_cons, List.length_nil]; omega) (hset _ rfl) (fun h' os' => ?_)
        | refine sl_nil ?_
        | refine thn_k ?_
        )
      intro hd
      have hslz : Sl (blk β (.cells ⟨(List.replicate 256 [i64 0, i64 0, i64 0]).flatten⟩ 58 (0, 0))) (some ⟨β, 0, none⟩) (flatI m0.code) := by rw [show flatI m0.code = _ from flatI_zeros 256]; exact Sl.blk
      have hosz : OS (blk β (.cells ⟨(List.replicate 256 [i64 0, i64 0, i64 0]).flatten⟩ 58 (0, 0))) (some ⟨β, 0, none⟩) 256 256 58 3 (flatI m0.code) := by rw [show flatI m0.code = _ from flatI_zeros 256]; exact OS.blk (by simp)
      have hpz : ∀ H, Sl H none (m0.params.map i64) := fun H => ⟨fun k v h => by simp [m0] at h⟩
      have hml : (List.replicate i m0).length = i := List.length_replicate
      by_cases h1 : i = 1
      · refine ⟨rfl, ⟨i + 1, h', (blk β (.cells ⟨(List.replicate 256 [i64 0, i64 0, i64 0]).flatten⟩ 58 (0, 0))), K2, List.replicate (i + 1) m0, _⟩, next_ok (by repeat first | exact Sub.nil _ | refine Sub.cons rfl ?_), ⟨by dsimp only; omega, os', by simp [hvm]; omega, rfl, ?_⟩, by dsimp only; omega⟩
        dsimp only
        rw [show List.replicate (i + 1) m0 = List.replicate i m0 ++ [m0] from List.replicate_succ']
        exact hX.snocN (pc := 0) (cc := 256) rfl rfl rfl List.length_replicate (hpz _) (by decide) (by decide) (by decide) (fun e => absurd (hml.trans h1) e) (fun _ => hosz)
      · have dj : Disj (blk β (.cells ⟨(List.replicate 256 [i64 0, i64 0, i64 0]).flatten⟩ 58 (0, 0))) K2 := disj_of hd
        refine ⟨rfl, ⟨i + 1, h', hc, join (blk β (.cells ⟨(List.replicate 256 [i64 0, i64 0, i64 0]).flatten⟩ 58 (0, 0))) K2, List.replicate (i + 1) m0, _⟩, next_join (h := (blk β (.cells ⟨(List.replicate 256 [i64 0, i64 0, i64 0]).flatten⟩ 58 (0, 0)))) (k := K2) (by repeat first | exact Sub.nil _ | refine Sub.cons rfl ?_), ⟨by dsimp only; omega, os', by simp [hvm]; omega, rfl, ?_⟩, by dsimp only; omega⟩
        dsimp only
        rw [show List.replicate (i + 1) m0 = List.replicate i m0 ++ [m0] from List.replicate_succ']
        exact (hX.mono (join_right dj)).snocN (pc := 0) (cc := 256) rfl rfl rfl List.length_replicate (hpz _) (by decide) (by decide) (by decide) (fun _ => ⟨hslz.mono join_left, rfl⟩) (fun e => absurd (hml.symm.trans e) h1)
    · obtain rfl : i = 32 := by omega
      rw [Nat.sub_self, List.replicate_zero, List.flatten_nil, List.append_nil] at osM
      clear hcm slM
      generalize hbM : (some (⟨βM, 0, none⟩ : Addr)) = bM at osM ⊢
      haveI slM := osM.sl
      have hcm := osM.hlen
      obtain ⟨pb1, pc1, cb1, cc1, x1, x2, x3, x4, x5, x6, x7, x8, -, x10⟩ := hX.2.2 1 m0 (by rw [List.getElem?_replicate]; rfl)
      have osc : OS hc cb1 256 cc1 58 3 (flatI m0.code) := x10 rfl
      haveI slc := osc.sl
      have hfl : (flatI m0.code).length = 768 := by rw [flatI_length]; rfl
      have hs31 : ∀ v, vm.take ((31 : Int).toNat * 4 + 0) ++ [v] ++ vm.drop ((31 : Int).toNat * 4 + 0 + 1) = vm.set 124 v := fun v => by
        rw [List.set_eq_take_append_cons_drop, if_pos (by omega)]
        simp
      repeat' (first
        | refine swp_seq ?_
        | (refine gk 0 rfl ?_; first | refine sl_op rfl rfl rfl (by first | exact opv_move rfl rfl ) ?_ )
        | (refine gk 2 rfl ?_; first | refine sl_no rfl rfl rfl (by first | exact opv_lss rfl rfl rfl ) (by first | omega ) ?_ )
        | refine sl_region rfl ?_
        | refine sl_nil ?_
        | refine thn_k ?_
        | refine swp_false rfl ?_
        | refine swp_exit ?_
        )
      refine sl_drawC [.q [0, 1], .an 2, .rv 2, .q [3, 4], .h true 5] [blk βf (.cells ⟨[.slice (some ⟨βC, 0, none⟩) 16 16, .slice bM 32 32]⟩ 25 (0, 0))] (by kernel_rfl) (by kernel_rfl) (by kernel_rfl) (by kernel_rfl) ?_
      repeat' ((fail_if_success (refine stop_at2 12 ?_)); (first
        | (refine gk 3 rfl ?_; first | refine sl_op rfl rfl rfl (by first | exact opv_load rfl (by exact rfl) rfl (by exact rfl) | exact opv_fieldAddr rfl rfl | exact opv_indexAddrI rfl rfl rfl (by omega) (by omega) (by first | omega ) | exact opv_fieldAddrE rfl rfl (by first | omega) ) ?_ )
        | refine chu_nil ?_
        | refine chu_q rfl ?_
        | refine chu_rv rfl rfl rfl (fun β => ?_)
        | refine chu_new rfl rfl (new_makeSlice (m := 16) rfl rfl rfl rfl (by omega) (by omega)) ?_
        | refine chu_storeE rfl rfl rfl rfl rfl rfl osM rfl rfl rfl (Nat.succ_pos _) (by dsimp only [List.length_cons, List.length_nil]; omega) (hs31 _) (fun hM2 osM2 => ?_)
        | refine sl_nil ?_
        ))
      have hlz : (flatI m0.code).length = 256 * 3 := by rw [flatI_length]; rfl
      have hsetc : (flatI m0.code).take ((255 : Int).toNat * 3) ++ [i64 255, i64 (-9223372036854775808), i64 9223372036854775807] ++ (flatI m0.code).drop ((255 : Int).toNat * 3 + 3) = flatI (m0.code.set 255 lastI) := flatI_set (l := m0.code) (k := 255) lastI (by rw [show m0.code.length = 256 from List.length_replicate]; decide)
      have hc7 : (vm.set 124 (.slice (some ⟨β, 0, none⟩) 16 16))[(1 : Int).toNat * 4 + 3]? = some (.slice cb1 256 cc1) := by
        rw [List.getElem?_set_ne (by decide)]
        exact x4
      have hlm : (vm.set 124 (.slice (some ⟨β, 0, none⟩) 16 16)).length = 128 := by rw [List.length_set]; exact hvm
      haveI slM2 := osM2.sl
      refine thn_k ?_
      repeat' ((fail_if_success (refine stop_at2 13 ?_)); (first
        | refine sl_storeE rfl rfl rfl rfl rfl osc rfl rfl rfl (Nat.succ_pos _) (by dsimp only [List.length_cons, List.length_nil]; omega) hsetc (fun hc2 osc2 => ?_)
        | refine swp_seq ?_
        | (refine gk 3 rfl ?_; first | refine sl_op rfl rfl rfl (by first | exact opv_load rfl (by exact rfl) rfl (by exact rfl) | exact opv_fieldAddr rfl rfl | exact opv_indexAddrI rfl rfl rfl (by omega) (by omega) (by first | omega ) | exact opv_fieldAddrE rfl rfl (by first | omega) | exact opv_loadEx rfl (by exact rfl) (by infer_instance) (by first | assumption ) ) ?_ )
        | (refine gk 5 rfl ?_; first | refine sl_op rfl rfl rfl (by first | exact opv_build rfl rfl (by exact rfl) ) ?_ )
        | refine sl_region rfl ?_
        | refine sl_nil ?_
        ))
      refine thn_k ?_
      refine swp_gather [blk βf (.cells ⟨[.slice (some ⟨βC, 0, none⟩) 16 16, .slice bM 32 32]⟩ 25 (0, 0)), blk βx (.cells ⟨[nilS, .slice (some ⟨b2, 0, none⟩) 1 1]⟩ 25 (0, 0)), blk b1 (.cells ⟨[i64 20, i64 0, i64 0]⟩ 58 (0, 0)), blk b2 (.cells ⟨[nilS, i64 0, i64 0, .slice (some ⟨b1, 0, none⟩) 1 1]⟩ 56 (0, 0)), J] fun L hL => ?_
      have hfull : ImIn L fullI (.agg ⟨[.slice (some ⟨βC, 0, none⟩) 16 16, .slice bM 32 32]⟩) := by
        refine im_with ⟨vals, os.sl.mono (hL h (by simp)), hvl, by simp [fullI], by decide, fun i f hf => ?_⟩ ⟨vm.set 124 (.slice (some ⟨β, 0, none⟩) 16 16), osM2.sl.mono (hL hM2 (by simp)), by rw [List.length_set]; exact hvm, by simp [fullI], by decide, fun i m hm => ?_⟩ (by decide) (by decide)
        · obtain ⟨fb, fn, fc, g1, g2, g3, g4⟩ := hP.2 i f hf
          exact ⟨fb, fn, fc, g1, g2.mono (hL K (by simp)), g3, by omega⟩
        · have hi32 : i < 32 := by
            have := (List.getElem?_eq_some_iff.1 hm).1
            simpa [fullI] using this
          have hme : m = fullM i := by
            simp only [fullI, List.getElem?_map, List.getElem?_range hi32, Option.map_some, Option.some.injEq] at hm
            exact hm.symm
          subst hme
          have hm0 : (List.replicate 32 m0)[i]? = some m0 := by rw [List.getElem?_replicate, if_pos hi32]
          obtain ⟨pb, pc, cb, cc, y1, y2, y3, y4, y5, y6, y7, y8, y9, -⟩ := hX.2.2 i m0 hm0
          have hn : ∀ k, k ≠ 124 → (vm.set 124 (Value.slice (some ⟨β, 0, none⟩) 16 16))[k]? = vm[k]? := fun k hk => List.getElem?_set_ne (Ne.symm hk)
          by_cases h1 : i = 1
          · subst h1
            refine ⟨pb1, 0, pc1, cb1, 256, cc1, by rw [hn _ (by decide)]; exact x1, by rw [hn _ (by decide)]; exact x2, by rw [hn _ (by decide)]; exact x3, by rw [hn _ (by decide)]; exact x4, ⟨fun k v h => by simp [fullM] at h⟩, rfl, by decide, osc2.sl.mono (hL hc2 (by simp)), ?_, osc2.hle, by decide⟩
            show ((List.replicate 256 zI).set 255 lastI).length = 256
            rw [List.length_set, List.length_replicate]
          · have hcode : (fullM i).code = m0.code := by simp only [fullM, if_neg h1, m0]
            by_cases h31 : i = 31
            · subst h31
              refine ⟨some ⟨β, 0, none⟩, 16, 16, cb, 256, cc, List.getElem?_set_self (by omega), by rw [hn _ (by decide)]; exact y2, by rw [hn _ (by decide)]; exact y3, by rw [hn _ (by decide)]; exact y4, ?_, by simp [fullM], by decide, by rw [hcode]; exact (y9 h1).mono (hL K2 (by simp)), by rw [hcode]; exact List.length_replicate, y7, by decide⟩
              rw [show (fullM 31).params.map i64 = List.replicate 16 (Value.int IntKind.i64 0) by simp only [fullM, if_true, List.map_replicate]]
              exact Sl.blk.mono (hL (blk β (.cells ⟨List.replicate 16 (Value.int IntKind.i64 0)⟩ 50 (0, 0))) (by simp))
            · have hpar : (fullM i).params = [] := by simp only [fullM, if_neg h31]
              refine ⟨pb, 0, pc, cb, 256, cc, by rw [hn _ (by omega)]; exact y1, by rw [hn _ (by omega)]; exact y2, by rw [hn _ (by omega)]; exact y3, by rw [hn _ (by omega)]; exact y4, by rw [hpar]; exact ⟨fun k v h => by simp at h⟩, by rw [hpar]; rfl, by decide, by rw [hcode]; exact (y9 h1).mono (hL K2 (by simp)), by rw [hcode]; exact List.length_replicate, y7, by decide⟩
      obtain ⟨a, ha⟩ : ∃ a, a = imB fullI := ⟨_, rfl⟩
      have hal : (a.length : Int) = 139589 := by rw [ha, full_len]; rfl
      have kE := Encode_calls L fullI _ hfull
      rw [if_pos full_may, ← ha] at kE
      have kD := Decode_calls a (by omega)
      rw [show decF a = .ok fullI by rw [ha]; exact dec_lay full_ok] at kD
      unfold DQ at kD
      dsimp only at kD
      repeat' (first
        | refine sl_op rfl rfl rfl (opv_ifNilN rfl rfl) ?_
        | refine sl_op rfl rfl rfl ((opv_lenS rfl rfl rfl rfl rfl).to (congrArg (Value.int .i64) hal)) ?_
        | refine swp_seq ?_
        | (refine gk 0 rfl ?_; first | refine sl_op rfl rfl rfl (by first | exact opv_move rfl rfl | exact opv_assign rfl rfl | exact opv_pick_f rfl rfl rfl | exact opv_not_t rfl rfl | exact opv_extract rfl rfl rfl ) ?_ )
        | (refine gk 2 rfl ?_; first | refine sl_no rfl rfl rfl (by first | exact opv_neq rfl rfl rfl) (by first | omega ) ?_ )
        | (refine gk 3 rfl ?_; first | refine sl_op rfl rfl rfl (by first | exact opv_loadA rfl (by exact rfl) rfl (by exact rfl) (by exact rfl) ) ?_ )
        | (refine gk 4 rfl ?_; first | refine sl_op rfl rfl rfl (opv_call rfl rfl rfl rfl rfl (kE)) ?_ | (refine sl_callT rfl rfl rfl rfl rfl rfl rfl rfl (kD) ?_; rintro _ _ ⟨K1, w1, rfl, hK1, rfl⟩; obtain ⟨d1, d2, d3, d4, d5, d6, rfl⟩ := hK1.shape; refine ⟨_, _, rfl, rfl, ?_⟩) | refine sl_op rfl rfl rfl (opv_callW rfl rfl rfl rfl rfl (Same_eq fullI _ _ ⟨_, by simp, hfull⟩ ⟨_, by simp, hK1⟩)) ?_)
        | (refine gk 5 rfl ?_; first | refine sl_alloc rfl rfl rfl rfl (by exact rfl) (fun β => ?_) | refine sl_store rfl rfl rfl rfl rfl rfl (by exact rfl) rfl (by exact rfl) ?_)
        | refine sl_region rfl ?_
        | refine sl_nil ?_
        | refine thn_k ?_
        | refine swp_false rfl ?_
        | refine swp_skip ?_
        )
      rename Nat => β9
      refine swp_drawN [0, 1, 2, 3, 4, 5, 6, 7, 8, 9, 10, 11, 12, 13, 14, 15, 16, 17, 18, 19, 20, 21, 22, 23, 24, 25, 26, 27, 28, 29, 30, 31, 32, 33, 34, 35, 36, 37, 38, 39, 40, 41, 42, 43, 44, 45, 46, 47, 48, 49, 50] nw17 (V17 βx b1 b2) (ob17 b1 b2) (by kernel_rfl) (by kernel_rfl) (by kernel_rfl) (dstB_spec (by kernel_rfl)) (by decide) (fun i hi j hj hji => ?_) (self17 b1 b2) (by decide) (fun bf => ?_)
      · rcases local17 βx b1 b2 i hi j hj hji with h | h
        · exact .inl (succ_bits (by kernel_rfl) hi h)
        · exact .inr h
      repeat' (first
        | refine wn_nil ?_
        | refine wn_q rfl rfl rfl rfl rfl (by first | exact opv_build rfl rfl (by exact rfl) | exact opv_assign rfl rfl | exact opv_fieldAddr rfl rfl | exact opv_load rfl (by exact rfl) rfl (by exact rfl) | exact opv_indexAddrI rfl rfl rfl (by omega) (by omega) (by first | (simp only [List.length_cons, List.length_nil]; omega))) (by exact rfl) ?_
        | refine wn_n rfl rfl rfl rfl (by first | exact new_buildSlice rfl rfl (by exact rfl) (by exact rfl) (by exact rfl) (by exact rfl) (by exact rfl) | exact new_makeSliceW (m := 17) rfl rfl rfl (by exact rfl) (by exact rfl) (by omega) (by omega) (by omega)) (by exact rfl) (by intro _; exact rfl) (by exact rfl) ?_)
      simp only [nw17, List.map_cons, List.map_nil, ob17, List.cons_append, List.nil_append]
      refine thn_k ?_
      refine swp_gather [blk (bf 49) (.cells ⟨[nilS, nilS, nilS, .slice (some ⟨bf 2, 0, none⟩) 1 1, .slice (some ⟨bf 4, 0, none⟩) 17 17, .slice (some ⟨b2, 0, none⟩) 1 1, .slice (some ⟨bf 10, 0, none⟩) 1 1, .slice (some ⟨b2, 0, none⟩) 1 1, nilS, .slice (some ⟨bf 21, 0, none⟩) 1 1, nilS, .slice (some ⟨bf 29, 0, none⟩) 1 1, nilS, .slice (some ⟨bf 37, 0, none⟩) 1 1, nilS, .slice (some ⟨bf 42, 0, none⟩) 1 1, nilS, .slice (some ⟨bf 47, 0, none⟩) 1 1]⟩ 25 (0, 0)), blk βx (.cells ⟨[nilS, .slice (some ⟨b2, 0, none⟩) 1 1]⟩ 25 (0, 0)), blk βf (.cells ⟨[.slice (some ⟨βC, 0, none⟩) 16 16, .slice bM 32 32]⟩ 25 (0, 0)), J] fun L2 hL2 => ?_
      have hs1 : Sl L2 (some ⟨b1, 0, none⟩) (flatI [⟨20, 0, 0⟩]) := Sl.blk.mono (hL2 (blk b1 (.cells ⟨[i64 20, i64 0, i64 0]⟩ 58 (0, 0))) (by simp))
      have hle2 : hle L L2 := hL2 L (by simp)
      have hfull2 := hfull.mono hle2
      have hleast : ImIn L2 leastI (.agg ⟨[nilS, .slice (some ⟨b2, 0, none⟩) 1 1]⟩) := im_one (ps := []) (lo := 0) (st := 0) (code := [⟨20, 0, 0⟩]) (hL2 (blk b2 (.cells ⟨[nilS, i64 0, i64 0, .slice (some ⟨b1, 0, none⟩) 1 1]⟩ 56 (0, 0))) (by simp)) ⟨fun k v h => by simp at h⟩ (by decide) hs1 (by decide) (by decide)
      have hms : MsIn L2 leastI.ms (some ⟨b2, 0, none⟩) 1 := by
        obtain ⟨q1, q2, q3, q4, q5, q6, hv, -, hm, -⟩ := hleast
        cases hv
        exact hm
      have i1 : ImIn L2 (mL [] 0 0 []) (.agg ⟨[nilS, .slice (some ⟨bf 2, 0, none⟩) 1 1]⟩) := im_one (hL2 (blk (bf 2) (.cells ⟨[nilS, i64 0, i64 0, nilS]⟩ 56 (0, 0))) (by simp)) ⟨fun k v h => by simp at h⟩ (by decide) ⟨fun k v h => by simp [flatI] at h⟩ (by decide) (by decide)
      have i2 : ImIn L2 ⟨List.replicate 17 [], leastI.ms⟩ (.agg ⟨[.slice (some ⟨bf 4, 0, none⟩) 17 17, .slice (some ⟨b2, 0, none⟩) 1 1]⟩) := by
        refine im_with ⟨(List.replicate 17 [nilS]).flatten, Sl.blk.mono (hL2 (blk (bf 4) (.cells ⟨(List.replicate 17 [nilS]).flatten⟩ 53 (0, 0))) (by simp)), by simp, by simp, by decide, fun i f hf => ?_⟩ hms (by decide) (by decide)
        have hi : i < 17 := by
          have := (List.getElem?_eq_some_iff.1 hf).1
          simpa using this
        rw [List.getElem?_replicate, if_pos hi] at hf
        cases hf
        refine ⟨none, 0, 0, ?_, ⟨fun k v h => by simp at h⟩, rfl, by decide⟩
        rw [show (List.replicate 17 [nilS]).flatten = List.replicate 17 nilS from rfl, List.getElem?_replicate, if_pos hi]
      have i3 : ImIn L2 ⟨[[2]], leastI.ms⟩ (.agg ⟨[.slice (some ⟨bf 10, 0, none⟩) 1 1, .slice (some ⟨b2, 0, none⟩) 1 1]⟩) := by
        refine im_with ⟨[.slice (some ⟨bf 8, 0, none⟩) 1 1], Sl.blk.mono (hL2 (blk (bf 10) (.cells ⟨[.slice (some ⟨bf 8, 0, none⟩) 1 1]⟩ 53 (0, 0))) (by simp)), rfl, rfl, by decide, fun i f hf => ?_⟩ hms (by decide) (by decide)
        have hi : i = 0 := by
          have := (List.getElem?_eq_some_iff.1 hf).1
          simpa using this
        subst hi
        cases hf
        exact ⟨some ⟨bf 8, 0, none⟩, 1, 1, rfl, Sl.blk.mono (hL2 (blk (bf 8) (.cells ⟨[i64 2]⟩ 50 (0, 0))) (by simp)), rfl, by decide⟩
      have i4 : ImIn L2 (mL [0] 1 0 [⟨20, 0, 0⟩]) (.agg ⟨[nilS, .slice (some ⟨bf 21, 0, none⟩) 1 1]⟩) := im_one (ps := [0]) (code := [⟨20, 0, 0⟩]) (hL2 (blk (bf 21) (.cells ⟨[.slice (some ⟨bf 14, 0, none⟩) 1 1, i64 1, i64 0, .slice (some ⟨b1, 0, none⟩) 1 1]⟩ 56 (0, 0))) (by simp)) (Sl.blk.mono (hL2 (blk (bf 14) (.cells ⟨[i64 0]⟩ 50 (0, 0))) (by simp))) (by decide) hs1 (by decide) (by decide)
      have i5 : ImIn L2 (mL [] 17 0 [⟨20, 0, 0⟩]) (.agg ⟨[nilS, .slice (some ⟨bf 29, 0, none⟩) 1 1]⟩) := im_one (ps := []) (code := [⟨20, 0, 0⟩]) (hL2 (blk (bf 29) (.cells ⟨[nilS, i64 17, i64 0, .slice (some ⟨b1, 0, none⟩) 1 1]⟩ 56 (0, 0))) (by simp)) ⟨fun k v h => by simp at h⟩ (by decide) hs1 (by decide) (by decide)
      have i6 : ImIn L2 (mL [] 0 (-1) [⟨20, 0, 0⟩]) (.agg ⟨[nilS, .slice (some ⟨bf 37, 0, none⟩) 1 1]⟩) := im_one (ps := []) (code := [⟨20, 0, 0⟩]) (hL2 (blk (bf 37) (.cells ⟨[nilS, i64 0, i64 (-1), .slice (some ⟨b1, 0, none⟩) 1 1]⟩ 56 (0, 0))) (by simp)) ⟨fun k v h => by simp at h⟩ (by decide) hs1 (by decide) (by decide)
      have i7 : ImIn L2 (mL [] 0 0 [⟨256, 0, 0⟩]) (.agg ⟨[nilS, .slice (some ⟨bf 42, 0, none⟩) 1 1]⟩) := im_one (ps := []) (code := [⟨256, 0, 0⟩]) (hL2 (blk (bf 42) (.cells ⟨[nilS, i64 0, i64 0, .slice (some ⟨bf 40, 0, none⟩) 1 1]⟩ 56 (0, 0))) (by simp)) ⟨fun k v h => by simp at h⟩ (by decide) (Sl.blk.mono (hL2 (blk (bf 40) (.cells ⟨[i64 256, i64 0, i64 0]⟩ 58 (0, 0))) (by simp))) (by decide) (by decide)
      have i8 : ImIn L2 (mL [] 0 0 [⟨-1, 0, 0⟩]) (.agg ⟨[nilS, .slice (some ⟨bf 47, 0, none⟩) 1 1]⟩) := im_one (ps := []) (code := [⟨-1, 0, 0⟩]) (hL2 (blk (bf 47) (.cells ⟨[nilS, i64 0, i64 0, .slice (some ⟨bf 45, 0, none⟩) 1 1]⟩ 56 (0, 0))) (by simp)) ⟨fun k v h => by simp at h⟩ (by decide) (Sl.blk.mono (hL2 (blk (bf 45) (.cells ⟨[i64 (-1), i64 0, i64 0]⟩ 58 (0, 0))) (by simp))) (by decide) (by decide)
      have kno : ∀ (x : Im) (v : Value), ImIn L2 x v → mayF x = false → PFn Tryd.prog 8 [v] [L2] (.tuple ⟨[str [], i64 12]⟩) := fun x v h1 h2 => by
        have := Encode_calls L2 x v h1
        rwa [if_neg (by rw [h2]; decide)] at this
      repeat' (first
        | refine swp_seq ?_
        | (refine gk 0 rfl ?_; first | refine sl_op rfl rfl rfl (by first | exact opv_assign rfl rfl ) ?_ )
        | refine sl_region rfl ?_
        | refine sl_nil ?_
        | refine thn_k ?_
        | refine swp_block ?_
        )
      refine swp_loopS (fun j : Nat => [(1, ptr βx), (3, ptr βf), (10, .slice (some ⟨bf 49, 0, none⟩) 9 9), (11, i64 (j : Int))]) (fun _ => [L2, blk (bf 49) (.cells ⟨[nilS, nilS, nilS, .slice (some ⟨bf 2, 0, none⟩) 1 1, .slice (some ⟨bf 4, 0, none⟩) 17 17, .slice (some ⟨b2, 0, none⟩) 1 1, .slice (some ⟨bf 10, 0, none⟩) 1 1, .slice (some ⟨b2, 0, none⟩) 1 1, nilS, .slice (some ⟨bf 21, 0, none⟩) 1 1, nilS, .slice (some ⟨bf 29, 0, none⟩) 1 1, nilS, .slice (some ⟨bf 37, 0, none⟩) 1 1, nilS, .slice (some ⟨bf 42, 0, none⟩) 1 1, nilS, .slice (some ⟨bf 47, 0, none⟩) 1 1]⟩ 25 (0, 0)), blk βx (.cells ⟨[nilS, .slice (some ⟨b2, 0, none⟩) 1 1]⟩ 25 (0, 0)), blk βf (.cells ⟨[.slice (some ⟨βC, 0, none⟩) 16 16, .slice bM 32 32]⟩ 25 (0, 0)), J]) (fun j => j ≤ 9) (fun j => 9 - j) 0 (by repeat first | exact Sub.nil _ | refine Sub.cons rfl ?_) (Nat.zero_le _) ?_
      intro j hj9
      by_cases hj10 : j < 9
      · obtain ⟨v0, v1, hv0, hv1, kB⟩ : ∃ v0 v1 : Value, ([nilS, nilS, nilS, .slice (some ⟨bf 2, 0, none⟩) 1 1, .slice (some ⟨bf 4, 0, none⟩) 17 17, .slice (some ⟨b2, 0, none⟩) 1 1, .slice (some ⟨bf 10, 0, none⟩) 1 1, .slice (some ⟨b2, 0, none⟩) 1 1, nilS, .slice (some ⟨bf 21, 0, none⟩) 1 1, nilS, .slice (some ⟨bf 29, 0, none⟩) 1 1, nilS, .slice (some ⟨bf 37, 0, none⟩) 1 1, nilS, .slice (some ⟨bf 42, 0, none⟩) 1 1, nilS, .slice (some ⟨bf 47, 0, none⟩) 1 1] : List Value)[((j : Nat) : Int).toNat * 2]? = some v0 ∧
            ([nilS, nilS, nilS, .slice (some ⟨bf 2, 0, none⟩) 1 1, .slice (some ⟨bf 4, 0, none⟩) 17 17, .slice (some ⟨b2, 0, none⟩) 1 1, .slice (some ⟨bf 10, 0, none⟩) 1 1, .slice (some ⟨b2, 0, none⟩) 1 1, nilS, .slice (some ⟨bf 21, 0, none⟩) 1 1, nilS, .slice (some ⟨bf 29, 0, none⟩) 1 1, nilS, .slice (some ⟨bf 37, 0, none⟩) 1 1, nilS, .slice (some ⟨bf 42, 0, none⟩) 1 1, nilS, .slice (some ⟨bf 47, 0, none⟩) 1 1] : List Value)[((j : Nat) : Int).toNat * 2 + 1]? = some v1 ∧ PFn Tryd.prog 8 [.agg ⟨[v0, v1]⟩] [L2] (.tuple ⟨[str [], i64 12]⟩) := by
          match j, hj10 with
          | 0, _ => exact ⟨_, _, rfl, rfl, kno noIm _ (ImIn.no L2) (by decide +kernel)⟩
          | 1, _ => exact ⟨_, _, rfl, rfl, kno _ _ i1 (by decide +kernel)⟩
          | 2, _ => exact ⟨_, _, rfl, rfl, kno _ _ i2 (by decide +kernel)⟩
          | 3, _ => exact ⟨_, _, rfl, rfl, kno _ _ i3 (by decide +kernel)⟩
          | 4, _ => exact ⟨_, _, rfl, rfl, kno _ _ i4 (by decide +kernel)⟩
          | 5, _ => exact ⟨_, _, rfl, rfl, kno _ _ i5 (by decide +kernel)⟩
          | 6, _ => exact ⟨_, _, rfl, rfl, kno _ _ i6 (by decide +kernel)⟩
          | 7, _ => exact ⟨_, _, rfl, rfl, kno _ _ i7 (by decide +kernel)⟩
          | 8, _ => exact ⟨_, _, rfl, rfl, kno _ _ i8 (by decide +kernel)⟩
        repeat' (first
          | refine sl_ff rfl rfl rfl (opv_neqStr rfl rfl rfl) (by simp) ?_
          | refine swp_seq ?_
          | (refine gk 0 rfl ?_; first | refine sl_op rfl rfl rfl (by first | exact opv_move rfl rfl | exact opv_assign rfl rfl | exact opv_pick_f rfl rfl rfl | exact opv_extract rfl rfl rfl ) ?_ )
          | (refine gk 1 rfl ?_; first | refine sl_op rfl rfl rfl (by first | exact opv_add64 rfl rfl rfl (by omega) (by omega) ) ?_ )
          | (refine gk 2 rfl ?_; first | refine sl_yes rfl rfl rfl (by first | exact opv_lss rfl rfl rfl | exact opv_neq rfl rfl rfl) (by first | omega ) ?_ | refine sl_no rfl rfl rfl (by first | exact opv_neq rfl rfl rfl) (by first | omega ) ?_ )
          | (refine gk 3 rfl ?_; first | refine sl_op rfl rfl rfl (by first | exact opv_indexAddrI rfl rfl rfl (by omega) (by omega) (by first | (simp only [List.length_cons, List.length_nil]; omega)) | exact opv_load2 rfl (by exact rfl) (by infer_instance) (by assumption) (by assumption) ) ?_ )
          | (refine gk 4 rfl ?_; first | refine sl_op rfl rfl rfl (by first | exact opv_len rfl rfl rfl rfl rfl ) ?_ | refine sl_op rfl rfl rfl (opv_call rfl rfl rfl rfl rfl (kB)) ?_)
          | refine sl_region rfl ?_
          | refine sl_nil ?_
          | refine thn_k ?_
          | refine swp_true rfl ?_
          | refine swp_false rfl ?_
          | refine swp_block ?_
          | refine swp_skip ?_
          )
        exact ⟨rfl, j + 1, next_ok (by repeat first | exact Sub.nil _ | refine Sub.cons rfl ?_), by omega, by omega⟩
      · have w0 := wrong_calls (G := J) [] 0 (by decide)
        have w1 := wrong_calls (G := J) [68, 75, 2, 0] 0 (by decide)
        have w2 := wrong_calls (G := J) [68, 75, 1] 3 (by decide)
        have w3 := wrong_calls (G := J) [68, 75, 1, 17] 3 (by decide)
        rw [wrong0] at w0
        rw [wrong1] at w1
        rw [wrong2] at w2
        rw [wrong3] at w3
        have s0 := Same_calls J noIm noIm zIm zIm (ImIn.no J) (ImIn.no J)
        rw [eqIm_iff.2 rfl] at s0
        have s1 := Same_calls L2 leastI fullI _ _ hleast hfull2
        rw [bool_no eqIm_iff full_ne] at s1
        repeat' (first
          | refine swp_seq ?_
          | (refine gk 0 rfl ?_; first | refine sl_op rfl rfl rfl (by first | exact opv_move rfl rfl | exact opv_assign rfl rfl | exact opv_pick_t rfl rfl rfl | exact opv_not_f rfl rfl ) ?_ )
          | (refine gk 2 rfl ?_; first | refine sl_no rfl rfl rfl (by first | exact opv_lss rfl rfl rfl ) (by first | omega ) ?_ )
          | (refine gk 3 rfl ?_; first | refine sl_op rfl rfl rfl (by first | exact opv_loadA rfl (by exact rfl) rfl (by exact rfl) (by exact rfl) ) ?_ )
          | (refine gk 4 rfl ?_; first | refine sl_op rfl rfl rfl (by first | exact opv_len rfl rfl rfl rfl rfl ) ?_ | refine sl_op rfl rfl rfl (opv_call rfl rfl rfl rfl rfl (works_calls (G := J))) ?_ | refine sl_op rfl rfl rfl (opv_call rfl rfl rfl rfl rfl (w0)) ?_ | refine sl_op rfl rfl rfl (opv_call rfl rfl rfl rfl rfl (w1)) ?_ | refine sl_op rfl rfl rfl (opv_call rfl rfl rfl rfl rfl (w2)) ?_ | refine sl_op rfl rfl rfl (opv_call rfl rfl rfl rfl rfl (w3)) ?_ | refine sl_op rfl rfl rfl (opv_call rfl rfl rfl rfl rfl (s0)) ?_ | refine sl_op rfl rfl rfl (opv_call rfl rfl rfl rfl rfl (s1)) ?_)
          | (refine gk 5 rfl ?_; first | refine sl_op rfl rfl rfl (by first | exact opv_build rfl rfl (by exact rfl) ) ?_ )
          | refine sl_region rfl ?_
          | refine sl_nil ?_
          | refine thn_k ?_
          | refine swp_false rfl ?_
          | refine swp_ret ?_
          | refine swp_exit ?_
          )
        trace_state
        refine end_pure (resOk_one (resV_tmp rfl)) ?_
        rfl
end Go.Proofs.YtjdjkcebflablaaDoor
