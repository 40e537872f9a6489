/- The stack behind a place: the document's answer. -/
import Derived.Test.YtifhhfeibnpaoaaWA15
namespace Go.Proofs.Ytifhhfeibnpaoaa
open Go.SL
set_option maxRecDepth 100000
set_option maxHeartbeats 16000000
attribute [local irreducible] SL.T PFn OpV SOL SWP HOp ChU
theorem rAsks_none (J : Heap) (p : Value) (lo st : Int) (cb : Option Addr) (cl cc : Nat) (cs : List Ins) (z : Int) [Sl J cb (flatI cs)] (hl : cs.length = cl) (hsm : cl ≤ 1000000) (h : askO cs z = none) :
    PFn Try.prog 11 [mth p lo st cb cl cc, i64 z] [J] (.tuple ⟨[i64 0, .bool false]⟩) :=
  (rAsks_calls J p lo st cb cl cc cs z hl hsm).to (by rw [h]; rfl)
theorem rAsks_some (J : Heap) (p : Value) (lo st : Int) (cb : Option Addr) (cl cc : Nat) (cs : List Ins) (z : Int) [Sl J cb (flatI cs)] (hl : cs.length = cl) (hsm : cl ≤ 1000000) {k : Int} (h : askO cs z = some k) :
    PFn Try.prog 11 [mth p lo st cb cl cc, i64 z] [J] (.tuple ⟨[i64 k, .bool true]⟩) :=
  (rAsks_calls J p lo st cb cl cc cs z hl hsm).to (by rw [h]; rfl)
theorem has_b (own : List Heap) (b : Option Addr) (n c : Nat) (xs : List Int) (v : Int) [SlIn own b (xs.map i64)] (h1 : xs.length = n) (hsm : n ≤ 9223372036854775807) {bb : Bool} (hb : decide (v ∈ xs) = bb) :
    PFn Try.prog 36 [.slice b n c, i64 v] own (.bool bb) := by
  rw [← hb]; exact has_calls own b n c xs v h1 hsm
theorem rbehind_calls (J K : Heap) (p : Value) (lo st : Int) (cb : Option Addr) (cl cc : Nat) (cs : List Ins) (z : Nat) (b : Option Addr) (n c : Nat) (xs : List Int)
    [Sl J cb (flatI cs)] [slK : Sl K b (xs.map i64)] (hl : cs.length = cl) (hsm : cl ≤ 1000000) (hz : z < cl) (hn : xs.length = n) (hnc : n ≤ c) (hns : n ≤ 1000000) :
    SL.T Try.prog 24 [mth p lo st cb cl cc, i64 (z : Int), .slice b n c] [J, K] fun e o => ∃ N, o = [J, K] ++ N ∧
      ∃ b' n' c', e = .returned (stV b' n' c' (behF cs z xs).isSome) ∧ BQ K N (behF cs z xs) b' n' c' := by
  obtain ⟨⟨op, a, b0⟩, hx⟩ : ∃ x, cs[z]? = some x := ⟨_, List.getElem?_eq_getElem (by omega)⟩
  rw [behF_at hx]
  obtain ⟨c0, c1, c2⟩ := flatI_at hx
  have c0 : (flatI cs)[((z : Nat) : Int).toNat * 3]? = some (i64 op) := c0
  have c1 : (flatI cs)[((z : Nat) : Int).toNat * 3 + 1]? = some (i64 a) := c1
  have c2 : (flatI cs)[((z : Nat) : Int).toNat * 3 + 2]? = some (i64 b0) := c2
  have hfl := flatI_length cs
  have hq : ((z : Nat) : Int).toNat * 3 < (flatI cs).length := by rw [hfl]; omega
  by_cases h5 : five op
  · rcases hk : askO cs z with _ | k
    · have hA := rAsks_none J p lo st cb cl cc cs z hl hsm hk
      refine t_of_body Try.func24 rfl (Nat.le_of_ble_eq_true rfl) fun F => ?_
      repeat' (first
        | refine swp_seq ?_
        | (refine gk 0 rfl ?_; first | refine sl_op rfl rfl rfl (by first | exact opv_move rfl rfl | exact opv_assign rfl rfl | exact opv_pick_t rfl rfl rfl | exact opv_not_f rfl rfl | exact opv_extract rfl rfl rfl ) ?_ )
        | (refine gk 3 rfl ?_; first | refine sl_op rfl rfl rfl (by first | exact opv_load rfl (by exact rfl) rfl (by exact rfl) | exact opv_fieldAddr rfl rfl | exact opv_loadA rfl (by exact rfl) rfl (by exact rfl) (by exact rfl) | exact opv_indexAddrI rfl rfl rfl (by omega) (by omega) (by first | omega ) | exact opv_load3 rfl (by exact rfl) (by infer_instance) (by assumption) (by assumption) (by assumption)) ?_ )
        | (refine gk 4 rfl ?_; first | refine sl_op rfl rfl rfl (opv_call rfl rfl rfl rfl rfl (hA)) ?_ | refine sl_yes rfl rfl rfl (opv_call rfl rfl rfl rfl rfl (Five_calls _)) (by first | omega ) ?_ )
        | (refine gk 5 rfl ?_; first | refine sl_box rfl rfl rfl rfl rfl rfl (fun β => ?_) | refine sl_alloc rfl rfl rfl rfl (by exact rfl) (fun β => ?_) | refine sl_store rfl rfl rfl rfl rfl rfl (by exact rfl) rfl (by exact rfl) ?_)
        | refine sl_region rfl ?_
        | refine sl_nil ?_
        | refine thn_k ?_
        | refine swp_true rfl ?_
        | refine swp_ret ?_
        | refine thn_ret ?_
        )
      rw [if_pos ⟨h5, rfl⟩]
      exact end_retL [J, K] (resOk_two (resV_tmp rfl) (resV_tmp rfl)) ⟨[], rfl, _, _, _, rfl, fun s hs => by cases hs⟩
    · have hA := rAsks_some J p lo st cb cl cc cs z hl hsm hk
      rw [if_neg (by simp)]
      rcases five_iff.1 h5 with rfl | rfl | rfl | rfl | rfl
      · have e : doF 12 (if (12 : Int) = 3 then a else (some k).getD 0) xs = if xs.length < 8 ∧ k ∉ xs then some (xs ++ [k]) else none := rfl
        rw [e]
        by_cases hv : k ∈ xs
        · have hH := has_b [K] b n c xs k hn (by omega) (decide_eq_true hv)
          rw [if_neg fun h => h.2 hv]
          refine t_of_body Try.func24 rfl (Nat.le_of_ble_eq_true rfl) fun F => ?_
          repeat' (first
            | refine swp_seq ?_
            | (refine gk 0 rfl ?_; first | refine sl_op rfl rfl rfl (by first | exact opv_move rfl rfl | exact opv_assign rfl rfl | exact opv_pick_t rfl rfl rfl | exact opv_not_t rfl rfl | exact opv_extract rfl rfl rfl ) ?_ | refine sl_pass rfl rfl rfl rfl ?_)
            | (refine gk 2 rfl ?_; first | refine sl_pass rfl rfl rfl rfl ?_ | refine sl_yes rfl rfl rfl (by first | exact opv_eql rfl rfl rfl ) (by first | omega ) ?_ )
            | (refine gk 3 rfl ?_; first | refine sl_op rfl rfl rfl (by first | exact opv_load rfl (by exact rfl) rfl (by exact rfl) | exact opv_fieldAddr rfl rfl | exact opv_loadA rfl (by exact rfl) rfl (by exact rfl) (by exact rfl) | exact opv_indexAddrI rfl rfl rfl (by omega) (by omega) (by first | omega ) | exact opv_load3 rfl (by exact rfl) (by infer_instance) (by assumption) (by assumption) (by assumption)) ?_ )
            | (refine gk 4 rfl ?_; first | refine sl_pass rfl rfl rfl rfl ?_ | refine sl_op rfl rfl rfl (opv_call rfl rfl rfl rfl rfl (hA)) ?_ | refine sl_yes rfl rfl rfl (opv_call rfl rfl rfl rfl rfl (Five_calls _)) (by first | omega ) ?_ | refine sl_op rfl rfl rfl (opv_call rfl rfl rfl rfl rfl (hH)) ?_)
            | (refine gk 5 rfl ?_; first | refine sl_box rfl rfl rfl rfl rfl rfl (fun β => ?_) | refine sl_alloc rfl rfl rfl rfl (by exact rfl) (fun β => ?_) | refine sl_store rfl rfl rfl rfl rfl rfl (by exact rfl) rfl (by exact rfl) ?_)
            | refine sl_region rfl ?_
            | refine sl_nil ?_
            | refine thn_k ?_
            | refine swp_true rfl ?_
            | refine swp_false rfl ?_
            | refine swp_block ?_
            | refine swp_ret ?_
            | refine swp_skip ?_
            | refine thn_ret ?_
            | refine inb_ret ?_
            )
          exact end_retL [J, K] (resOk_two (resV_tmp rfl) (resV_tmp rfl)) ⟨[], rfl, _, _, _, rfl, fun s hs => by cases hs⟩
        · have hH := has_b [K] b n c xs k hn (by omega) (decide_eq_false hv)
          by_cases h8 : n < 8
          · rw [if_pos ⟨by omega, hv⟩]
            refine t_of_body Try.func24 rfl (Nat.le_of_ble_eq_true rfl) fun F => ?_
            repeat' (first
              | refine swp_seq ?_
              | (refine gk 0 rfl ?_; first | refine sl_op rfl rfl rfl (by first | exact opv_move rfl rfl | exact opv_assign rfl rfl | exact opv_pick_t rfl rfl rfl | exact opv_pick_f rfl rfl rfl | exact opv_not_t rfl rfl | exact opv_extract rfl rfl rfl ) ?_ )
              | (refine gk 2 rfl ?_; first | refine sl_yes rfl rfl rfl (by first | exact opv_geq rfl rfl rfl | exact opv_eql rfl rfl rfl ) (by first | omega ) ?_ | refine sl_no rfl rfl rfl (by first | exact opv_geq rfl rfl rfl ) (by first | omega ) ?_ )
              | (refine gk 3 rfl ?_; first | refine sl_op rfl rfl rfl (by first | exact opv_load rfl (by exact rfl) rfl (by exact rfl) | exact opv_fieldAddr rfl rfl | exact opv_loadA rfl (by exact rfl) rfl (by exact rfl) (by exact rfl) | exact opv_indexAddrI rfl rfl rfl (by omega) (by omega) (by first | omega ) | exact opv_load3 rfl (by exact rfl) (by infer_instance) (by assumption) (by assumption) (by assumption)) ?_ )
              | (refine gk 4 rfl ?_; first | refine sl_op rfl rfl rfl (by first | exact opv_len rfl rfl rfl rfl rfl ) ?_ | refine sl_op rfl rfl rfl (opv_call rfl rfl rfl rfl rfl (hA)) ?_ | refine sl_yes rfl rfl rfl (opv_call rfl rfl rfl rfl rfl (Five_calls _)) (by first | omega ) ?_ | refine sl_op rfl rfl rfl (opv_call rfl rfl rfl rfl rfl (hH)) ?_)
              | (refine gk 5 rfl ?_; first | refine sl_buildSlice rfl rfl rfl rfl rfl (by exact rfl) (by exact rfl) (by exact rfl) (by exact rfl) rfl (fun b => ?_) | refine sl_box rfl rfl rfl rfl rfl rfl (fun β => ?_) | refine sl_alloc rfl rfl rfl rfl (by exact rfl) (fun β => ?_) | refine sl_store rfl rfl rfl rfl rfl rfl (by exact rfl) rfl (by exact rfl) ?_)
              | refine sl_region rfl ?_
              | refine sl_nil ?_
              | refine thn_k ?_
              | refine swp_true rfl ?_
              | refine swp_false rfl ?_
              | refine swp_block ?_
              | refine swp_skip ?_
              )
            refine sl_appendG rfl rfl rfl rfl rfl rfl rfl rfl rfl (OS.blk (len := 0) (sz := 1) (cs := []) rfl) (news := xs.map i64) (by simp [hn]) (by decide) (i64s_one _) (by omega) (by omega) (fun h1 b1 c1 os1 hb1 => ?_)
            rw [Nat.zero_add, List.nil_append] at os1
            rw [Nat.zero_add]
            repeat' (first
              | (refine gk 0 rfl ?_; first | refine sl_op rfl rfl rfl (by first | exact opv_move rfl rfl | exact opv_assign rfl rfl ) ?_ )
              | (refine gk 4 rfl ?_; first | (refine sl_append rfl rfl rfl rfl rfl rfl rfl rfl rfl os1 (by decide) rfl (by decide) rfl (by omega) (by omega) (fun h2 b2 c2 os2 => ?_)))
              | (refine gk 5 rfl ?_; first | refine sl_buildSlice rfl rfl rfl rfl rfl (by exact rfl) (by exact rfl) (by exact rfl) (by exact rfl) rfl (fun b => ?_) )
              | refine sl_nil ?_
              | refine thn_k ?_
              | refine swp_ret ?_
              | refine thn_ret ?_
              | refine inb_ret ?_
              )
            refine end_retL [J, K, h2] (resOk_two (resV_tmp rfl) (resV_tmp rfl)) ⟨[h2], rfl, b2, n + 1, c2, rfl, fun s hs => ?_⟩
            cases hs
            refine ⟨by simp [hn], os2.hle, h2, by simp, ?_⟩
            rw [List.map_append]; exact os2.sl
          · rw [if_neg fun h => h8 (by omega)]
            refine t_of_body Try.func24 rfl (Nat.le_of_ble_eq_true rfl) fun F => ?_
            repeat' (first
              | refine swp_seq ?_
              | (refine gk 0 rfl ?_; first | refine sl_op rfl rfl rfl (by first | exact opv_move rfl rfl | exact opv_assign rfl rfl | exact opv_pick_t rfl rfl rfl | exact opv_pick_f rfl rfl rfl | exact opv_not_t rfl rfl | exact opv_extract rfl rfl rfl ) ?_ )
              | (refine gk 2 rfl ?_; first | refine sl_yes rfl rfl rfl (by first | exact opv_geq rfl rfl rfl | exact opv_eql rfl rfl rfl ) (by first | omega ) ?_ )
              | (refine gk 3 rfl ?_; first | refine sl_op rfl rfl rfl (by first | exact opv_load rfl (by exact rfl) rfl (by exact rfl) | exact opv_fieldAddr rfl rfl | exact opv_loadA rfl (by exact rfl) rfl (by exact rfl) (by exact rfl) | exact opv_indexAddrI rfl rfl rfl (by omega) (by omega) (by first | omega ) | exact opv_load3 rfl (by exact rfl) (by infer_instance) (by assumption) (by assumption) (by assumption)) ?_ )
              | (refine gk 4 rfl ?_; first | refine sl_op rfl rfl rfl (by first | exact opv_len rfl rfl rfl rfl rfl ) ?_ | refine sl_op rfl rfl rfl (opv_call rfl rfl rfl rfl rfl (hA)) ?_ | refine sl_yes rfl rfl rfl (opv_call rfl rfl rfl rfl rfl (Five_calls _)) (by first | omega ) ?_ | refine sl_op rfl rfl rfl (opv_call rfl rfl rfl rfl rfl (hH)) ?_)
              | (refine gk 5 rfl ?_; first | refine sl_box rfl rfl rfl rfl rfl rfl (fun β => ?_) | refine sl_alloc rfl rfl rfl rfl (by exact rfl) (fun β => ?_) | refine sl_store rfl rfl rfl rfl rfl rfl (by exact rfl) rfl (by exact rfl) ?_)
              | refine sl_region rfl ?_
              | refine sl_nil ?_
              | refine thn_k ?_
              | refine swp_true rfl ?_
              | refine swp_false rfl ?_
              | refine swp_block ?_
              | refine swp_ret ?_
              | refine swp_skip ?_
              | refine thn_ret ?_
              | refine inb_ret ?_
              )
            exact end_retL [J, K] (resOk_two (resV_tmp rfl) (resV_tmp rfl)) ⟨[], rfl, _, _, _, rfl, fun s hs => by cases hs⟩
      · have e : doF 13 (if (13 : Int) = 3 then a else (some k).getD 0) xs = if xs.getLast? = some k then some xs.dropLast else none := rfl
        rw [e]
        rcases List.eq_nil_or_concat xs with h0 | ⟨ys, y, h0⟩
        · subst h0
          obtain rfl : n = 0 := by simpa using hn.symm
          refine t_of_body Try.func24 rfl (Nat.le_of_ble_eq_true rfl) fun F => ?_
          repeat' (first
            | refine swp_seq ?_
            | (refine gk 0 rfl ?_; first | refine sl_op rfl rfl rfl (by first | exact opv_move rfl rfl | exact opv_assign rfl rfl | exact opv_pick_t rfl rfl rfl | exact opv_not_t rfl rfl | exact opv_extract rfl rfl rfl ) ?_ | refine sl_pass rfl rfl rfl rfl ?_)
            | (refine gk 1 rfl ?_; first | refine sl_pass rfl rfl rfl rfl ?_)
            | (refine gk 2 rfl ?_; first | refine sl_pass rfl rfl rfl rfl ?_ | refine sl_yes rfl rfl rfl (by first | exact opv_eql rfl rfl rfl ) (by first | omega ) ?_ | refine sl_no rfl rfl rfl (by first | exact opv_eql rfl rfl rfl ) (by first | omega ) ?_ )
            | (refine gk 3 rfl ?_; first | refine sl_op rfl rfl rfl (by first | exact opv_load rfl (by exact rfl) rfl (by exact rfl) | exact opv_fieldAddr rfl rfl | exact opv_loadA rfl (by exact rfl) rfl (by exact rfl) (by exact rfl) | exact opv_indexAddrI rfl rfl rfl (by omega) (by omega) (by first | omega ) | exact opv_load3 rfl (by exact rfl) (by infer_instance) (by assumption) (by assumption) (by assumption)) ?_ | refine sl_pass rfl rfl rfl rfl ?_)
            | (refine gk 4 rfl ?_; first | refine sl_pass rfl rfl rfl rfl ?_ | refine sl_op rfl rfl rfl (by first | exact opv_len rfl rfl rfl rfl rfl ) ?_ | refine sl_op rfl rfl rfl (opv_call rfl rfl rfl rfl rfl (hA)) ?_ | refine sl_yes rfl rfl rfl (opv_call rfl rfl rfl rfl rfl (Five_calls _)) (by first | omega ) ?_ )
            | (refine gk 5 rfl ?_; first | refine sl_box rfl rfl rfl rfl rfl rfl (fun β => ?_) | refine sl_alloc rfl rfl rfl rfl (by exact rfl) (fun β => ?_) | refine sl_store rfl rfl rfl rfl rfl rfl (by exact rfl) rfl (by exact rfl) ?_)
            | refine sl_region rfl ?_
            | refine sl_nil ?_
            | refine thn_k ?_
            | refine swp_true rfl ?_
            | refine swp_false rfl ?_
            | refine swp_block ?_
            | refine swp_ret ?_
            | refine swp_skip ?_
            | refine thn_ret ?_
            | refine inb_ret ?_
            )
          exact end_retL [J, K] (resOk_two (resV_tmp rfl) (resV_tmp rfl)) ⟨[], rfl, _, _, _, rfl, fun s hs => by cases hs⟩
        · rw [List.concat_eq_append] at h0
          subst h0
          obtain ⟨m, rfl⟩ : ∃ m, n = m + 1 := ⟨ys.length, by simpa using hn.symm⟩
          have hym : ys.length = m := by simpa using hn
          have hcx : ((ys ++ [y]).map i64)[(((m + 1 : Nat) : Int) - 1).toNat * 1]? = some (i64 y) := by
            have e : (((m + 1 : Nat) : Int) - 1).toNat * 1 = ys.length := by omega
            rw [e]; simp
          have hfl2 : ((ys ++ [y]).map i64).length = m + 1 := by simp [hym]
          rw [List.getLast?_concat, List.dropLast_concat]
          by_cases hy : y = k
          · subst hy
            rw [if_pos rfl]
            refine t_of_body Try.func24 rfl (Nat.le_of_ble_eq_true rfl) fun F => ?_
            repeat' (first
              | refine swp_seq ?_
              | (refine gk 0 rfl ?_; first | refine sl_op rfl rfl rfl (by first | exact opv_move rfl rfl | exact opv_assign rfl rfl | exact opv_pick_t rfl rfl rfl | exact opv_pick_f rfl rfl rfl | exact opv_not_t rfl rfl | exact opv_extract rfl rfl rfl ) ?_ )
              | (refine gk 1 rfl ?_; first | refine sl_op rfl rfl rfl (by first | exact opv_sub64 rfl rfl rfl (by omega) (by omega) ) ?_ )
              | (refine gk 2 rfl ?_; first | refine sl_yes rfl rfl rfl (by first | exact opv_eql rfl rfl rfl | exact opv_neq rfl rfl rfl) (by first | omega ) ?_ | refine sl_no rfl rfl rfl (by first | exact opv_eql rfl rfl rfl | exact opv_neq rfl rfl rfl) (by first | omega ) ?_ )
              | (refine gk 3 rfl ?_; first | refine sl_op rfl rfl rfl (by first | exact opv_load rfl (by exact rfl) rfl (by exact rfl) | exact opv_fieldAddr rfl rfl | exact opv_loadA rfl (by exact rfl) rfl (by exact rfl) (by exact rfl) | exact opv_indexAddrI rfl rfl rfl (by omega) (by omega) (by first | omega ) | exact opv_loadEx rfl (by exact rfl) (by infer_instance) (by first | assumption ) | exact opv_load3 rfl (by exact rfl) (by infer_instance) (by assumption) (by assumption) (by assumption)) ?_ )
              | (refine gk 4 rfl ?_; first | refine sl_op rfl rfl rfl (by first | exact opv_len rfl rfl rfl rfl rfl ) ?_ | refine sl_op rfl rfl rfl (opv_call rfl rfl rfl rfl rfl (hA)) ?_ | refine sl_yes rfl rfl rfl (opv_call rfl rfl rfl rfl rfl (Five_calls _)) (by first | omega ) ?_ )
              | (refine gk 5 rfl ?_; first | refine sl_op rfl rfl rfl (by first | exact opv_sliceHi rfl rfl rfl (by omega) (by omega) ) ?_ | refine sl_box rfl rfl rfl rfl rfl rfl (fun β => ?_) | refine sl_alloc rfl rfl rfl rfl (by exact rfl) (fun β => ?_) | refine sl_store rfl rfl rfl rfl rfl rfl (by exact rfl) rfl (by exact rfl) ?_)
              | refine sl_region rfl ?_
              | refine sl_nil ?_
              | refine thn_k ?_
              | refine swp_true rfl ?_
              | refine swp_false rfl ?_
              | refine swp_block ?_
              | refine swp_ret ?_
              | refine swp_skip ?_
              | refine thn_ret ?_
              | refine inb_ret ?_
              )
            exact end_retL [J, K] (resOk_two (resV_tmp rfl) (resV_tmp rfl)) ⟨[], rfl, _, _, _, rfl, fun s hs => by cases hs; exact ⟨by omega, by omega, ⟨K, List.mem_cons_self .., sl_takeI slK⟩⟩⟩
          · rw [if_neg (by simpa using hy)]
            refine t_of_body Try.func24 rfl (Nat.le_of_ble_eq_true rfl) fun F => ?_
            repeat' (first
              | refine swp_seq ?_
              | (refine gk 0 rfl ?_; first | refine sl_op rfl rfl rfl (by first | exact opv_move rfl rfl | exact opv_assign rfl rfl | exact opv_pick_t rfl rfl rfl | exact opv_pick_f rfl rfl rfl | exact opv_not_t rfl rfl | exact opv_extract rfl rfl rfl ) ?_ )
              | (refine gk 1 rfl ?_; first | refine sl_op rfl rfl rfl (by first | exact opv_sub64 rfl rfl rfl (by omega) (by omega) ) ?_ )
              | (refine gk 2 rfl ?_; first | refine sl_yes rfl rfl rfl (by first | exact opv_eql rfl rfl rfl | exact opv_neq rfl rfl rfl) (by first | omega ) ?_ | refine sl_no rfl rfl rfl (by first | exact opv_eql rfl rfl rfl ) (by first | omega ) ?_ )
              | (refine gk 3 rfl ?_; first | refine sl_op rfl rfl rfl (by first | exact opv_load rfl (by exact rfl) rfl (by exact rfl) | exact opv_fieldAddr rfl rfl | exact opv_loadA rfl (by exact rfl) rfl (by exact rfl) (by exact rfl) | exact opv_indexAddrI rfl rfl rfl (by omega) (by omega) (by first | omega ) | exact opv_loadEx rfl (by exact rfl) (by infer_instance) (by first | assumption ) | exact opv_load3 rfl (by exact rfl) (by infer_instance) (by assumption) (by assumption) (by assumption)) ?_ )
              | (refine gk 4 rfl ?_; first | refine sl_op rfl rfl rfl (by first | exact opv_len rfl rfl rfl rfl rfl ) ?_ | refine sl_op rfl rfl rfl (opv_call rfl rfl rfl rfl rfl (hA)) ?_ | refine sl_yes rfl rfl rfl (opv_call rfl rfl rfl rfl rfl (Five_calls _)) (by first | omega ) ?_ )
              | (refine gk 5 rfl ?_; first | refine sl_box rfl rfl rfl rfl rfl rfl (fun β => ?_) | refine sl_alloc rfl rfl rfl rfl (by exact rfl) (fun β => ?_) | refine sl_store rfl rfl rfl rfl rfl rfl (by exact rfl) rfl (by exact rfl) ?_)
              | refine sl_region rfl ?_
              | refine sl_nil ?_
              | refine thn_k ?_
              | refine swp_true rfl ?_
              | refine swp_false rfl ?_
              | refine swp_block ?_
              | refine swp_ret ?_
              | refine swp_skip ?_
              | refine thn_ret ?_
              | refine inb_ret ?_
              )
            exact end_retL [J, K] (resOk_two (resV_tmp rfl) (resV_tmp rfl)) ⟨[], rfl, _, _, _, rfl, fun s hs => by cases hs⟩
      · have e : doF 14 (if (14 : Int) = 3 then a else (some k).getD 0) xs = if k ∈ xs then some xs else none := rfl
        rw [e]
        have hH := has_calls [K] b n c xs k hn (by omega)
        refine t_of_body Try.func24 rfl (Nat.le_of_ble_eq_true rfl) fun F => ?_
        repeat' (first
          | refine swp_seq ?_
          | (refine gk 0 rfl ?_; first | refine sl_op rfl rfl rfl (by first | exact opv_move rfl rfl | exact opv_assign rfl rfl | exact opv_pick_t rfl rfl rfl | exact opv_not_t rfl rfl | exact opv_extract rfl rfl rfl ) ?_ )
          | (refine gk 2 rfl ?_; first | refine sl_yes rfl rfl rfl (by first | exact opv_eql rfl rfl rfl ) (by first | omega ) ?_ | refine sl_no rfl rfl rfl (by first | exact opv_eql rfl rfl rfl ) (by first | omega ) ?_ )
          | (refine gk 3 rfl ?_; first | refine sl_op rfl rfl rfl (by first | exact opv_load rfl (by exact rfl) rfl (by exact rfl) | exact opv_fieldAddr rfl rfl | exact opv_loadA rfl (by exact rfl) rfl (by exact rfl) (by exact rfl) | exact opv_indexAddrI rfl rfl rfl (by omega) (by omega) (by first | omega ) | exact opv_load3 rfl (by exact rfl) (by infer_instance) (by assumption) (by assumption) (by assumption)) ?_ )
          | (refine gk 4 rfl ?_; first | refine sl_op rfl rfl rfl (opv_call rfl rfl rfl rfl rfl (hA)) ?_ | refine sl_yes rfl rfl rfl (opv_call rfl rfl rfl rfl rfl (Five_calls _)) (by first | omega ) ?_ | refine sl_op rfl rfl rfl (opv_call rfl rfl rfl rfl rfl (hH)) ?_)
          | (refine gk 5 rfl ?_; first | refine sl_box rfl rfl rfl rfl rfl rfl (fun β => ?_) | refine sl_alloc rfl rfl rfl rfl (by exact rfl) (fun β => ?_) | refine sl_store rfl rfl rfl rfl rfl rfl (by exact rfl) rfl (by exact rfl) ?_)
          | refine sl_region rfl ?_
          | refine sl_nil ?_
          | refine thn_k ?_
          | refine swp_true rfl ?_
          | refine swp_false rfl ?_
          | refine swp_block ?_
          | refine swp_ret ?_
          | refine swp_skip ?_
          | refine thn_ret ?_
          | refine inb_ret ?_
          )
        exact end_retL [J, K] (resOk_two (resV_tmp rfl) (resV_tmp rfl)) ⟨[], rfl, _, _, _, by rw [isSome_if], fun s hs => by
          split at hs
          · cases hs; exact ⟨hn, hnc, inferInstance⟩
          · cases hs⟩
      · have e : doF 15 (if (15 : Int) = 3 then a else (some k).getD 0) xs = if k ∈ xs then some xs else none := rfl
        rw [e]
        have hH := has_calls [K] b n c xs k hn (by omega)
        refine t_of_body Try.func24 rfl (Nat.le_of_ble_eq_true rfl) fun F => ?_
        repeat' (first
          | refine swp_seq ?_
          | (refine gk 0 rfl ?_; first | refine sl_op rfl rfl rfl (by first | exact opv_move rfl rfl | exact opv_assign rfl rfl | exact opv_pick_t rfl rfl rfl | exact opv_not_t rfl rfl | exact opv_extract rfl rfl rfl ) ?_ )
          | (refine gk 2 rfl ?_; first | refine sl_yes rfl rfl rfl (by first | exact opv_eql rfl rfl rfl ) (by first | omega ) ?_ | refine sl_no rfl rfl rfl (by first | exact opv_eql rfl rfl rfl ) (by first | omega ) ?_ )
          | (refine gk 3 rfl ?_; first | refine sl_op rfl rfl rfl (by first | exact opv_load rfl (by exact rfl) rfl (by exact rfl) | exact opv_fieldAddr rfl rfl | exact opv_loadA rfl (by exact rfl) rfl (by exact rfl) (by exact rfl) | exact opv_indexAddrI rfl rfl rfl (by omega) (by omega) (by first | omega ) | exact opv_load3 rfl (by exact rfl) (by infer_instance) (by assumption) (by assumption) (by assumption)) ?_ )
          | (refine gk 4 rfl ?_; first | refine sl_op rfl rfl rfl (opv_call rfl rfl rfl rfl rfl (hA)) ?_ | refine sl_yes rfl rfl rfl (opv_call rfl rfl rfl rfl rfl (Five_calls _)) (by first | omega ) ?_ | refine sl_op rfl rfl rfl (opv_call rfl rfl rfl rfl rfl (hH)) ?_)
          | (refine gk 5 rfl ?_; first | refine sl_box rfl rfl rfl rfl rfl rfl (fun β => ?_) | refine sl_alloc rfl rfl rfl rfl (by exact rfl) (fun β => ?_) | refine sl_store rfl rfl rfl rfl rfl rfl (by exact rfl) rfl (by exact rfl) ?_)
          | refine sl_region rfl ?_
          | refine sl_nil ?_
          | refine thn_k ?_
          | refine swp_true rfl ?_
          | refine swp_false rfl ?_
          | refine swp_block ?_
          | refine swp_ret ?_
          | refine swp_skip ?_
          | refine thn_ret ?_
          | refine inb_ret ?_
          )
        exact end_retL [J, K] (resOk_two (resV_tmp rfl) (resV_tmp rfl)) ⟨[], rfl, _, _, _, by rw [isSome_if], fun s hs => by
          split at hs
          · cases hs; exact ⟨hn, hnc, inferInstance⟩
          · cases hs⟩
      · have e : doF 16 (if (16 : Int) = 3 then a else (some k).getD 0) xs = if k ∈ xs then some xs else none := rfl
        rw [e]
        have hH := has_calls [K] b n c xs k hn (by omega)
        refine t_of_body Try.func24 rfl (Nat.le_of_ble_eq_true rfl) fun F => ?_
        repeat' (first
          | refine swp_seq ?_
          | (refine gk 0 rfl ?_; first | refine sl_op rfl rfl rfl (by first | exact opv_move rfl rfl | exact opv_assign rfl rfl | exact opv_pick_t rfl rfl rfl | exact opv_not_t rfl rfl | exact opv_extract rfl rfl rfl ) ?_ )
          | (refine gk 2 rfl ?_; first | refine sl_yes rfl rfl rfl (by first | exact opv_eql rfl rfl rfl ) (by first | omega ) ?_ | refine sl_no rfl rfl rfl (by first | exact opv_eql rfl rfl rfl ) (by first | omega ) ?_ )
          | (refine gk 3 rfl ?_; first | refine sl_op rfl rfl rfl (by first | exact opv_load rfl (by exact rfl) rfl (by exact rfl) | exact opv_fieldAddr rfl rfl | exact opv_loadA rfl (by exact rfl) rfl (by exact rfl) (by exact rfl) | exact opv_indexAddrI rfl rfl rfl (by omega) (by omega) (by first | omega ) | exact opv_load3 rfl (by exact rfl) (by infer_instance) (by assumption) (by assumption) (by assumption)) ?_ )
          | (refine gk 4 rfl ?_; first | refine sl_op rfl rfl rfl (opv_call rfl rfl rfl rfl rfl (hA)) ?_ | refine sl_yes rfl rfl rfl (opv_call rfl rfl rfl rfl rfl (Five_calls _)) (by first | omega ) ?_ | refine sl_op rfl rfl rfl (opv_call rfl rfl rfl rfl rfl (hH)) ?_)
          | (refine gk 5 rfl ?_; first | refine sl_box rfl rfl rfl rfl rfl rfl (fun β => ?_) | refine sl_alloc rfl rfl rfl rfl (by exact rfl) (fun β => ?_) | refine sl_store rfl rfl rfl rfl rfl rfl (by exact rfl) rfl (by exact rfl) ?_)
          | refine sl_region rfl ?_
          | refine sl_nil ?_
          | refine thn_k ?_
          | refine swp_true rfl ?_
          | refine swp_false rfl ?_
          | refine swp_block ?_
          | refine swp_ret ?_
          | refine swp_skip ?_
          | refine thn_ret ?_
          | refine inb_ret ?_
          )
        exact end_retL [J, K] (resOk_two (resV_tmp rfl) (resV_tmp rfl)) ⟨[], rfl, _, _, _, by rw [isSome_if], fun s hs => by
          split at hs
          · cases hs; exact ⟨hn, hnc, inferInstance⟩
          · cases hs⟩
  · rw [if_neg fun h => h5 h.1]
    have h5n := mt five_iff.2 h5
    obtain ⟨k, is, hA⟩ : ∃ k is, PFn Try.prog 11 [mth p lo st cb cl cc, i64 z] [J] (.tuple ⟨[i64 k, .bool is]⟩) := ⟨_, _, rAsks_calls J p lo st cb cl cc cs z hl hsm⟩
    by_cases h3 : op = 3
    · subst h3
      rw [if_pos rfl]
      have e : doF 3 a xs = if a ∉ xs then some xs else none := rfl
      rw [e]
      by_cases hv : a ∈ xs
      · have hH := has_b [K] b n c xs a hn (by omega) (decide_eq_true hv)
        rw [if_neg fun h => h hv]
        refine t_of_body Try.func24 rfl (Nat.le_of_ble_eq_true rfl) fun F => ?_
        repeat' (first
          | refine swp_seq ?_
          | (refine gk 0 rfl ?_; first | refine sl_op rfl rfl rfl (by first | exact opv_move rfl rfl | exact opv_assign rfl rfl | exact opv_pick_f rfl rfl rfl | exact opv_not_t rfl rfl | exact opv_extract rfl rfl rfl ) ?_ | refine sl_pass rfl rfl rfl rfl ?_)
          | (refine gk 2 rfl ?_; first | refine sl_yes rfl rfl rfl (by first | exact opv_eql rfl rfl rfl ) (by first | omega ) ?_ | refine sl_no rfl rfl rfl (by first | exact opv_eql rfl rfl rfl ) (by first | omega ) ?_ )
          | (refine gk 3 rfl ?_; first | refine sl_op rfl rfl rfl (by first | exact opv_load rfl (by exact rfl) rfl (by exact rfl) | exact opv_fieldAddr rfl rfl | exact opv_loadA rfl (by exact rfl) rfl (by exact rfl) (by exact rfl) | exact opv_indexAddrI rfl rfl rfl (by omega) (by omega) (by first | omega ) | exact opv_load3 rfl (by exact rfl) (by infer_instance) (by assumption) (by assumption) (by assumption)) ?_ )
          | (refine gk 4 rfl ?_; first | refine sl_op rfl rfl rfl (opv_call rfl rfl rfl rfl rfl (hA)) ?_ | refine sl_no rfl rfl rfl (opv_call rfl rfl rfl rfl rfl (Five_calls _)) (by first | omega ) ?_ | refine sl_op rfl rfl rfl (opv_call rfl rfl rfl rfl rfl (hH)) ?_)
          | (refine gk 5 rfl ?_; first | refine sl_box rfl rfl rfl rfl rfl rfl (fun β => ?_) | refine sl_alloc rfl rfl rfl rfl (by exact rfl) (fun β => ?_) | refine sl_store rfl rfl rfl rfl rfl rfl (by exact rfl) rfl (by exact rfl) ?_)
          | refine sl_region rfl ?_
          | refine sl_nil ?_
          | refine thn_k ?_
          | refine swp_true rfl ?_
          | refine swp_false rfl ?_
          | refine swp_block ?_
          | refine swp_ret ?_
          | refine swp_skip ?_
          | refine thn_ret ?_
          | refine inb_ret ?_
          )
        exact end_retL [J, K] (resOk_two (resV_tmp rfl) (resV_tmp rfl)) ⟨[], rfl, _, _, _, rfl, fun s hs => by cases hs⟩
      · have hH := has_b [K] b n c xs a hn (by omega) (decide_eq_false hv)
        rw [if_pos hv]
        refine t_of_body Try.func24 rfl (Nat.le_of_ble_eq_true rfl) fun F => ?_
        repeat' (first
          | refine swp_seq ?_
          | (refine gk 0 rfl ?_; first | refine sl_op rfl rfl rfl (by first | exact opv_move rfl rfl | exact opv_assign rfl rfl | exact opv_pick_f rfl rfl rfl | exact opv_not_f rfl rfl | exact opv_extract rfl rfl rfl ) ?_ | refine sl_pass rfl rfl rfl rfl ?_)
          | (refine gk 2 rfl ?_; first | refine sl_yes rfl rfl rfl (by first | exact opv_eql rfl rfl rfl ) (by first | omega ) ?_ | refine sl_no rfl rfl rfl (by first | exact opv_eql rfl rfl rfl ) (by first | omega ) ?_ )
          | (refine gk 3 rfl ?_; first | refine sl_op rfl rfl rfl (by first | exact opv_load rfl (by exact rfl) rfl (by exact rfl) | exact opv_fieldAddr rfl rfl | exact opv_loadA rfl (by exact rfl) rfl (by exact rfl) (by exact rfl) | exact opv_indexAddrI rfl rfl rfl (by omega) (by omega) (by first | omega ) | exact opv_load3 rfl (by exact rfl) (by infer_instance) (by assumption) (by assumption) (by assumption)) ?_ )
          | (refine gk 4 rfl ?_; first | refine sl_op rfl rfl rfl (opv_call rfl rfl rfl rfl rfl (hA)) ?_ | refine sl_no rfl rfl rfl (opv_call rfl rfl rfl rfl rfl (Five_calls _)) (by first | omega ) ?_ | refine sl_op rfl rfl rfl (opv_call rfl rfl rfl rfl rfl (hH)) ?_)
          | (refine gk 5 rfl ?_; first | refine sl_box rfl rfl rfl rfl rfl rfl (fun β => ?_) | refine sl_alloc rfl rfl rfl rfl (by exact rfl) (fun β => ?_) | refine sl_store rfl rfl rfl rfl rfl rfl (by exact rfl) rfl (by exact rfl) ?_)
          | refine sl_region rfl ?_
          | refine sl_nil ?_
          | refine thn_k ?_
          | refine swp_true rfl ?_
          | refine swp_false rfl ?_
          | refine swp_block ?_
          | refine swp_ret ?_
          | refine swp_skip ?_
          | refine thn_ret ?_
          | refine inb_ret ?_
          )
        exact end_retL [J, K] (resOk_two (resV_tmp rfl) (resV_tmp rfl)) ⟨[], rfl, _, _, _, rfl, fun s hs => by cases hs; exact ⟨hn, hnc, inferInstance⟩⟩
    · rw [if_neg h3]
      by_cases h20 : op = 20
      · subst h20
        have e : doF 20 ((askO cs z).getD 0) xs = if xs = [] then some xs else none := rfl
        rw [e]
        have hx0 : xs = [] ↔ n = 0 := by rw [← hn]; exact List.length_eq_zero_iff.symm
        by_cases hn0 : n = 0
        · rw [if_pos (hx0.2 hn0)]
          refine t_of_body Try.func24 rfl (Nat.le_of_ble_eq_true rfl) fun F => ?_
          repeat' (first
            | refine swp_seq ?_
            | (refine gk 0 rfl ?_; first | refine sl_op rfl rfl rfl (by first | exact opv_move rfl rfl | exact opv_assign rfl rfl | exact opv_pick_f rfl rfl rfl | exact opv_extract rfl rfl rfl ) ?_ | refine sl_pass rfl rfl rfl rfl ?_)
            | (refine gk 2 rfl ?_; first | refine sl_yes rfl rfl rfl (by first | exact opv_eql rfl rfl rfl ) (by first | omega ) ?_ | refine sl_no rfl rfl rfl (by first | exact opv_eql rfl rfl rfl ) (by first | omega ) ?_ )
            | (refine gk 3 rfl ?_; first | refine sl_op rfl rfl rfl (by first | exact opv_load rfl (by exact rfl) rfl (by exact rfl) | exact opv_fieldAddr rfl rfl | exact opv_loadA rfl (by exact rfl) rfl (by exact rfl) (by exact rfl) | exact opv_indexAddrI rfl rfl rfl (by omega) (by omega) (by first | omega ) | exact opv_load3 rfl (by exact rfl) (by infer_instance) (by assumption) (by assumption) (by assumption)) ?_ )
            | (refine gk 4 rfl ?_; first | refine sl_op rfl rfl rfl (by first | exact opv_len rfl rfl rfl rfl rfl ) ?_ | refine sl_op rfl rfl rfl (opv_call rfl rfl rfl rfl rfl (hA)) ?_ | refine sl_no rfl rfl rfl (opv_call rfl rfl rfl rfl rfl (Five_calls _)) (by first | omega ) ?_ )
            | (refine gk 5 rfl ?_; first | refine sl_box rfl rfl rfl rfl rfl rfl (fun β => ?_) | refine sl_alloc rfl rfl rfl rfl (by exact rfl) (fun β => ?_) | refine sl_store rfl rfl rfl rfl rfl rfl (by exact rfl) rfl (by exact rfl) ?_)
            | refine sl_region rfl ?_
            | refine sl_nil ?_
            | refine thn_k ?_
            | refine swp_true rfl ?_
            | refine swp_false rfl ?_
            | refine swp_block ?_
            | refine swp_ret ?_
            | refine swp_skip ?_
            | refine thn_ret ?_
            | refine inb_ret ?_
            )
          exact end_retL [J, K] (resOk_two (resV_tmp rfl) (resV_tmp rfl)) ⟨[], rfl, _, _, _, rfl, fun s hs => by cases hs; exact ⟨hn, hnc, inferInstance⟩⟩
        · rw [if_neg (mt hx0.1 hn0)]
          refine t_of_body Try.func24 rfl (Nat.le_of_ble_eq_true rfl) fun F => ?_
          repeat' (first
            | refine swp_seq ?_
            | (refine gk 0 rfl ?_; first | refine sl_op rfl rfl rfl (by first | exact opv_move rfl rfl | exact opv_assign rfl rfl | exact opv_pick_f rfl rfl rfl | exact opv_extract rfl rfl rfl ) ?_ | refine sl_pass rfl rfl rfl rfl ?_)
            | (refine gk 2 rfl ?_; first | refine sl_yes rfl rfl rfl (by first | exact opv_eql rfl rfl rfl ) (by first | omega ) ?_ | refine sl_no rfl rfl rfl (by first | exact opv_eql rfl rfl rfl ) (by first | omega ) ?_ )
            | (refine gk 3 rfl ?_; first | refine sl_op rfl rfl rfl (by first | exact opv_load rfl (by exact rfl) rfl (by exact rfl) | exact opv_fieldAddr rfl rfl | exact opv_loadA rfl (by exact rfl) rfl (by exact rfl) (by exact rfl) | exact opv_indexAddrI rfl rfl rfl (by omega) (by omega) (by first | omega ) | exact opv_load3 rfl (by exact rfl) (by infer_instance) (by assumption) (by assumption) (by assumption)) ?_ )
            | (refine gk 4 rfl ?_; first | refine sl_op rfl rfl rfl (by first | exact opv_len rfl rfl rfl rfl rfl ) ?_ | refine sl_op rfl rfl rfl (opv_call rfl rfl rfl rfl rfl (hA)) ?_ | refine sl_no rfl rfl rfl (opv_call rfl rfl rfl rfl rfl (Five_calls _)) (by first | omega ) ?_ )
            | (refine gk 5 rfl ?_; first | refine sl_box rfl rfl rfl rfl rfl rfl (fun β => ?_) | refine sl_alloc rfl rfl rfl rfl (by exact rfl) (fun β => ?_) | refine sl_store rfl rfl rfl rfl rfl rfl (by exact rfl) rfl (by exact rfl) ?_)
            | refine sl_region rfl ?_
            | refine sl_nil ?_
            | refine thn_k ?_
            | refine swp_true rfl ?_
            | refine swp_false rfl ?_
            | refine swp_block ?_
            | refine swp_ret ?_
            | refine swp_skip ?_
            | refine thn_ret ?_
            | refine inb_ret ?_
            )
          exact end_retL [J, K] (resOk_two (resV_tmp rfl) (resV_tmp rfl)) ⟨[], rfl, _, _, _, rfl, fun s hs => by cases hs⟩
      · rw [doF_other h5 h3 h20]
        refine t_of_body Try.func24 rfl (Nat.le_of_ble_eq_true rfl) fun F => ?_
        repeat' (first
          | refine swp_seq ?_
          | (refine gk 0 rfl ?_; first | refine sl_op rfl rfl rfl (by first | exact opv_move rfl rfl | exact opv_assign rfl rfl | exact opv_pick_f rfl rfl rfl | exact opv_extract rfl rfl rfl ) ?_ | refine sl_pass rfl rfl rfl rfl ?_)
          | (refine gk 2 rfl ?_; first | refine sl_no rfl rfl rfl (by first | exact opv_eql rfl rfl rfl ) (by first | omega ) ?_ )
          | (refine gk 3 rfl ?_; first | refine sl_op rfl rfl rfl (by first | exact opv_load rfl (by exact rfl) rfl (by exact rfl) | exact opv_fieldAddr rfl rfl | exact opv_loadA rfl (by exact rfl) rfl (by exact rfl) (by exact rfl) | exact opv_indexAddrI rfl rfl rfl (by omega) (by omega) (by first | omega ) | exact opv_load3 rfl (by exact rfl) (by infer_instance) (by assumption) (by assumption) (by assumption)) ?_ )
          | (refine gk 4 rfl ?_; first | refine sl_op rfl rfl rfl (opv_call rfl rfl rfl rfl rfl (hA)) ?_ | refine sl_no rfl rfl rfl (opv_call rfl rfl rfl rfl rfl (Five_calls _)) (by first | omega ) ?_ )
          | (refine gk 5 rfl ?_; first | refine sl_box rfl rfl rfl rfl rfl rfl (fun β => ?_) | refine sl_alloc rfl rfl rfl rfl (by exact rfl) (fun β => ?_) | refine sl_store rfl rfl rfl rfl rfl rfl (by exact rfl) rfl (by exact rfl) ?_)
          | refine sl_region rfl ?_
          | refine sl_nil ?_
          | refine thn_k ?_
          | refine swp_false rfl ?_
          | refine swp_block ?_
          | refine swp_ret ?_
          | refine swp_skip ?_
          )
        exact end_retL [J, K] (resOk_two (resV_tmp rfl) (resV_tmp rfl)) ⟨[], rfl, _, _, _, rfl, fun s hs => by cases hs; exact ⟨hn, hnc, inferInstance⟩⟩
end Go.Proofs.Ytifhhfeibnpaoaa
