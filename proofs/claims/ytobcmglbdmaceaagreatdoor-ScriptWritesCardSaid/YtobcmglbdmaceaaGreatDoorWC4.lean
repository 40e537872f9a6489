/- The document's printing: walked. -/
import Derived.Test.YtobcmglbdmaceaaGreatDoorWC2
set_option linter.unusedVariables false
set_option linter.unusedSimpArgs false
set_option linter.unusedSectionVars false
namespace Go.Proofs.YtobcmglbdmaceaaGreatDoor
open Go.SL
set_option maxRecDepth 100000
set_option maxHeartbeats 16000000
attribute [local irreducible] SL.T PFn OpV SOL SWP HOp ChU
-- QUIET 23
-- ALIAS Tryz
theorem wrap48 : ∀ n : Fin 10, IntKind.u8.wrap (48 + (n.val : Int)) = ((UInt8.ofNat (48 + n.val)).toNat : Int) := by decide +kernel
theorem digits_calls : ∀ (u : Nat), u ≤ 99999 → PFn Tryz.prog 23 [i64 (u : Int)] [] (str (Lib.decDigits u)) := by
  intro u
  induction u using Nat.strongRecOn with
  | _ u ih =>
    intro hu
    have hr : Value.int .i64 ((u : Int).tmod 10) = i64 ((u % 10 : Nat) : Int) := congrArg (Value.int .i64) (Int.ofNat_tmod u 10).symm
    have hq : Value.int .i64 (IntKind.i64.wrap ((u : Int).tdiv 10)) = i64 ((u / 10 : Nat) : Int) := congrArg (Value.int .i64) (by rw [show (u : Int).tdiv 10 = ((u / 10 : Nat) : Int) from (Int.ofNat_tdiv u 10).symm, wrap64_id (by omega) (by omega)])
    have hcv : Value.int .u8 (IntKind.u8.wrap (48 + ((u % 10 : Nat) : Int))) = .int .u8 ((UInt8.ofNat (48 + u % 10)).toNat : Int) := congrArg _ (wrap48 ⟨u % 10, by omega⟩)
    by_cases h : u < 10
    · rw [dd_small h]
      rw [show u % 10 = u by omega] at hcv hr
      refine pure_of_body Tryz.func23 rfl (Nat.le_of_ble_eq_true rfl) fun F => ?_
      repeat' (first
        | refine sl_op rfl rfl rfl ((opv_rem rfl rfl rfl (by omega)).to hr) ?_
        | refine sl_op rfl rfl rfl ((opv_convert rfl rfl).to hcv) ?_
        | refine sl_op rfl rfl rfl (opv_toStr (e := 5) (l := [UInt8.ofNat (48 + u)]) rfl rfl (by infer_instance) rfl) ?_
        | refine swp_seq ?_
        | (refine gk 0 rfl ?_; first | refine sl_op rfl rfl rfl (by first | exact opv_move rfl rfl | exact opv_assign rfl rfl ) ?_ )
        | (refine gk 1 rfl ?_; first | refine sl_op rfl rfl rfl (by first | exact opv_add64 rfl rfl rfl (by omega) (by omega) ) ?_ )
        | (refine gk 2 rfl ?_; first | refine sl_yes rfl rfl rfl (by first | exact opv_lss rfl rfl rfl ) (by first | omega ) ?_ )
        | (refine gk 5 rfl ?_; first | refine sl_buildSlice rfl rfl rfl rfl rfl (by exact rfl) (by exact rfl) (by exact rfl) (by exact rfl) rfl (fun b => ?_) )
        | refine sl_region rfl ?_
        | refine sl_nil ?_
        | refine thn_k ?_
        | refine swp_true rfl ?_
        | refine swp_ret ?_
        | refine thn_ret ?_
        )
      refine end_pure (resOk_one (resV_tmp rfl)) ?_
      rfl
    · rw [dd_big h]
      have hc := ih (u / 10) (by omega) (by omega)
      have hl := dd_len 4 (u / 10) (by simp; omega)
      refine pure_of_body Tryz.func23 rfl (Nat.le_of_ble_eq_true rfl) fun F => ?_
      repeat' (first
        | refine sl_op rfl rfl rfl ((opv_rem rfl rfl rfl (by omega)).to hr) ?_
        | refine sl_op rfl rfl rfl ((opv_quo rfl rfl rfl (by omega)).to hq) ?_
        | refine sl_op rfl rfl rfl ((opv_convert rfl rfl).to hcv) ?_
        | refine sl_op rfl rfl rfl (opv_toStr (e := 5) (l := [UInt8.ofNat (48 + u % 10)]) rfl rfl (by infer_instance) rfl) ?_
        | refine sl_op rfl rfl rfl (opv_addS rfl rfl rfl (by simp only [List.length_cons, List.length_nil]; omega)) ?_
        | refine swp_seq ?_
        | (refine gk 0 rfl ?_; first | refine sl_op rfl rfl rfl (by first | exact opv_move rfl rfl | exact opv_assign rfl rfl ) ?_ )
        | (refine gk 1 rfl ?_; first | refine sl_op rfl rfl rfl (by first | exact opv_add64 rfl rfl rfl (by omega) (by omega) ) ?_ )
        | (refine gk 2 rfl ?_; first | refine sl_no rfl rfl rfl (by first | exact opv_lss rfl rfl rfl ) (by first | omega ) ?_ )
        | (refine gk 4 rfl ?_; first | refine sl_op rfl rfl rfl (opv_call rfl rfl rfl rfl rfl (hc)) ?_)
        | (refine gk 5 rfl ?_; first | refine sl_buildSlice rfl rfl rfl rfl rfl (by exact rfl) (by exact rfl) (by exact rfl) (by exact rfl) rfl (fun b => ?_) )
        | refine sl_region rfl ?_
        | refine sl_nil ?_
        | refine thn_k ?_
        | refine swp_false rfl ?_
        | refine swp_ret ?_
        | refine swp_skip ?_
        )
      refine end_pure (resOk_one (resV_tmp rfl)) ?_
      rfl
/-- What is written so far. -/
def pre (l : List Pk) (j : Nat) : List UInt8 := Lib.join ((l.take j).map wordP) [32]
theorem pre_succ {l : List Pk} {j : Nat} {p : Pk} (h : l[j]? = some p) : pre l (j + 1) = if j = 0 then wordP p else pre l j ++ [32] ++ wordP p := by
  unfold pre
  have hj := (List.getElem?_eq_some_iff.1 h).1
  rw [List.take_add_one, h, Option.toList_some, List.map_append, List.map_cons, List.map_nil, join_snoc]
  by_cases h0 : j = 0
  · subst h0; simp
  · rw [if_neg, if_neg h0, List.append_assoc]
    intro e
    have := congrArg List.length e
    rw [List.length_map, List.length_take, List.length_nil] at this
    omega
theorem pre_len (l : List Pk) (j : Nat) : (pre l j).length ≤ l.length * 7 := by
  have := join_len [32] 6 ((l.take j).map wordP) (fun x hx => by obtain ⟨p, -, rfl⟩ := List.mem_map.1 hx; exact wordP_len p)
  unfold pre
  simp only [List.length_map, List.length_take, List.length_cons, List.length_nil] at this
  have h2 : min j l.length ≤ l.length := Nat.min_le_right _ _
  omega
theorem letF_arr {k : Int} (h0 : 0 ≤ k) (h1 : k ≤ 2) : ∃ s, letF k = some s ∧ s.length ≤ 1 ∧ ([str [], str [116], str [115]] : List Value)[k.toNat * 1]? = some (str s) := by
  have : k = 0 ∨ k = 1 ∨ k = 2 := by omega
  rcases this with rfl | rfl | rfl
  · exact ⟨[], rfl, by simp, rfl⟩
  · exact ⟨[116], rfl, by simp, rfl⟩
  · exact ⟨[115], rfl, by simp, rfl⟩
theorem wordP_bad {p : Pk} (h : ¬ (0 ≤ p.th ∧ p.th ≤ 99999 ∧ 0 ≤ p.kd ∧ p.kd ≤ 2)) : wordP p = [45] := by
  unfold wordP
  cases e : letF p.kd with
  | none => rfl
  | some s =>
    dsimp only
    rw [if_neg]
    rintro ⟨h1, h2⟩
    refine h ⟨h1, h2, ?_⟩
    unfold letF at e
    split at e
    · omega
    · split at e
      · omega
      · split at e
        · omega
        · cases e
theorem rPrint_calls (J : Heap) (b : Option Addr) (n c : Nat) (l : List Pk) (sl : Sl J b (flatP l)) (hl : l.length = n) (hn : n ≤ 10000) :
    PFn Tryz.prog 9 [.slice b n c] [J] (str (printF l)) := by
  refine pure_of_body Tryz.func9 rfl (Nat.le_of_ble_eq_true rfl) fun F => ?_
  repeat' (first
    | refine swp_seq ?_
    | (refine gk 0 rfl ?_; first | refine sl_op rfl rfl rfl (by first | exact opv_assign rfl rfl ) ?_ )
    | refine sl_region rfl ?_
    | refine sl_nil ?_
    | refine thn_k ?_
    | refine swp_block ?_
    )
  refine swp_loopS (fun j : Nat => [(0, .slice b n c), (3, str (pre l j)), (4, i64 (j : Int))]) (fun _ => [J]) (fun j => j ≤ n) (fun j => n - j) 0 (by repeat first | exact Sub.nil _ | refine Sub.cons rfl ?_) (Nat.zero_le _) ?_
  intro j hj
  have hpl := pre_len l j
  by_cases hj2 : j < n
  · obtain ⟨p, hp⟩ : ∃ p, l[j]? = some p := ⟨_, List.getElem?_eq_getElem (by omega)⟩
    obtain ⟨c1, c2⟩ := flatP_at hp
    have hfl := flatP_length l
    have hcl : ((j : Nat) : Int).toNat * 2 < (flatP l).length := by simp; omega
    have hc1 : (flatP l)[((j : Nat) : Int).toNat * 2]? = some (i64 p.th) := by simpa using c1
    have hc2 : (flatP l)[((j : Nat) : Int).toNat * 2 + 1]? = some (i64 p.kd) := by simpa using c2
    have hsu := pre_succ hp
    obtain ⟨s0, hs0⟩ : ∃ s0, s0 = if j = 0 then [] else pre l j ++ [32] := ⟨_, rfl⟩
    have hpre : pre l (j + 1) = s0 ++ wordP p := by
      rw [hsu, hs0]
      split
      · rfl
      · rfl
    have hs0l : s0.length ≤ l.length * 7 + 1 := by
      rw [hs0]; split
      · simp
      · simp; omega
    repeat' ((fail_if_success (refine stop_at 5 ?_)); (first
      | refine swp_seq ?_
      | (refine gk 0 rfl ?_; first | refine sl_op rfl rfl rfl (by first | exact opv_move rfl rfl ) ?_ )
      | (refine gk 2 rfl ?_; first | refine sl_yes rfl rfl rfl (by first | exact opv_lss rfl rfl rfl ) (by first | omega ) ?_ )
      | (refine gk 4 rfl ?_; first | refine sl_op rfl rfl rfl (by first | exact opv_len rfl rfl rfl rfl rfl ) ?_)
      | refine sl_region rfl ?_
      | refine sl_nil ?_
      | refine thn_k ?_
      | refine swp_true rfl ?_
      | refine swp_block ?_
      | refine swp_skip ?_
      ))
    refine swp_seq ?_
    refine swp_joinS (S := Unit) (fun _ => [(0, .slice b n c), (3, str s0), (4, i64 (j : Int))]) (fun _ => [J]) (fun _ => True) ?_ ?_
    · by_cases h0 : j = 0
      · rw [if_pos h0] at hs0
        subst h0
        subst hs0
        have hp0 : pre l 0 = [] := rfl
        rw [hp0]
        repeat' (first
          | refine swp_seq ?_
          | (refine gk 0 rfl ?_; first | refine sl_op rfl rfl rfl (by first | exact opv_move rfl rfl ) ?_ )
          | (refine gk 2 rfl ?_; first | refine sl_no rfl rfl rfl (by first | exact opv_gtr rfl rfl rfl ) (by first | omega ) ?_ )
          | refine sl_region rfl ?_
          | refine sl_nil ?_
          | refine thn_k ?_
          | refine swp_false rfl ?_
          | refine swp_skip ?_
          )
        exact ⟨rfl, (), next_ok (by repeat first | exact Sub.nil _ | refine Sub.cons rfl ?_), trivial⟩
      · rw [if_neg h0] at hs0
        subst hs0
        repeat' (first
          | refine sl_op rfl rfl rfl (opv_addS rfl rfl rfl (by simp only [List.length_cons, List.length_nil]; omega)) ?_
          | refine swp_seq ?_
          | (refine gk 0 rfl ?_; first | refine sl_op rfl rfl rfl (by first | exact opv_move rfl rfl | exact opv_assign rfl rfl ) ?_ )
          | (refine gk 2 rfl ?_; first | refine sl_yes rfl rfl rfl (by first | exact opv_gtr rfl rfl rfl ) (by first | omega ) ?_ )
          | refine sl_region rfl ?_
          | refine sl_nil ?_
          | refine thn_k ?_
          | refine swp_true rfl ?_
          )
        exact ⟨rfl, (), next_ok (by repeat first | exact Sub.nil _ | refine Sub.cons rfl ?_), trivial⟩
    · rintro - -
      have bad : ¬ (0 ≤ p.th ∧ p.th ≤ 99999 ∧ 0 ≤ p.kd ∧ p.kd ≤ 2) → pre l (j + 1) = s0 ++ [45] := fun h => by rw [hpre, wordP_bad h]
      by_cases t0 : 0 ≤ p.th
      · by_cases t1 : p.th ≤ 99999
        · by_cases k0 : 0 ≤ p.kd
          · by_cases k1 : p.kd ≤ 2
            · obtain ⟨s1, e1, e2, e3⟩ := letF_arr k0 k1
              obtain ⟨u, hu⟩ : ∃ u : Nat, p.th = (u : Int) := ⟨p.th.toNat, by omega⟩
              have hw : wordP p = Lib.decDigits u ++ s1 := by
                unfold wordP
                rw [e1]
                dsimp only
                rw [if_pos ⟨t0, t1⟩, hu, show Lib.itoa (u : Int) = Lib.decDigits u by unfold Lib.itoa; rw [if_neg (by omega), Int.toNat_natCast]]
              rw [hw, ← List.append_assoc] at hpre
              have hd := digits_calls u (by omega)
              have hdl := dd_len 4 u (by simp; omega)
              rw [hu] at hc1 t0 t1
              have hk : p.kd.toNat * 1 < ([str [], str [116], str [115]] : List Value).length := by simp; omega
              repeat' (first
                | refine swp_seq ?_
                | (refine gk 0 rfl ?_; first | refine sl_op rfl rfl rfl (by first | exact opv_move rfl rfl | exact opv_pick_f rfl rfl rfl ) ?_ )
                | (refine gk 2 rfl ?_; first | refine sl_no rfl rfl rfl (by first | exact opv_lss rfl rfl rfl | exact opv_gtr rfl rfl rfl ) (by first | omega ) ?_ )
                | (refine gk 3 rfl ?_; first | refine sl_op rfl rfl rfl (by first | exact opv_load rfl (by exact rfl) rfl (by exact rfl) | exact opv_fieldAddr rfl rfl | exact opv_indexAddrI rfl rfl rfl (by omega) (by omega) (by first | omega ) | exact opv_load2 rfl (by exact rfl) (by infer_instance) (by assumption) (by assumption) ) ?_ )
                | (refine gk 5 rfl ?_; first | refine sl_alloc rfl rfl rfl rfl (by exact rfl) (fun β => ?_) | refine sl_store rfl rfl rfl rfl rfl rfl (by exact rfl) rfl (by exact rfl) ?_)
                | refine sl_region rfl ?_
                | refine sl_nil ?_
                | refine thn_k ?_
                | refine swp_false rfl ?_
                | refine swp_skip ?_
                )
              refine sl_drawC [.q [0, 1, 2, 3, 4], .an 5, .q [6, 7], .rv 5, .q [8, 9, 10, 11]] [] (by kernel_rfl) (by kernel_rfl) (by kernel_rfl) (by kernel_rfl) ?_
              repeat' (first
                | refine sl_op rfl rfl rfl (opv_addS rfl rfl rfl (by first | omega | (simp only [List.length_append]; omega))) ?_
                | (refine gk 0 rfl ?_; first | refine sl_op rfl rfl rfl (by first | exact opv_move rfl rfl | exact opv_assign rfl rfl ) ?_ )
                | (refine gk 1 rfl ?_; first | refine sl_op rfl rfl rfl (by first | exact opv_add64 rfl rfl rfl (by omega) (by omega) ) ?_ )
                | (refine gk 3 rfl ?_; first | refine sl_op rfl rfl rfl (by first | exact opv_load rfl (by exact rfl) rfl (by exact rfl) | exact opv_fieldAddr rfl rfl | exact opv_indexAddrI rfl rfl rfl (by omega) (by omega) (by first | omega ) | exact opv_loadEx rfl (by exact rfl) (by infer_instance) (by first | assumption ) ) ?_ )
                | (refine gk 4 rfl ?_; first | refine sl_op rfl rfl rfl (opv_call rfl rfl rfl rfl rfl (hd)) ?_)
                | refine sl_region rfl ?_
                | refine chu_nil ?_
                | refine chu_q rfl ?_
                | refine chu_new rfl rfl (by first | exact new_buildSlice rfl rfl (by exact rfl) (by exact rfl) (by exact rfl) (by exact rfl) (by exact rfl)) ?_
                | refine chu_rv rfl rfl rfl (fun β => ?_)
                | refine sl_nil ?_
                | refine thn_k ?_
                )
              exact ⟨rfl, j + 1, by rw [hpre]; exact next_ok (by repeat first | exact Sub.nil _ | refine Sub.cons rfl ?_), hj2, by omega⟩
            · rw [bad (fun h => k1 h.2.2.2)] at hpre
              repeat' (first
                | refine sl_op rfl rfl rfl (opv_addS rfl rfl rfl (by simp only [List.length_cons, List.length_nil]; omega)) ?_
                | refine swp_seq ?_
                | (refine gk 0 rfl ?_; first | refine sl_op rfl rfl rfl (by first | exact opv_move rfl rfl | exact opv_assign rfl rfl | exact opv_pick_f rfl rfl rfl ) ?_ )
                | (refine gk 1 rfl ?_; first | refine sl_op rfl rfl rfl (by first | exact opv_add64 rfl rfl rfl (by omega) (by omega) ) ?_ )
                | (refine gk 2 rfl ?_; first | refine sl_yes rfl rfl rfl (by first | exact opv_lss rfl rfl rfl | exact opv_gtr rfl rfl rfl ) (by first | omega ) ?_ | refine sl_no rfl rfl rfl (by first | exact opv_lss rfl rfl rfl | exact opv_gtr rfl rfl rfl ) (by first | omega ) ?_ )
                | (refine gk 3 rfl ?_; first | refine sl_op rfl rfl rfl (by first | exact opv_load rfl (by exact rfl) rfl (by exact rfl) | exact opv_fieldAddr rfl rfl | exact opv_indexAddrI rfl rfl rfl (by omega) (by omega) (by first | omega ) | exact opv_load2 rfl (by exact rfl) (by infer_instance) (by assumption) (by assumption) ) ?_ )
                | (refine gk 5 rfl ?_; first | refine sl_alloc rfl rfl rfl rfl (by exact rfl) (fun β => ?_) | refine sl_store rfl rfl rfl rfl rfl rfl (by exact rfl) rfl (by exact rfl) ?_)
                | refine sl_region rfl ?_
                | refine sl_nil ?_
                | refine thn_k ?_
                | refine swp_true rfl ?_
                | refine swp_exit ?_
                )
              exact ⟨rfl, j + 1, by rw [bad (fun h => k1 h.2.2.2)]; exact next_ok (by repeat first | exact Sub.nil _ | refine Sub.cons rfl ?_), hj2, by omega⟩
          · repeat' (first
              | refine sl_op rfl rfl rfl (opv_addS rfl rfl rfl (by simp only [List.length_cons, List.length_nil]; omega)) ?_
              | refine swp_seq ?_
              | (refine gk 0 rfl ?_; first | refine sl_op rfl rfl rfl (by first | exact opv_move rfl rfl | exact opv_assign rfl rfl | exact opv_pick_t rfl rfl rfl | exact opv_pick_f rfl rfl rfl ) ?_ )
              | (refine gk 1 rfl ?_; first | refine sl_op rfl rfl rfl (by first | exact opv_add64 rfl rfl rfl (by omega) (by omega) ) ?_ )
              | (refine gk 2 rfl ?_; first | refine sl_pass rfl rfl rfl rfl ?_ | refine sl_yes rfl rfl rfl (by first | exact opv_lss rfl rfl rfl | exact opv_gtr rfl rfl rfl ) (by first | omega ) ?_ | refine sl_no rfl rfl rfl (by first | exact opv_lss rfl rfl rfl | exact opv_gtr rfl rfl rfl ) (by first | omega ) ?_ )
              | (refine gk 3 rfl ?_; first | refine sl_op rfl rfl rfl (by first | exact opv_load rfl (by exact rfl) rfl (by exact rfl) | exact opv_fieldAddr rfl rfl | exact opv_indexAddrI rfl rfl rfl (by omega) (by omega) (by first | omega ) | exact opv_load2 rfl (by exact rfl) (by infer_instance) (by assumption) (by assumption) ) ?_ | refine sl_pass rfl rfl rfl rfl ?_)
              | (refine gk 5 rfl ?_; first | refine sl_alloc rfl rfl rfl rfl (by exact rfl) (fun β => ?_) | refine sl_store rfl rfl rfl rfl rfl rfl (by exact rfl) rfl (by exact rfl) ?_)
              | refine sl_region rfl ?_
              | refine sl_nil ?_
              | refine thn_k ?_
              | refine swp_true rfl ?_
              | refine swp_exit ?_
              )
            exact ⟨rfl, j + 1, by rw [bad (fun h => k0 h.2.2.1)]; exact next_ok (by repeat first | exact Sub.nil _ | refine Sub.cons rfl ?_), hj2, by omega⟩
        · repeat' (first
            | refine sl_op rfl rfl rfl (opv_addS rfl rfl rfl (by simp only [List.length_cons, List.length_nil]; omega)) ?_
            | refine swp_seq ?_
            | (refine gk 0 rfl ?_; first | refine sl_op rfl rfl rfl (by first | exact opv_move rfl rfl | exact opv_assign rfl rfl | exact opv_pick_t rfl rfl rfl | exact opv_pick_f rfl rfl rfl ) ?_ )
            | (refine gk 1 rfl ?_; first | refine sl_op rfl rfl rfl (by first | exact opv_add64 rfl rfl rfl (by omega) (by omega) ) ?_ )
            | (refine gk 2 rfl ?_; first | refine sl_pass rfl rfl rfl rfl ?_ | refine sl_yes rfl rfl rfl (by first | exact opv_lss rfl rfl rfl | exact opv_gtr rfl rfl rfl ) (by first | omega ) ?_ | refine sl_no rfl rfl rfl (by first | exact opv_lss rfl rfl rfl ) (by first | omega ) ?_ )
            | (refine gk 3 rfl ?_; first | refine sl_op rfl rfl rfl (by first | exact opv_load rfl (by exact rfl) rfl (by exact rfl) | exact opv_fieldAddr rfl rfl | exact opv_indexAddrI rfl rfl rfl (by omega) (by omega) (by first | omega ) | exact opv_load2 rfl (by exact rfl) (by infer_instance) (by assumption) (by assumption) ) ?_ | refine sl_pass rfl rfl rfl rfl ?_)
            | (refine gk 5 rfl ?_; first | refine sl_alloc rfl rfl rfl rfl (by exact rfl) (fun β => ?_) | refine sl_store rfl rfl rfl rfl rfl rfl (by exact rfl) rfl (by exact rfl) ?_)
            | refine sl_region rfl ?_
            | refine sl_nil ?_
            | refine thn_k ?_
            | refine swp_true rfl ?_
            | refine swp_exit ?_
            )
          exact ⟨rfl, j + 1, by rw [bad (fun h => t1 h.2.1)]; exact next_ok (by repeat first | exact Sub.nil _ | refine Sub.cons rfl ?_), hj2, by omega⟩
      · repeat' (first
          | refine sl_op rfl rfl rfl (opv_addS rfl rfl rfl (by simp only [List.length_cons, List.length_nil]; omega)) ?_
          | refine swp_seq ?_
          | (refine gk 0 rfl ?_; first | refine sl_op rfl rfl rfl (by first | exact opv_move rfl rfl | exact opv_assign rfl rfl | exact opv_pick_t rfl rfl rfl ) ?_ )
          | (refine gk 1 rfl ?_; first | refine sl_op rfl rfl rfl (by first | exact opv_add64 rfl rfl rfl (by omega) (by omega) ) ?_ )
          | (refine gk 2 rfl ?_; first | refine sl_pass rfl rfl rfl rfl ?_ | refine sl_yes rfl rfl rfl (by first | exact opv_lss rfl rfl rfl ) (by first | omega ) ?_ )
          | (refine gk 3 rfl ?_; first | refine sl_op rfl rfl rfl (by first | exact opv_load rfl (by exact rfl) rfl (by exact rfl) | exact opv_fieldAddr rfl rfl | exact opv_indexAddrI rfl rfl rfl (by omega) (by omega) (by first | omega ) | exact opv_load2 rfl (by exact rfl) (by infer_instance) (by assumption) (by assumption) ) ?_ | refine sl_pass rfl rfl rfl rfl ?_)
          | (refine gk 5 rfl ?_; first | refine sl_alloc rfl rfl rfl rfl (by exact rfl) (fun β => ?_) | refine sl_store rfl rfl rfl rfl rfl rfl (by exact rfl) rfl (by exact rfl) ?_)
          | refine sl_region rfl ?_
          | refine sl_nil ?_
          | refine thn_k ?_
          | refine swp_true rfl ?_
          | refine swp_exit ?_
          )
        exact ⟨rfl, j + 1, by rw [bad (fun h => t0 h.1)]; exact next_ok (by repeat first | exact Sub.nil _ | refine Sub.cons rfl ?_), hj2, by omega⟩
  · obtain rfl : j = n := by omega
    repeat' (first
      | refine swp_seq ?_
      | (refine gk 0 rfl ?_; first | refine sl_op rfl rfl rfl (by first | exact opv_move rfl rfl | exact opv_assign rfl rfl ) ?_ )
      | (refine gk 2 rfl ?_; first | refine sl_no rfl rfl rfl (by first | exact opv_lss rfl rfl rfl ) (by first | omega ) ?_ )
      | (refine gk 4 rfl ?_; first | refine sl_op rfl rfl rfl (by first | exact opv_len rfl rfl rfl rfl rfl ) ?_)
      | refine sl_region rfl ?_
      | refine sl_nil ?_
      | refine thn_k ?_
      | refine swp_false rfl ?_
      | refine swp_ret ?_
      | refine swp_exit ?_
      )
    refine end_pure (resOk_one (resV_tmp rfl)) ?_
    unfold pre printF
    rw [← hl, List.take_length]
end Go.Proofs.YtobcmglbdmaceaaGreatDoor
