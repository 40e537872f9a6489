/- How far places are: as a row. -/
import Derived.Test.YtgcajldkegdllaaWF
import Derived.Test.YtgcajldkegdllaaSlG8
namespace Go.Proofs.Ytgcajldkegdllaa
open Go.SL
set_option maxRecDepth 100000
set_option maxHeartbeats 16000000
attribute [local irreducible] SL.T PFn OpV SOL SWP HOp ChU
theorem set_cells {gs : List Int} {k j : Nat} {z : Int} (e : k = j) (hk : j < gs.length) : (gs.map i64).take k ++ [i64 z] ++ (gs.map i64).drop (k + 1) = (gs.set j z).map i64 := by
  subst e
  rw [List.map_set, List.set_eq_take_append_cons_drop, if_pos (by simpa using hk)]
  simp
/-- How far a place is; -1: it is not come to. -/
def farOf (V : List Int) (d : Int → Int) (z : Int) : Int := if z ∈ V then d z else -1
def farL (n : Nat) (V : List Int) (d : Int → Int) : List Int := (List.range n).map fun (z : Nat) => farOf V d (z : Int)
def farP (n : Nat) (V : List Int) (d : Int → Int) (j : Nat) : List Int := (farL n V d).take j ++ List.replicate (n - j) 0
theorem farL_length {n : Nat} {V : List Int} {d : Int → Int} : (farL n V d).length = n := by simp [farL]
theorem farP_length {n : Nat} {V : List Int} {d : Int → Int} {j : Nat} (hj : j ≤ n) : (farP n V d j).length = n := by simp [farP, farL_length]; omega
theorem farL_at {n : Nat} {V : List Int} {d : Int → Int} {j : Nat} (hj : j < n) : (farL n V d)[j]? = some (farOf V d (j : Int)) := by simp [farL, hj]
theorem farP_set {n : Nat} {V : List Int} {d : Int → Int} {j : Nat} (hj : j < n) (z : Int) (hz : z = farOf V d (j : Int)) (y : Int) : ((farP n V d j).set j y).set j z = farP n V d (j + 1) ∧ (farP n V d j).set j z = farP n V d (j + 1) := by
  have h1 : (farP n V d j).set j z = farP n V d (j + 1) := by
    unfold farP
    rw [List.set_append_right _ _ (by simp [farL_length]; omega), List.length_take, farL_length, show min j n = j by omega, Nat.sub_self, show n - j = (n - (j + 1)) + 1 by omega, List.replicate_succ, List.set_cons_zero, List.take_add_one, farL_at hj, hz]
    simp
  exact ⟨by rw [List.set_set]; exact h1, h1⟩
structure SH where
  j : Nat
  h : Heap
theorem Far_calls (J : Heap) (p : Value) (lo st : Int) (cb : Option Addr) (cl cc : Nat) (cs : List Ins) [Sl J cb (flatI cs)] (hl : cs.length = cl) (hsm : cl ≤ 4000000) :
    SL.T Try.prog 11 [mth p lo st cb cl cc] [J] fun e o => ∃ N, o = J :: N ∧ ∃ h b V d, e = .returned (.slice b cl cl) ∧ N = [h] ∧ OS h b cl cl 3 1 ((farL cl V d).map i64) ∧ (cl = 0 → V = []) ∧ (0 < cl → BFS cs V V.length d) := by
  refine t_of_body Try.func11 rfl (Nat.le_of_ble_eq_true rfl) fun F => ?_
  repeat' (first
    | refine sl_makeSlice rfl rfl rfl rfl rfl rfl rfl (by omega) (by omega) (fun bS hS osS => ?_)
    | refine swp_seq ?_
    | (refine gk 0 rfl ?_; first | refine sl_op rfl rfl rfl (by first | exact opv_move rfl rfl | exact opv_assign rfl rfl ) ?_ )
    | (refine gk 3 rfl ?_; first | refine sl_op rfl rfl rfl (by first | exact opv_load rfl (by exact rfl) rfl (by exact rfl) | exact opv_fieldAddr rfl rfl | exact opv_loadA rfl (by exact rfl) rfl (by exact rfl) (by exact rfl) ) ?_ )
    | (refine gk 4 rfl ?_; first | refine sl_op rfl rfl rfl (by first | exact opv_len rfl rfl rfl rfl rfl ) ?_ | (refine sl_callT rfl rfl rfl rfl rfl rfl rfl rfl (far_calls J p lo st cb cl cc cs hl hsm) ?_; rintro _ _ ⟨_, rfl, hM, bM, V, d, rfl, rfl, mp, hV0, hV1⟩; refine ⟨_, _, rfl, rfl, ?_⟩))
    | (refine gk 5 rfl ?_; first | refine sl_box rfl rfl rfl rfl rfl rfl (fun β => ?_) )
    | refine sl_region rfl ?_
    | refine sl_nil ?_
    | refine thn_k ?_
    | refine swp_block ?_
    )
  refine swp_loopS (fun s : SH => [(3, .map (some bM)), (4, .slice (some ⟨bS, 0, none⟩) cl cl), (15, i64 (cl : Int)), (16, i64 (s.j : Int))])
    (fun s => [s.h, J, hM]) (fun s => s.j ≤ cl ∧ OS s.h (some ⟨bS, 0, none⟩) cl cl 3 1 ((farP cl V d s.j).map i64)) (fun s => cl - s.j) ⟨0, hS⟩ (by repeat first | exact Sub.nil _ | refine Sub.cons rfl ?_) ⟨Nat.zero_le _, by simpa [farP] using osS⟩ ?_
  rintro ⟨j, H⟩ ⟨hj1, os⟩
  dsimp only at hj1 os ⊢
  by_cases hj : j < cl
  · haveI sl := os.sl
    have hpl := farP_length (V := V) (d := d) hj1
    by_cases hV : (j : Int) ∈ V
    · have hf : mapF V d (j : Int) = some (i64 (d j)) := if_pos hV
      have hz : d j = farOf V d (j : Int) := (if_pos hV).symm
      repeat' (first
        | refine sl_op rfl rfl rfl (opv_lookS mp rfl rfl rfl hf) ?_
        | refine sl_storeE rfl rfl rfl rfl rfl os rfl rfl rfl (Nat.succ_pos _) (by simp; omega) (set_cells (j := j) (by simp) (by omega)) (fun h1 os1 => ?_)
        | refine swp_seq ?_
        | (refine gk 0 rfl ?_; first | refine sl_op rfl rfl rfl (by first | exact opv_move rfl rfl | exact opv_assign rfl rfl | exact opv_not_t rfl rfl | exact opv_extract rfl rfl rfl ) ?_ )
        | (refine gk 1 rfl ?_; first | refine sl_op rfl rfl rfl (by first | exact opv_add64 rfl rfl rfl (by omega) (by omega) ) ?_ )
        | (refine gk 2 rfl ?_; first | refine sl_yes rfl rfl rfl (by first | exact opv_lss rfl rfl rfl ) (by first | omega ) ?_ )
        | (refine gk 3 rfl ?_; first | refine sl_op rfl rfl rfl (by first | exact opv_indexAddrI rfl rfl rfl (by omega) (by omega) (by first | (simp only [List.length_map]; omega) ) ) ?_ )
        | refine sl_region rfl ?_
        | refine sl_nil ?_
        | refine thn_k ?_
        | refine swp_true rfl ?_
        | refine swp_false rfl ?_
        | refine swp_block ?_
        | refine swp_skip ?_
        )
      refine ⟨rfl, ⟨j + 1, h1⟩, next_ok (by repeat first | exact Sub.nil _ | refine Sub.cons rfl ?_), ⟨by dsimp only; omega, ?_⟩, by dsimp only; omega⟩
      rw [(farP_set hj _ hz 0).2] at os1; exact os1
    · have hf : mapF V d (j : Int) = none := if_neg hV
      have hz : -1 = farOf V d (j : Int) := (if_neg hV).symm
      repeat' (first
        | refine sl_op rfl rfl rfl (opv_lookN mp rfl rfl rfl hf) ?_
        | refine sl_storeE rfl rfl rfl rfl rfl os rfl rfl rfl (Nat.succ_pos _) (by simp; omega) (set_cells (j := j) (by simp) (by omega)) (fun h1 os1 => ?_)
        | refine swp_seq ?_
        | (refine gk 0 rfl ?_; first | refine sl_op rfl rfl rfl (by first | exact opv_move rfl rfl | exact opv_assign rfl rfl | exact opv_not_f rfl rfl | exact opv_extract rfl rfl rfl ) ?_ )
        | (refine gk 2 rfl ?_; first | refine sl_yes rfl rfl rfl (by first | exact opv_lss rfl rfl rfl ) (by first | omega ) ?_ )
        | (refine gk 3 rfl ?_; first | refine sl_op rfl rfl rfl (by first | exact opv_indexAddrI rfl rfl rfl (by omega) (by omega) (by first | (simp only [List.length_map]; omega) ) ) ?_ )
        | refine sl_region rfl ?_
        | refine sl_nil ?_
        | refine thn_k ?_
        | refine swp_true rfl ?_
        | refine swp_block ?_
        | refine swp_skip ?_
        )
      haveI sl1 := os1.sl
      have hpl1 : ((farP cl V d j).set j 0).length = cl := by rw [List.length_set]; omega
      repeat' (first
        | (refine gk 3 rfl ?_; first | refine sl_op rfl rfl rfl (by first | exact opv_indexAddrI rfl rfl rfl (by omega) (by omega) (by first | (simp only [List.length_map]; omega) ) ) ?_ )
        )
      refine sl_storeE rfl rfl rfl rfl rfl os1 rfl rfl rfl (by decide) (by simp; omega) (set_cells (j := j) (by simp) (by rw [List.length_set]; omega)) (fun h2 os2 => ?_)
      repeat' (first
        | (refine gk 0 rfl ?_; first | refine sl_op rfl rfl rfl (by first | exact opv_move rfl rfl ) ?_ )
        | (refine gk 1 rfl ?_; first | refine sl_op rfl rfl rfl (by first | exact opv_add64 rfl rfl rfl (by omega) (by omega) ) ?_ )
        | refine sl_region rfl ?_
        | refine sl_nil ?_
        | refine thn_k ?_
        )
      refine ⟨rfl, ⟨j + 1, h2⟩, next_ok (by repeat first | exact Sub.nil _ | refine Sub.cons rfl ?_), ⟨by dsimp only; omega, ?_⟩, by dsimp only; omega⟩
      rw [(farP_set hj _ hz 0).1] at os2; exact os2
  · obtain rfl : j = cl := by omega
    have hfp : farP j V d j = farL j V d := by rw [farP, List.take_of_length_le (by rw [farL_length]; omega), Nat.sub_self]; simp
    rw [hfp] at os
    repeat' (first
      | refine swp_seq ?_
      | (refine gk 0 rfl ?_; first | refine sl_op rfl rfl rfl (by first | exact opv_move rfl rfl | exact opv_assign rfl rfl ) ?_ )
      | (refine gk 2 rfl ?_; first | refine sl_no rfl rfl rfl (by first | exact opv_lss rfl rfl rfl ) (by first | omega ) ?_ )
      | refine sl_region rfl ?_
      | refine sl_nil ?_
      | refine thn_k ?_
      | refine swp_false rfl ?_
      | refine swp_ret ?_
      | refine swp_exit ?_
      )
    exact end_retL [J, H] (resOk_one (resV_tmp rfl)) ⟨[H], rfl, H, _, V, d, rfl, rfl, os, hV0, hV1⟩
theorem Far_W (own : List Heap) (p : Value) (lo st : Int) (cb : Option Addr) (cl cc : Nat) (cs : List Ins) [s : SlIn own cb (flatI cs)] (hl : cs.length = cl) (hsm : cl ≤ 4000000) :
    SL.T Try.prog 11 [mth p lo st cb cl cc] own fun e o => ∃ N, o = own ++ N ∧ ∃ h b V d, e = .returned (.slice b cl cl) ∧ N = [h] ∧ OS h b cl cl 3 1 ((farL cl V d).map i64) ∧ (cl = 0 → V = []) ∧ (0 < cl → BFS cs V V.length d) :=
  T_whole fun J hJ => by
    haveI := s.all hJ
    exact Far_calls J p lo st cb cl cc cs hl hsm
end Go.Proofs.Ytgcajldkegdllaa
