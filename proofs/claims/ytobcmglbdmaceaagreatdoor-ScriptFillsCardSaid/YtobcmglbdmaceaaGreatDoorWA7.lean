/- How picks are written: walked. -/
import Derived.Test.YtobcmglbdmaceaaGreatDoorWA6
import Derived.Test.YtobcmglbdmaceaaGreatDoorSlG8
set_option linter.unusedVariables false
set_option linter.unusedSimpArgs false
set_option linter.unusedSectionVars false
namespace Go.Proofs.YtobcmglbdmaceaaGreatDoor
open Go.SL
set_option maxRecDepth 100000
set_option maxHeartbeats 16000000
theorem set_at1 {cs cs' : List Value} {k : Nat} {v : Value} (h : k < cs.length) (e : cs.set k v = cs') : cs.take (((k : Nat) : Int).toNat * 1) ++ [v] ++ cs.drop (((k : Nat) : Int).toNat * 1 + [v].length) = cs' := by
  rw [show ((k : Nat) : Int).toNat * 1 = k by simp, ← e, List.set_eq_take_append_cons_drop, if_pos h, List.append_assoc]; rfl
/-- The words so far, and those that are to come. -/
def wordsF (l : List Pk) (n j : Nat) : List Value := (l.take j).map (fun p => str (wordP p)) ++ List.replicate (n - j) (str [])
theorem wordsF_length {l : List Pk} {n j : Nat} (hl : l.length = n) (hj : j ≤ n) : (wordsF l n j).length = n := by
  simp [wordsF]; omega
theorem wordsF_set {l : List Pk} {n j : Nat} {p : Pk} (hl : l.length = n) (hp : l[j]? = some p) (hj : j < n) (v : List UInt8) (hv : v = wordP p) : (wordsF l n j).set j (str v) = wordsF l n (j + 1) := by
  subst hv
  unfold wordsF
  rw [List.set_append, if_neg (by rw [List.length_map, List.length_take]; omega)]
  simp only [List.length_map, List.length_take, Nat.min_eq_left (show j ≤ l.length by omega), Nat.sub_self]
  rw [show n - j = (n - (j + 1)) + 1 by omega, List.replicate_succ, List.set_cons_zero, List.take_add_one, hp, List.map_append, List.append_assoc]
  rfl
theorem set_set {cs : List Value} {k : Nat} {a b : Value} : (cs.set k a).set k b = cs.set k b := by simp
attribute [local irreducible] SL.T PFn OpV SOL SWP HOp ChU
-- ALIAS Tryz
structure SW where
  j : Nat
  h : Heap
theorem Print_calls (J : Heap) [pw : Pow J] (b : Option Addr) (n c : Nat) (l : List Pk) (sl : Sl J b (flatP l)) (hl : l.length = n) (hn : n ≤ 10000) :
    PFn Tryz.prog 8 [.slice b n c] [J] (str (printF l)) := by
  have hL := letters_calls
  refine pure_of_body Tryz.func8 rfl (Nat.le_of_ble_eq_true rfl) fun F => ?_
  repeat' (first
    | refine sl_makeSlice (m := n) rfl rfl rfl rfl rfl rfl rfl (by omega) (by omega) (fun bS hS osS => ?_)
    | refine swp_seq ?_
    | (refine gk 0 rfl ?_; first | refine sl_op rfl rfl rfl (by first | exact opv_move rfl rfl | exact opv_assign rfl rfl ) ?_ )
    | (refine gk 4 rfl ?_; first | refine sl_op rfl rfl rfl (by first | exact opv_len rfl rfl rfl rfl rfl ) ?_)
    | refine sl_region rfl ?_
    | refine sl_nil ?_
    | refine thn_k ?_
    | refine swp_block ?_
    )
  refine swp_loopS (fun s : SW => [(3, .slice (some ⟨bS, 0, none⟩) n n), (11, .slice b n c), (12, i64 (n : Int)), (13, i64 (s.j : Int))])
    (fun s => [s.h, J]) (fun s => s.j ≤ n ∧ OS s.h (some ⟨bS, 0, none⟩) n n 9 1 (wordsF l n s.j)) (fun s => n - s.j) ⟨0, hS⟩ (by repeat first | exact Sub.nil _ | refine Sub.cons rfl ?_) ⟨Nat.zero_le _, by simpa [wordsF] using osS⟩ ?_
  clear osS
  rintro ⟨j, h⟩ ⟨hj, os⟩
  dsimp only at hj os ⊢
  have hwl := wordsF_length hl hj
  haveI slh := os.sl
  by_cases hj2 : j < n
  · obtain ⟨p, hp⟩ : ∃ p, l[j]? = some p := ⟨_, List.getElem?_eq_getElem (by omega)⟩
    obtain ⟨c1, c2⟩ := flatP_at hp
    have hfl := flatP_length l
    have hcl : ((j : Nat) : Int).toNat * 2 < (flatP l).length := by simp; omega
    have hc1 : (flatP l)[((j : Nat) : Int).toNat * 2]? = some (i64 p.th) := by simpa using c1
    have hc2 : (flatP l)[((j : Nat) : Int).toNat * 2 + 1]? = some (i64 p.kd) := by simpa using c2
    have hkj : ((j : Nat) : Int).toNat * 1 < (wordsF l n j).length := by rw [hwl]; simp; omega
    have hkj2 : ∀ v, ((j : Nat) : Int).toNat * 1 < ((wordsF l n j).set j v).length := fun v => by rw [List.length_set]; exact hkj
    have hkj3 := hkj2 (str [45])
    have hst1 : (wordsF l n j).take (((j : Nat) : Int).toNat * 1) ++ [str [45]] ++ (wordsF l n j).drop (((j : Nat) : Int).toNat * 1 + [str [45]].length) = (wordsF l n j).set j (str [45]) := set_at1 (by rw [hwl]; exact hj2) rfl
    cases hk : letF p.kd with
    | none =>
      have hw : (wordsF l n j).set j (str [45]) = wordsF l n (j + 1) := wordsF_set hl hp hj2 _ (by unfold wordP; rw [hk])
      rw [hw] at hst1
      repeat' (first
        | refine swp_seq ?_
        | (refine gk 0 rfl ?_; first | refine sl_op rfl rfl rfl (by first | exact opv_move rfl rfl | exact opv_assign rfl rfl ) ?_ )
        | (refine gk 2 rfl ?_; first | refine sl_yes rfl rfl rfl (by first | exact opv_lss rfl rfl rfl ) (by first | omega ) ?_ )
        | (refine gk 3 rfl ?_; first | refine sl_op rfl rfl rfl (by first | exact opv_indexAddrI rfl rfl rfl (by omega) (by omega) (by first | omega ) | exact opv_load2 rfl (by exact rfl) (by infer_instance) (by assumption) (by assumption) ) ?_ )
        | (refine gk 5 rfl ?_; first | refine sl_alloc rfl rfl rfl rfl (by exact rfl) (fun β => ?_) | refine sl_store rfl rfl rfl rfl rfl rfl (by exact rfl) rfl (by exact rfl) ?_)
        | refine sl_region rfl ?_
        | refine sl_nil ?_
        | refine swp_true rfl ?_
        | refine swp_block ?_
        | refine swp_skip ?_
        )
      refine sl_drawC [.q [1, 2], .h false 0, .q [3, 4, 5, 6, 7, 8]] [] (by kernel_rfl) (by kernel_rfl) (by kernel_rfl) (by kernel_rfl) ?_
      repeat' (first
        | refine sl_op rfl rfl rfl ((opv_lookN mp rfl rfl rfl (by show (letF p.kd).map str = none; rw [hk]; rfl)).to (show _ = Value.tuple #[str [], .bool false] from rfl)) ?_
        | (refine sl_storeE (k := ((j : Nat) : Int).toNat * 1) rfl rfl rfl rfl rfl os rfl rfl rfl (Nat.succ_pos _) (by rw [hwl]; simp only [List.length_cons, List.length_nil, Int.toNat_natCast]; omega) hst1 (fun h2 os2 => ?_))
        | refine swp_seq ?_
        | (refine gk 0 rfl ?_; first | refine sl_op rfl rfl rfl (by first | exact opv_move rfl rfl | exact opv_assign rfl rfl | exact opv_pick_f rfl rfl rfl | exact opv_extract rfl rfl rfl ) ?_ )
        | (refine gk 1 rfl ?_; first | refine sl_op rfl rfl rfl (by first | exact opv_add64 rfl rfl rfl (by omega) (by omega) ) ?_ )
        | (refine gk 2 rfl ?_; first | refine sl_pass rfl rfl rfl rfl ?_ )
        | (refine gk 3 rfl ?_; first | refine sl_op rfl rfl rfl (by first | exact opv_load rfl (by exact rfl) rfl (by exact rfl) | exact opv_fieldAddr rfl rfl | exact opv_indexAddrI rfl rfl rfl (by omega) (by omega) (by first | omega ) ) ?_ | refine sl_pass rfl rfl rfl rfl ?_)
        | refine sl_region rfl ?_
        | refine chu_nil ?_
        | refine chu_q rfl ?_
        | (refine chu_T rfl rfl rfl rfl rfl rfl rfl rfl (hL) (by rintro _ _ ⟨bM, rfl, rfl⟩; exact ⟨_, rfl⟩) ?_; rintro _ _ ⟨bM, rfl, rfl⟩; have mp := lets_mp bM; refine ⟨_, _, rfl, rfl, ?_⟩)
        | refine sl_nil ?_
        | refine thn_k ?_
        | refine swp_false rfl ?_
        | refine swp_skip ?_
        )
      exact ⟨rfl, ⟨j + 1, h2⟩, next_ok (by repeat first | exact Sub.nil _ | refine Sub.cons rfl ?_), ⟨hj2, os2⟩, by dsimp only; omega⟩
    | some s =>
      by_cases t0 : 0 ≤ p.th
      · by_cases t1 : p.th ≤ 99999
        · have hw : (wordsF l n j).set j (str (Lib.itoa p.th ++ s)) = wordsF l n (j + 1) := wordsF_set hl hp hj2 _ (by unfold wordP; rw [hk]; dsimp only; rw [if_pos ⟨t0, t1⟩])
          have hwp := wordP_len p
          have hlen : (Lib.itoa p.th).length + s.length ≤ 6 := by unfold wordP at hwp; rw [hk] at hwp; dsimp only at hwp; rw [if_pos ⟨t0, t1⟩, List.length_append] at hwp; exact hwp
          have hst2 : ((wordsF l n j).set j (str [45])).take (((j : Nat) : Int).toNat * 1) ++ [str (Lib.itoa p.th ++ s)] ++ ((wordsF l n j).set j (str [45])).drop (((j : Nat) : Int).toNat * 1 + [str (Lib.itoa p.th ++ s)].length) = wordsF l n (j + 1) := set_at1 (by rw [List.length_set, hwl]; exact hj2) (set_set.trans hw)
          have hi := Itoa_calls (G := J) p.th (by omega) (by omega)
          repeat' (first
            | refine swp_seq ?_
            | (refine gk 0 rfl ?_; first | refine sl_op rfl rfl rfl (by first | exact opv_move rfl rfl | exact opv_assign rfl rfl ) ?_ )
            | (refine gk 2 rfl ?_; first | refine sl_yes rfl rfl rfl (by first | exact opv_lss rfl rfl rfl ) (by first | omega ) ?_ )
            | (refine gk 3 rfl ?_; first | refine sl_op rfl rfl rfl (by first | exact opv_indexAddrI rfl rfl rfl (by omega) (by omega) (by first | omega ) | exact opv_load2 rfl (by exact rfl) (by infer_instance) (by assumption) (by assumption) ) ?_ )
            | (refine gk 5 rfl ?_; first | refine sl_alloc rfl rfl rfl rfl (by exact rfl) (fun β => ?_) | refine sl_store rfl rfl rfl rfl rfl rfl (by exact rfl) rfl (by exact rfl) ?_)
            | refine sl_region rfl ?_
            | refine sl_nil ?_
            | refine swp_true rfl ?_
            | refine swp_block ?_
            | refine swp_skip ?_
            )
          refine sl_drawC [.q [1, 2], .h false 0, .q [3, 4, 5, 6, 7, 8]] [] (by kernel_rfl) (by kernel_rfl) (by kernel_rfl) (by kernel_rfl) ?_
          repeat' (first
            | refine sl_op rfl rfl rfl ((opv_lookS mp rfl rfl rfl (by show (letF p.kd).map str = some (str s); rw [hk]; rfl)).to (show _ = Value.tuple #[str s, .bool true] from rfl)) ?_
            | (refine sl_storeE (k := ((j : Nat) : Int).toNat * 1) rfl rfl rfl rfl rfl os rfl rfl rfl (Nat.succ_pos _) (by rw [hwl]; simp only [List.length_cons, List.length_nil, Int.toNat_natCast]; omega) hst1 (fun h2 os2 => ?_); haveI slh2 := os2.sl)
            | (refine sl_storeE (k := ((j : Nat) : Int).toNat * 1) rfl rfl rfl rfl rfl os2 rfl rfl rfl (Nat.succ_pos _) (by rw [List.length_set, hwl]; simp only [List.length_cons, List.length_nil, Int.toNat_natCast]; omega) hst2 (fun h3 os3 => ?_))
            | refine sl_op rfl rfl rfl (opv_addS rfl rfl rfl (by omega)) ?_
            | refine swp_seq ?_
            | (refine gk 0 rfl ?_; first | refine sl_op rfl rfl rfl (by first | exact opv_move rfl rfl | exact opv_assign rfl rfl | exact opv_pick_t rfl rfl rfl | exact opv_extract rfl rfl rfl ) ?_ )
            | (refine gk 1 rfl ?_; first | refine sl_op rfl rfl rfl (by first | exact opv_add64 rfl rfl rfl (by omega) (by omega) ) ?_ )
            | (refine gk 2 rfl ?_; first | refine sl_yes rfl rfl rfl (by first | exact opv_leq rfl rfl rfl | exact opv_geq rfl rfl rfl ) (by first | omega ) ?_ )
            | (refine gk 3 rfl ?_; first | refine sl_op rfl rfl rfl (by first | exact opv_load rfl (by exact rfl) rfl (by exact rfl) | exact opv_fieldAddr rfl rfl | exact opv_indexAddrI rfl rfl rfl (by omega) (by omega) (by first | omega ) ) ?_ )
            | (refine gk 4 rfl ?_; first | refine sl_op rfl rfl rfl (opv_call rfl rfl rfl rfl rfl (hi)) ?_ )
            | refine sl_region rfl ?_
            | refine chu_nil ?_
            | refine chu_q rfl ?_
            | (refine chu_T rfl rfl rfl rfl rfl rfl rfl rfl (hL) (by rintro _ _ ⟨bM, rfl, rfl⟩; exact ⟨_, rfl⟩) ?_; rintro _ _ ⟨bM, rfl, rfl⟩; have mp := lets_mp bM; refine ⟨_, _, rfl, rfl, ?_⟩)
            | refine sl_nil ?_
            | refine thn_k ?_
            | refine swp_true rfl ?_
            )
          exact ⟨rfl, ⟨j + 1, h3⟩, next_ok (by repeat first | exact Sub.nil _ | refine Sub.cons rfl ?_), ⟨hj2, os3⟩, by dsimp only; omega⟩
        · have hw : (wordsF l n j).set j (str [45]) = wordsF l n (j + 1) := wordsF_set hl hp hj2 _ (by unfold wordP; rw [hk]; dsimp only; rw [if_neg (fun e => t1 e.2)])
          rw [hw] at hst1
          repeat' (first
            | refine swp_seq ?_
            | (refine gk 0 rfl ?_; first | refine sl_op rfl rfl rfl (by first | exact opv_move rfl rfl | exact opv_assign rfl rfl ) ?_ )
            | (refine gk 2 rfl ?_; first | refine sl_yes rfl rfl rfl (by first | exact opv_lss rfl rfl rfl ) (by first | omega ) ?_ )
            | (refine gk 3 rfl ?_; first | refine sl_op rfl rfl rfl (by first | exact opv_indexAddrI rfl rfl rfl (by omega) (by omega) (by first | omega ) | exact opv_load2 rfl (by exact rfl) (by infer_instance) (by assumption) (by assumption) ) ?_ )
            | (refine gk 5 rfl ?_; first | refine sl_alloc rfl rfl rfl rfl (by exact rfl) (fun β => ?_) | refine sl_store rfl rfl rfl rfl rfl rfl (by exact rfl) rfl (by exact rfl) ?_)
            | refine sl_region rfl ?_
            | refine sl_nil ?_
            | refine swp_true rfl ?_
            | refine swp_block ?_
            | refine swp_skip ?_
            )
          refine sl_drawC [.q [1, 2], .h false 0, .q [3, 4, 5, 6, 7, 8]] [] (by kernel_rfl) (by kernel_rfl) (by kernel_rfl) (by kernel_rfl) ?_
          repeat' (first
            | refine sl_op rfl rfl rfl ((opv_lookS mp rfl rfl rfl (by show (letF p.kd).map str = some (str s); rw [hk]; rfl)).to (show _ = Value.tuple #[str s, .bool true] from rfl)) ?_
            | (refine sl_storeE (k := ((j : Nat) : Int).toNat * 1) rfl rfl rfl rfl rfl os rfl rfl rfl (Nat.succ_pos _) (by rw [hwl]; simp only [List.length_cons, List.length_nil, Int.toNat_natCast]; omega) hst1 (fun h2 os2 => ?_))
            | refine swp_seq ?_
            | (refine gk 0 rfl ?_; first | refine sl_op rfl rfl rfl (by first | exact opv_move rfl rfl | exact opv_assign rfl rfl | exact opv_pick_t rfl rfl rfl | exact opv_extract rfl rfl rfl ) ?_ )
            | (refine gk 1 rfl ?_; first | refine sl_op rfl rfl rfl (by first | exact opv_add64 rfl rfl rfl (by omega) (by omega) ) ?_ )
            | (refine gk 2 rfl ?_; first | refine sl_yes rfl rfl rfl (by first | exact opv_leq rfl rfl rfl | exact opv_geq rfl rfl rfl ) (by first | omega ) ?_ | refine sl_no rfl rfl rfl (by first | exact opv_leq rfl rfl rfl ) (by first | omega ) ?_ )
            | (refine gk 3 rfl ?_; first | refine sl_op rfl rfl rfl (by first | exact opv_load rfl (by exact rfl) rfl (by exact rfl) | exact opv_fieldAddr rfl rfl | exact opv_indexAddrI rfl rfl rfl (by omega) (by omega) (by first | omega ) ) ?_ )
            | refine sl_region rfl ?_
            | refine chu_nil ?_
            | refine chu_q rfl ?_
            | (refine chu_T rfl rfl rfl rfl rfl rfl rfl rfl (hL) (by rintro _ _ ⟨bM, rfl, rfl⟩; exact ⟨_, rfl⟩) ?_; rintro _ _ ⟨bM, rfl, rfl⟩; have mp := lets_mp bM; refine ⟨_, _, rfl, rfl, ?_⟩)
            | refine sl_nil ?_
            | refine thn_k ?_
            | refine swp_false rfl ?_
            | refine swp_skip ?_
            )
          exact ⟨rfl, ⟨j + 1, h2⟩, next_ok (by repeat first | exact Sub.nil _ | refine Sub.cons rfl ?_), ⟨hj2, os2⟩, by dsimp only; omega⟩
      · have hw : (wordsF l n j).set j (str [45]) = wordsF l n (j + 1) := wordsF_set hl hp hj2 _ (by unfold wordP; rw [hk]; dsimp only; rw [if_neg (fun e => t0 e.1)])
        rw [hw] at hst1
        repeat' (first
          | refine swp_seq ?_
          | (refine gk 0 rfl ?_; first | refine sl_op rfl rfl rfl (by first | exact opv_move rfl rfl | exact opv_assign rfl rfl ) ?_ )
          | (refine gk 2 rfl ?_; first | refine sl_yes rfl rfl rfl (by first | exact opv_lss rfl rfl rfl ) (by first | omega ) ?_ )
          | (refine gk 3 rfl ?_; first | refine sl_op rfl rfl rfl (by first | exact opv_indexAddrI rfl rfl rfl (by omega) (by omega) (by first | omega ) | exact opv_load2 rfl (by exact rfl) (by infer_instance) (by assumption) (by assumption) ) ?_ )
          | (refine gk 5 rfl ?_; first | refine sl_alloc rfl rfl rfl rfl (by exact rfl) (fun β => ?_) | refine sl_store rfl rfl rfl rfl rfl rfl (by exact rfl) rfl (by exact rfl) ?_)
          | refine sl_region rfl ?_
          | refine sl_nil ?_
          | refine swp_true rfl ?_
          | refine swp_block ?_
          | refine swp_skip ?_
          )
        refine sl_drawC [.q [1, 2], .h false 0, .q [3, 4, 5, 6, 7, 8]] [] (by kernel_rfl) (by kernel_rfl) (by kernel_rfl) (by kernel_rfl) ?_
        repeat' (first
          | refine sl_op rfl rfl rfl ((opv_lookS mp rfl rfl rfl (by show (letF p.kd).map str = some (str s); rw [hk]; rfl)).to (show _ = Value.tuple #[str s, .bool true] from rfl)) ?_
          | (refine sl_storeE (k := ((j : Nat) : Int).toNat * 1) rfl rfl rfl rfl rfl os rfl rfl rfl (Nat.succ_pos _) (by rw [hwl]; simp only [List.length_cons, List.length_nil, Int.toNat_natCast]; omega) hst1 (fun h2 os2 => ?_))
          | refine swp_seq ?_
          | (refine gk 0 rfl ?_; first | refine sl_op rfl rfl rfl (by first | exact opv_move rfl rfl | exact opv_assign rfl rfl | exact opv_pick_t rfl rfl rfl | exact opv_pick_f rfl rfl rfl | exact opv_extract rfl rfl rfl ) ?_ )
          | (refine gk 1 rfl ?_; first | refine sl_op rfl rfl rfl (by first | exact opv_add64 rfl rfl rfl (by omega) (by omega) ) ?_ )
          | (refine gk 2 rfl ?_; first | refine sl_pass rfl rfl rfl rfl ?_ | refine sl_no rfl rfl rfl (by first | exact opv_geq rfl rfl rfl ) (by first | omega ) ?_ )
          | (refine gk 3 rfl ?_; first | refine sl_op rfl rfl rfl (by first | exact opv_load rfl (by exact rfl) rfl (by exact rfl) | exact opv_fieldAddr rfl rfl | exact opv_indexAddrI rfl rfl rfl (by omega) (by omega) (by first | omega ) ) ?_ | refine sl_pass rfl rfl rfl rfl ?_)
          | refine sl_region rfl ?_
          | refine chu_nil ?_
          | refine chu_q rfl ?_
          | (refine chu_T rfl rfl rfl rfl rfl rfl rfl rfl (hL) (by rintro _ _ ⟨bM, rfl, rfl⟩; exact ⟨_, rfl⟩) ?_; rintro _ _ ⟨bM, rfl, rfl⟩; have mp := lets_mp bM; refine ⟨_, _, rfl, rfl, ?_⟩)
          | refine sl_nil ?_
          | refine thn_k ?_
          | refine swp_false rfl ?_
          | refine swp_skip ?_
          )
        exact ⟨rfl, ⟨j + 1, h2⟩, next_ok (by repeat first | exact Sub.nil _ | refine Sub.cons rfl ?_), ⟨hj2, os2⟩, by dsimp only; omega⟩
  · obtain rfl : j = n := by omega
    have hfin : wordsF l j j = (l.map wordP).map str := by
      unfold wordsF
      rw [Nat.sub_self, List.replicate_zero, List.append_nil, List.take_of_length_le (by omega), List.map_map]; rfl
    rw [hfin] at os
    have hml : (l.map wordP).length = j := by rw [List.length_map]; exact hl
    have hjn := Join_calls h (some ⟨bS, 0, none⟩) j (l.map wordP) [32] os.sl (by omega) (by omega) (by
      have := join_len [32] 6 (l.map wordP) (fun x hx => by obtain ⟨p, -, rfl⟩ := List.mem_map.1 hx; exact wordP_len p)
      rw [hml] at this
      simp at this; omega)
    rw [hml] at hjn
    repeat' (first
      | refine swp_seq ?_
      | (refine gk 0 rfl ?_; first | refine sl_op rfl rfl rfl (by first | exact opv_move rfl rfl | exact opv_assign rfl rfl ) ?_ )
      | (refine gk 2 rfl ?_; first | refine sl_no rfl rfl rfl (by first | exact opv_lss rfl rfl rfl ) (by first | omega ) ?_ )
      | (refine gk 4 rfl ?_; first | refine sl_op rfl rfl rfl (opv_call rfl rfl rfl rfl rfl (hjn)) ?_)
      | refine sl_region rfl ?_
      | refine sl_nil ?_
      | refine thn_k ?_
      | refine swp_false rfl ?_
      | refine swp_ret ?_
      | refine swp_exit ?_
      )
    refine end_pure (resOk_one (resV_tmp rfl)) ?_
    rfl
end Go.Proofs.YtobcmglbdmaceaaGreatDoor
