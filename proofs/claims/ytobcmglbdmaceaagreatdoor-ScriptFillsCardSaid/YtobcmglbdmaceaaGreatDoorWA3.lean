/- Whether picks are fair: walked. -/
import Derived.Test.YtobcmglbdmaceaaGreatDoorWA2
set_option linter.unusedVariables false
set_option linter.unusedSimpArgs false
set_option linter.unusedSectionVars false
namespace Go.Proofs.YtobcmglbdmaceaaGreatDoor
open Go.SL
set_option maxRecDepth 100000
set_option maxHeartbeats 16000000
theorem set_eq {cs : List Value} {k : Nat} {v : Value} (h : k < cs.length) : cs.take k ++ [v] ++ cs.drop (k + [v].length) = cs.set k v := by
  rw [List.set_eq_take_append_cons_drop, if_pos h, List.append_assoc]; rfl
theorem set_at {cs cs' : List Value} {k : Nat} {v : Value} (h : k < cs.length) (e : cs.set k v = cs') : cs.take (((k : Nat) : Int).toNat * 1) ++ [v] ++ cs.drop (((k : Nat) : Int).toNat * 1 + [v].length) = cs' := by
  rw [show ((k : Nat) : Int).toNat * 1 = k by simp]
  exact (set_eq h).trans e
theorem rep_set {t j : Nat} (h : j < t) : (List.replicate j (i64 (-1)) ++ List.replicate (t - j) (i64 0)).set j (i64 (-1)) = List.replicate (j + 1) (i64 (-1)) ++ List.replicate (t - (j + 1)) (i64 0) := by
  rw [List.set_append, if_neg (by simp)]
  simp only [List.length_replicate, Nat.sub_self]
  rw [show t - j = (t - (j + 1)) + 1 by omega, List.replicate_succ, List.set_cons_zero, List.replicate_succ', List.append_assoc]
  rfl
attribute [local irreducible] SL.T PFn OpV SOL SWP HOp ChU
-- ALIAS Tryz
theorem late_calls (β7 β5 : Nat) (lb : Option Addr) (n c : Nat) (vs : List Int) (K : Heap) [sl : Sl K lb (vs.map i64)] (hl : vs.length = n) (hn : n ≤ 1000000) (at_ k : Int) (ha : 0 ≤ at_ ∧ at_ ≤ 1000000) (hv : ∀ v ∈ vs, -1 ≤ v ∧ v ≤ 1000000) :
    PFn Tryz.prog 29 [i64 at_, ptr β7, ptr β5] [blk β7 (.cells ⟨[.slice lb n c]⟩ 70 (0, 0)), blk β5 (.cells ⟨[i64 k]⟩ 3 (0, 0)), K] (.bool (vs.any fun v => decide (at_ - v > k))) := by
  refine pure_of_body Tryz.func29 rfl (Nat.le_of_ble_eq_true rfl) fun F => ?_
  repeat' (first
    | refine swp_seq ?_
    | (refine gk 0 rfl ?_; first | refine sl_op rfl rfl rfl (by first | exact opv_move rfl rfl | exact opv_assign rfl rfl ) ?_ )
    | (refine gk 3 rfl ?_; first | refine sl_op rfl rfl rfl (by first | exact opv_load rfl (by exact rfl) rfl (by exact rfl) ) ?_ )
    | (refine gk 4 rfl ?_; first | refine sl_op rfl rfl rfl (by first | exact opv_len rfl rfl rfl rfl rfl ) ?_)
    | refine sl_region rfl ?_
    | refine sl_nil ?_
    | refine thn_k ?_
    | refine swp_block ?_
    )
  refine swp_loopS (fun j : Nat => [(0, i64 at_), (1, ptr β7), (2, ptr β5), (7, .slice lb n c), (8, i64 (n : Int)), (9, i64 (j : Int))])
    (fun _ => [blk β7 (.cells ⟨[.slice lb n c]⟩ 70 (0, 0)), blk β5 (.cells ⟨[i64 k]⟩ 3 (0, 0)), K])
    (fun j => j ≤ n ∧ (vs.take j).any (fun v => decide (at_ - v > k)) = false)
    (fun j => n - j) 0 (by repeat first | exact Sub.nil _ | refine Sub.cons rfl ?_) ⟨Nat.zero_le _, rfl⟩ ?_
  rintro j ⟨hj, hno⟩
  by_cases hj2 : j < n
  · obtain ⟨v, hvj⟩ : ∃ v, vs[j]? = some v := ⟨_, List.getElem?_eq_getElem (by omega)⟩
    have hk : ((j : Nat) : Int).toNat * 1 < (vs.map i64).length := by simp; omega
    have hcz : (vs.map i64)[((j : Nat) : Int).toNat * 1]? = some (i64 v) := by simp [hvj]
    have hb := hv v (List.mem_of_getElem? hvj)
    by_cases hg : at_ - v > k
    · repeat' (first
        | refine swp_seq ?_
        | (refine gk 0 rfl ?_; first | refine sl_op rfl rfl rfl (by first | exact opv_move rfl rfl | exact opv_assign rfl rfl ) ?_ )
        | (refine gk 1 rfl ?_; first | refine sl_op rfl rfl rfl (by first | exact opv_sub64 rfl rfl rfl (by omega) (by omega) ) ?_ )
        | (refine gk 2 rfl ?_; first | refine sl_yes rfl rfl rfl (by first | exact opv_lss rfl rfl rfl | exact opv_gtr rfl rfl rfl ) (by first | omega ) ?_ )
        | (refine gk 3 rfl ?_; first | refine sl_op rfl rfl rfl (by first | exact opv_load rfl (by exact rfl) rfl (by exact rfl) | exact opv_indexAddrI rfl rfl rfl (by omega) (by omega) (by first | omega ) | exact opv_loadEx rfl (by exact rfl) (by infer_instance) (by first | assumption ) ) ?_ )
        | refine sl_region rfl ?_
        | refine sl_nil ?_
        | refine thn_k ?_
        | refine swp_true rfl ?_
        | refine swp_block ?_
        | refine swp_ret ?_
        | refine swp_skip ?_
        | refine thn_ret ?_
        | refine inb_ret ?_
        )
      refine end_pure (resOk_one (resV_tmp rfl)) ?_
      congr 1
      symm
      rw [List.any_eq_true]
      exact ⟨v, List.mem_of_getElem? hvj, by simpa using hg⟩
    · repeat' (first
        | refine swp_seq ?_
        | (refine gk 0 rfl ?_; first | refine sl_op rfl rfl rfl (by first | exact opv_move rfl rfl | exact opv_assign rfl rfl ) ?_ )
        | (refine gk 1 rfl ?_; first | refine sl_op rfl rfl rfl (by first | exact opv_add64 rfl rfl rfl (by omega) (by omega) | exact opv_sub64 rfl rfl rfl (by omega) (by omega) ) ?_ )
        | (refine gk 2 rfl ?_; first | refine sl_yes rfl rfl rfl (by first | exact opv_lss rfl rfl rfl | exact opv_gtr rfl rfl rfl ) (by first | omega ) ?_ | refine sl_no rfl rfl rfl (by first | exact opv_gtr rfl rfl rfl ) (by first | omega ) ?_ )
        | (refine gk 3 rfl ?_; first | refine sl_op rfl rfl rfl (by first | exact opv_load rfl (by exact rfl) rfl (by exact rfl) | exact opv_indexAddrI rfl rfl rfl (by omega) (by omega) (by first | omega ) | exact opv_loadEx rfl (by exact rfl) (by infer_instance) (by first | assumption ) ) ?_ )
        | refine sl_region rfl ?_
        | refine sl_nil ?_
        | refine thn_k ?_
        | refine swp_true rfl ?_
        | refine swp_false rfl ?_
        | refine swp_block ?_
        | refine swp_skip ?_
        )
      exact ⟨rfl, j + 1, next_ok (by repeat first | exact Sub.nil _ | refine Sub.cons rfl ?_), ⟨by omega, by rw [List.take_add_one, hvj, List.any_append, hno]; simpa using hg⟩, by omega⟩
  · obtain rfl : j = n := by omega
    repeat' (first
      | refine swp_seq ?_
      | (refine gk 0 rfl ?_; first | refine sl_op rfl rfl rfl (by first | exact opv_assign rfl rfl ) ?_ )
      | (refine gk 2 rfl ?_; first | refine sl_no rfl rfl rfl (by first | exact opv_lss rfl rfl rfl ) (by first | omega ) ?_ )
      | refine sl_region rfl ?_
      | refine sl_nil ?_
      | refine thn_k ?_
      | refine swp_false rfl ?_
      | refine swp_ret ?_
      | refine swp_exit ?_
      )
    refine end_pure (resOk_one (resV_tmp rfl)) ?_
    rw [← hl, List.take_length] at hno
    rw [hno]
structure SF where
  j : Nat
  h : Heap
theorem lastF_le (l : List Pk) (u : Nat) : ∀ n, -1 ≤ lastF l u n ∧ lastF l u n ≤ (n : Int) := fun n => by
  have := lastF_lt l u n
  omega
theorem fairF_of (l : List Pk) (t k : Nat) (h1 : 1 ≤ t) (h2 : t ≤ k) (h3 : k ≤ l.length) : fairF l (t : Int) (k : Int) = (List.range t).all fun (u : Nat) => okR k 1 (marks (u : Int) l) := by
  unfold fairF
  rw [decide_eq_true (by omega), decide_eq_false (by omega), decide_eq_true (by omega)]
  simp
theorem Fair_calls (J : Heap) (b : Option Addr) (n c : Nat) (l : List Pk) [sl : Sl J b (flatP l)] (hl : l.length = n) (hn : n ≤ 1000000) (t k : Int) :
    PFn Tryz.prog 17 [.slice b n c, i64 t, i64 k] [J] (.bool (fairF l t k)) := by
  by_cases h1 : 1 ≤ t
  · by_cases h2 : 1 ≤ k
    · by_cases h3 : (n : Int) < k
      · have hf : fairF l t k = true := by unfold fairF; rw [decide_eq_true ⟨h1, h2⟩, decide_eq_true (by omega)]; rfl
        rw [hf]
        refine pure_of_body Tryz.func17 rfl (Nat.le_of_ble_eq_true rfl) fun F => ?_
        repeat' (first
          | refine swp_seq ?_
          | (refine gk 0 rfl ?_; first | refine sl_op rfl rfl rfl (by first | exact opv_move rfl rfl | exact opv_assign rfl rfl | exact opv_pick_f rfl rfl rfl ) ?_ )
          | (refine gk 2 rfl ?_; first | refine sl_yes rfl rfl rfl (by first | exact opv_lss rfl rfl rfl | exact opv_gtr rfl rfl rfl ) (by first | omega ) ?_ | refine sl_no rfl rfl rfl (by first | exact opv_lss rfl rfl rfl ) (by first | omega ) ?_ )
          | (refine gk 3 rfl ?_; first | refine sl_op rfl rfl rfl (by first | exact opv_load rfl (by exact rfl) rfl (by exact rfl) ) ?_ )
          | (refine gk 4 rfl ?_; first | refine sl_op rfl rfl rfl (by first | exact opv_len rfl rfl rfl rfl rfl ) ?_)
          | (refine gk 5 rfl ?_; first | refine sl_box rfl rfl rfl rfl rfl rfl (fun β => ?_) )
          | refine sl_region rfl ?_
          | refine sl_nil ?_
          | refine thn_k ?_
          | refine swp_true rfl ?_
          | refine swp_false rfl ?_
          | refine swp_ret ?_
          | refine swp_skip ?_
          | refine thn_ret ?_
          )
        refine end_pure (resOk_one (resV_tmp rfl)) ?_
        rfl
      · by_cases h4 : t ≤ k
        · obtain ⟨tn, rfl⟩ : ∃ m : Nat, t = (m : Int) := ⟨t.toNat, by omega⟩
          obtain ⟨kn, rfl⟩ : ∃ m : Nat, k = (m : Int) := ⟨k.toNat, by omega⟩
          rw [fairF_of l tn kn (by omega) (by omega) (by omega)]
          refine pure_of_body Tryz.func17 rfl (Nat.le_of_ble_eq_true rfl) fun F => ?_
          repeat' (first
            | refine sl_makeSlice (m := tn) rfl rfl rfl rfl rfl rfl rfl (by omega) (by omega) (fun bS hS osS => ?_)
            | refine swp_seq ?_
            | (refine gk 0 rfl ?_; first | refine sl_op rfl rfl rfl (by first | exact opv_move rfl rfl | exact opv_assign rfl rfl | exact opv_pick_f rfl rfl rfl ) ?_ )
            | (refine gk 2 rfl ?_; first | refine sl_no rfl rfl rfl (by first | exact opv_lss rfl rfl rfl | exact opv_gtr rfl rfl rfl ) (by first | omega ) ?_ )
            | (refine gk 3 rfl ?_; first | refine sl_op rfl rfl rfl (by first | exact opv_load rfl (by exact rfl) rfl (by exact rfl) ) ?_ )
            | (refine gk 4 rfl ?_; first | refine sl_op rfl rfl rfl (by first | exact opv_len rfl rfl rfl rfl rfl ) ?_)
            | (refine gk 5 rfl ?_; first | refine sl_box rfl rfl rfl rfl rfl rfl (fun β => ?_) | refine sl_alloc rfl rfl rfl rfl (by exact rfl) (fun β => ?_) | refine sl_store rfl rfl rfl rfl rfl rfl (by exact rfl) rfl (by exact rfl) ?_)
            | refine sl_region rfl ?_
            | refine sl_nil ?_
            | refine thn_k ?_
            | refine swp_false rfl ?_
            | refine swp_block ?_
            | refine swp_skip ?_
            )
          rename_i β5
          obtain ⟨β7, rfl⟩ : ∃ x, x = β := ⟨_, rfl⟩
          refine swp_loopS (fun s : SF => [(0, .slice b n c), (1, i64 (tn : Int)), (5, ptr β5), (7, ptr β7), (28, i64 (tn : Int)), (29, i64 (s.j : Int))])
            (fun s => [s.h, blk β7 (.cells ⟨[.slice (some ⟨bS, 0, none⟩) tn tn]⟩ 70 (0, 0)), blk β5 (.cells ⟨[i64 (kn : Int)]⟩ 3 (0, 0)), J])
            (fun s => s.j ≤ tn ∧ OS s.h (some ⟨bS, 0, none⟩) tn tn 3 1 (List.replicate s.j (i64 (-1)) ++ List.replicate (tn - s.j) (i64 0)))
            (fun s => tn - s.j) ⟨0, hS⟩ (by repeat first | exact Sub.nil _ | refine Sub.cons rfl ?_) ⟨Nat.zero_le _, by simpa using osS⟩ ?_
          clear osS
          rintro ⟨j, h⟩ ⟨hj, os⟩
          dsimp only at hj os ⊢
          haveI slj := os.sl
          by_cases hj2 : j < tn
          · have hkj : ((j : Nat) : Int).toNat * 1 < (List.replicate j (i64 (-1)) ++ List.replicate (tn - j) (i64 0)).length := by
              simp only [List.length_append, List.length_replicate, Int.toNat_natCast]; omega
            repeat' (first
              | (refine sl_storeE (k := ((j : Nat) : Int).toNat * 1) rfl rfl rfl rfl rfl os rfl rfl rfl (Nat.succ_pos _) (by simp only [List.length_append, List.length_replicate, List.length_cons, List.length_nil, Int.toNat_natCast]; omega) (set_at (by simp only [List.length_append, List.length_replicate]; omega) (rep_set hj2)) (fun h2 os2 => ?_))
              | refine swp_seq ?_
              | (refine gk 0 rfl ?_; first | refine sl_op rfl rfl rfl (by first | exact opv_move rfl rfl | exact opv_assign rfl rfl ) ?_ )
              | (refine gk 1 rfl ?_; first | refine sl_op rfl rfl rfl (by first | exact opv_add64 rfl rfl rfl (by omega) (by omega) ) ?_ )
              | (refine gk 2 rfl ?_; first | refine sl_yes rfl rfl rfl (by first | exact opv_lss rfl rfl rfl ) (by first | omega ) ?_ )
              | (refine gk 3 rfl ?_; first | refine sl_op rfl rfl rfl (by first | exact opv_load rfl (by exact rfl) rfl (by exact rfl) | exact opv_indexAddrI rfl rfl rfl (by omega) (by omega) (by first | omega ) ) ?_ )
              | refine sl_region rfl ?_
              | refine sl_nil ?_
              | refine thn_k ?_
              | refine swp_true rfl ?_
              | refine swp_block ?_
              | refine swp_skip ?_
              )
            exact ⟨rfl, ⟨j + 1, h2⟩, next_ok (by repeat first | exact Sub.nil _ | refine Sub.cons rfl ?_), ⟨hj2, os2⟩, by dsimp only; omega⟩
          · obtain rfl : j = tn := by omega
            rw [Nat.sub_self, List.replicate_zero, List.append_nil, ← lasts_zero l] at os
            repeat' (first
              | refine swp_seq ?_
              | (refine gk 0 rfl ?_; first | refine sl_op rfl rfl rfl (by first | exact opv_move rfl rfl | exact opv_assign rfl rfl | exact opv_makeFunc rfl rfl rfl) ?_ )
              | (refine gk 2 rfl ?_; first | refine sl_no rfl rfl rfl (by first | exact opv_lss rfl rfl rfl ) (by first | omega ) ?_ )
              | (refine gk 4 rfl ?_; first | refine sl_op rfl rfl rfl (by first | exact opv_len rfl rfl rfl rfl rfl ) ?_)
              | refine sl_region rfl ?_
              | refine sl_nil ?_
              | refine thn_k ?_
              | refine swp_false rfl ?_
              | refine swp_block ?_
              | refine swp_exit ?_
              )
            refine swp_loopS (fun s : SF => [(0, .slice b n c), (1, i64 (j : Int)), (5, ptr β5), (7, ptr β7), (9, .func (.func 29) #[] #[ptr β7, ptr β5]), (37, .slice b n c), (38, i64 (n : Int)), (39, i64 (s.j : Int))])
              (fun s => [s.h, blk β7 (.cells ⟨[.slice (some ⟨bS, 0, none⟩) j j]⟩ 70 (0, 0)), blk β5 (.cells ⟨[i64 (kn : Int)]⟩ 3 (0, 0)), J])
              (fun s => s.j ≤ n ∧ OS s.h (some ⟨bS, 0, none⟩) j j 3 1 (lasts l j s.j) ∧ ∀ u, u < j → ∀ i, i < s.j → ∀ p, l[i]? = some p → (p.kd = 0 ∧ p.th = (u : Int)) → (i : Int) - lastF l u i ≤ kn)
              (fun s => n - s.j) ⟨0, h⟩ (by repeat first | exact Sub.nil _ | refine Sub.cons rfl ?_) ⟨Nat.zero_le _, os, fun u hu i hi => absurd hi (Nat.not_lt_zero _)⟩ ?_
            clear os
            rintro ⟨i, h⟩ ⟨hi, os, hok⟩
            dsimp only at hi os hok ⊢
            haveI slh := os.sl
            by_cases hi2 : i < n
            · obtain ⟨p, hp⟩ : ∃ p, l[i]? = some p := ⟨_, List.getElem?_eq_getElem (by omega)⟩
              obtain ⟨c1, c2⟩ := flatP_at hp
              have hfl := flatP_length l
              have hcl : ((i : Nat) : Int).toNat * 2 < (flatP l).length := by simp; omega
              have hc1 : (flatP l)[((i : Nat) : Int).toNat * 2]? = some (i64 p.th) := by simpa using c1
              have hc2 : (flatP l)[((i : Nat) : Int).toNat * 2 + 1]? = some (i64 p.kd) := by simpa using c2
              have skip : ¬ (p.kd = 0 ∧ 0 ≤ p.th ∧ p.th < (j : Int)) → OS h (some ⟨bS, 0, none⟩) j j 3 1 (lasts l j (i + 1)) ∧ ∀ u, u < j → ∀ i', i' < i + 1 → ∀ q, l[i']? = some q → (q.kd = 0 ∧ q.th = (u : Int)) → (i' : Int) - lastF l u i' ≤ kn := fun hsk => by
                refine ⟨by rw [lasts_skip hp hsk]; exact os, fun u hu i' hi' q hq hqm => ?_⟩
                by_cases e : i' = i
                · subst e; rw [hp] at hq; cases hq; exact absurd ⟨hqm.1, by omega, by omega⟩ hsk
                · exact hok u hu i' (by omega) q hq hqm
              by_cases k0 : p.kd = 0
              · by_cases t0 : 0 ≤ p.th
                · by_cases t1 : p.th < (j : Int)
                  · obtain ⟨u, hu⟩ : ∃ u : Nat, p.th = (u : Int) := ⟨p.th.toNat, by omega⟩
                    rw [hu] at hc1 t0 t1
                    rw [k0] at hc2
                    have hul : u < j := by omega
                    have hlb := lastF_le l u i
                    have hk2 : ((u : Nat) : Int).toNat * 1 < (lasts l j i).length := by rw [lasts_length]; simp; omega
                    have hcu : (lasts l j i)[((u : Nat) : Int).toNat * 1]? = some (i64 (lastF l u i)) := by simpa using lasts_get (l := l) (n := i) hul
                    by_cases hg : (i : Int) - lastF l u i > (kn : Int)
                    · repeat' (first
                        | refine swp_seq ?_
                        | (refine gk 0 rfl ?_; first | refine sl_op rfl rfl rfl (by first | exact opv_move rfl rfl | exact opv_assign rfl rfl | exact opv_pick_t rfl rfl rfl ) ?_ )
                        | (refine gk 1 rfl ?_; first | refine sl_op rfl rfl rfl (by first | exact opv_sub64 rfl rfl rfl (by omega) (by omega) ) ?_ )
                        | (refine gk 2 rfl ?_; first | refine sl_yes rfl rfl rfl (by first | exact opv_lss rfl rfl rfl | exact opv_gtr rfl rfl rfl | exact opv_geq rfl rfl rfl | exact opv_eql rfl rfl rfl ) (by first | omega ) ?_ )
                        | (refine gk 3 rfl ?_; first | refine sl_op rfl rfl rfl (by first | exact opv_load rfl (by exact rfl) rfl (by exact rfl) | exact opv_fieldAddr rfl rfl | exact opv_indexAddrI rfl rfl rfl (by omega) (by omega) (by first | omega ) | exact opv_loadEx rfl (by exact rfl) (by infer_instance) (by first | assumption ) | exact opv_load2 rfl (by exact rfl) (by infer_instance) (by assumption) (by assumption) ) ?_ )
                        | (refine gk 5 rfl ?_; first | refine sl_alloc rfl rfl rfl rfl (by exact rfl) (fun β => ?_) | refine sl_store rfl rfl rfl rfl rfl rfl (by exact rfl) rfl (by exact rfl) ?_)
                        | refine sl_region rfl ?_
                        | refine sl_draw (by kernel_rfl) (by kernel_rfl) rfl ?_
                        | refine sl_nil ?_
                        | refine thn_k ?_
                        | refine swp_true rfl ?_
                        | refine swp_block ?_
                        | refine swp_ret ?_
                        | refine swp_skip ?_
                        | refine thn_ret ?_
                        | refine inb_ret ?_
                        )
                      refine end_pure (resOk_one (resV_tmp rfl)) ?_
                      congr 1
                      symm
                      rw [← Bool.not_eq_true, List.all_eq_true]
                      intro hall
                      have := (okR_end l u kn).1 (hall u (List.mem_range.2 hul))
                      have := this.1 i (by omega) p hp ⟨k0, hu⟩
                      omega
                    · repeat' (first
                        | (refine sl_storeE (k := ((u : Nat) : Int).toNat * 1) rfl rfl rfl rfl rfl os rfl rfl rfl (Nat.succ_pos _) (by rw [lasts_length]; simp; omega) (set_at (by rw [lasts_length]; exact hul) (lasts_set hp ⟨k0, hu⟩ hul).symm) (fun h2 os2 => ?_))
                        | refine swp_seq ?_
                        | (refine gk 0 rfl ?_; first | refine sl_op rfl rfl rfl (by first | exact opv_move rfl rfl | exact opv_assign rfl rfl | exact opv_pick_t rfl rfl rfl ) ?_ )
                        | (refine gk 1 rfl ?_; first | refine sl_op rfl rfl rfl (by first | exact opv_add64 rfl rfl rfl (by omega) (by omega) | exact opv_sub64 rfl rfl rfl (by omega) (by omega) ) ?_ )
                        | (refine gk 2 rfl ?_; first | refine sl_yes rfl rfl rfl (by first | exact opv_lss rfl rfl rfl | exact opv_gtr rfl rfl rfl | exact opv_geq rfl rfl rfl | exact opv_eql rfl rfl rfl ) (by first | omega ) ?_ | refine sl_no rfl rfl rfl (by first | exact opv_gtr rfl rfl rfl ) (by first | omega ) ?_ )
                        | (refine gk 3 rfl ?_; first | refine sl_op rfl rfl rfl (by first | exact opv_load rfl (by exact rfl) rfl (by exact rfl) | exact opv_fieldAddr rfl rfl | exact opv_indexAddrI rfl rfl rfl (by omega) (by omega) (by first | omega ) | exact opv_loadEx rfl (by exact rfl) (by infer_instance) (by first | assumption ) | exact opv_load2 rfl (by exact rfl) (by infer_instance) (by assumption) (by assumption) ) ?_ )
                        | (refine gk 5 rfl ?_; first | refine sl_alloc rfl rfl rfl rfl (by exact rfl) (fun β => ?_) | refine sl_store rfl rfl rfl rfl rfl rfl (by exact rfl) rfl (by exact rfl) ?_)
                        | refine sl_region rfl ?_
                        | refine sl_draw (by kernel_rfl) (by kernel_rfl) rfl ?_
                        | refine sl_nil ?_
                        | refine thn_k ?_
                        | refine swp_true rfl ?_
                        | refine swp_false rfl ?_
                        | refine swp_block ?_
                        | refine swp_skip ?_
                        )
                      refine ⟨rfl, ⟨i + 1, h2⟩, next_ok (by repeat first | exact Sub.nil _ | refine Sub.cons rfl ?_), ⟨hi2, os2, fun u' hu' i' hi' q hq hqm => ?_⟩, by dsimp only; omega⟩
                      by_cases e : i' = i
                      · subst e; rw [hp] at hq; cases hq
                        obtain rfl : u' = u := by have := hqm.2.symm.trans hu; omega
                        dsimp only at *
                        omega
                      · exact hok u' hu' i' (by dsimp only at hi'; omega) q hq hqm
                  · obtain ⟨s1, s2⟩ := skip (fun e => t1 e.2.2)
                    repeat' (first
                      | refine swp_seq ?_
                      | (refine gk 0 rfl ?_; first | refine sl_op rfl rfl rfl (by first | exact opv_move rfl rfl | exact opv_assign rfl rfl | exact opv_pick_t rfl rfl rfl ) ?_ )
                      | (refine gk 1 rfl ?_; first | refine sl_op rfl rfl rfl (by first | exact opv_add64 rfl rfl rfl (by omega) (by omega) ) ?_ )
                      | (refine gk 2 rfl ?_; first | refine sl_yes rfl rfl rfl (by first | exact opv_lss rfl rfl rfl | exact opv_geq rfl rfl rfl | exact opv_eql rfl rfl rfl ) (by first | omega ) ?_ | refine sl_no rfl rfl rfl (by first | exact opv_lss rfl rfl rfl ) (by first | omega ) ?_ )
                      | (refine gk 3 rfl ?_; first | refine sl_op rfl rfl rfl (by first | exact opv_load rfl (by exact rfl) rfl (by exact rfl) | exact opv_fieldAddr rfl rfl | exact opv_indexAddrI rfl rfl rfl (by omega) (by omega) (by first | omega ) | exact opv_load2 rfl (by exact rfl) (by infer_instance) (by assumption) (by assumption) ) ?_ )
                      | (refine gk 5 rfl ?_; first | refine sl_alloc rfl rfl rfl rfl (by exact rfl) (fun β => ?_) | refine sl_store rfl rfl rfl rfl rfl rfl (by exact rfl) rfl (by exact rfl) ?_)
                      | refine sl_region rfl ?_
                      | refine sl_nil ?_
                      | refine thn_k ?_
                      | refine swp_true rfl ?_
                      | refine swp_false rfl ?_
                      | refine swp_block ?_
                      | refine swp_skip ?_
                      )
                    exact ⟨rfl, ⟨i + 1, h⟩, next_ok (by repeat first | exact Sub.nil _ | refine Sub.cons rfl ?_), ⟨hi2, s1, s2⟩, by dsimp only; omega⟩
                · obtain ⟨s1, s2⟩ := skip (fun e => t0 e.2.1)
                  repeat' (first
                    | refine swp_seq ?_
                    | (refine gk 0 rfl ?_; first | refine sl_op rfl rfl rfl (by first | exact opv_move rfl rfl | exact opv_assign rfl rfl | exact opv_pick_t rfl rfl rfl | exact opv_pick_f rfl rfl rfl ) ?_ | refine sl_pass rfl rfl rfl rfl ?_)
                    | (refine gk 1 rfl ?_; first | refine sl_op rfl rfl rfl (by first | exact opv_add64 rfl rfl rfl (by omega) (by omega) ) ?_ )
                    | (refine gk 2 rfl ?_; first | refine sl_pass rfl rfl rfl rfl ?_ | refine sl_yes rfl rfl rfl (by first | exact opv_lss rfl rfl rfl | exact opv_geq rfl rfl rfl | exact opv_eql rfl rfl rfl ) (by first | omega ) ?_ | refine sl_no rfl rfl rfl (by first | exact opv_geq rfl rfl rfl ) (by first | omega ) ?_ )
                    | (refine gk 3 rfl ?_; first | refine sl_op rfl rfl rfl (by first | exact opv_load rfl (by exact rfl) rfl (by exact rfl) | exact opv_fieldAddr rfl rfl | exact opv_indexAddrI rfl rfl rfl (by omega) (by omega) (by first | omega ) | exact opv_load2 rfl (by exact rfl) (by infer_instance) (by assumption) (by assumption) ) ?_ | refine sl_pass rfl rfl rfl rfl ?_)
                    | (refine gk 5 rfl ?_; first | refine sl_alloc rfl rfl rfl rfl (by exact rfl) (fun β => ?_) | refine sl_store rfl rfl rfl rfl rfl rfl (by exact rfl) rfl (by exact rfl) ?_)
                    | refine sl_region rfl ?_
                    | refine sl_nil ?_
                    | refine thn_k ?_
                    | refine swp_true rfl ?_
                    | refine swp_false rfl ?_
                    | refine swp_block ?_
                    | refine swp_skip ?_
                    )
                  exact ⟨rfl, ⟨i + 1, h⟩, next_ok (by repeat first | exact Sub.nil _ | refine Sub.cons rfl ?_), ⟨hi2, s1, s2⟩, by dsimp only; omega⟩
              · obtain ⟨s1, s2⟩ := skip (fun e => k0 e.1)
                repeat' (first
                  | refine swp_seq ?_
                  | (refine gk 0 rfl ?_; first | refine sl_op rfl rfl rfl (by first | exact opv_move rfl rfl | exact opv_assign rfl rfl | exact opv_pick_f rfl rfl rfl ) ?_ | refine sl_pass rfl rfl rfl rfl ?_)
                  | (refine gk 1 rfl ?_; first | refine sl_op rfl rfl rfl (by first | exact opv_add64 rfl rfl rfl (by omega) (by omega) ) ?_ )
                  | (refine gk 2 rfl ?_; first | refine sl_pass rfl rfl rfl rfl ?_ | refine sl_yes rfl rfl rfl (by first | exact opv_lss rfl rfl rfl | exact opv_eql rfl rfl rfl ) (by first | omega ) ?_ | refine sl_no rfl rfl rfl (by first | exact opv_eql rfl rfl rfl ) (by first | omega ) ?_ )
                  | (refine gk 3 rfl ?_; first | refine sl_op rfl rfl rfl (by first | exact opv_load rfl (by exact rfl) rfl (by exact rfl) | exact opv_fieldAddr rfl rfl | exact opv_indexAddrI rfl rfl rfl (by omega) (by omega) (by first | omega ) | exact opv_load2 rfl (by exact rfl) (by infer_instance) (by assumption) (by assumption) ) ?_ | refine sl_pass rfl rfl rfl rfl ?_)
                  | (refine gk 5 rfl ?_; first | refine sl_alloc rfl rfl rfl rfl (by exact rfl) (fun β => ?_) | refine sl_store rfl rfl rfl rfl rfl rfl (by exact rfl) rfl (by exact rfl) ?_)
                  | refine sl_region rfl ?_
                  | refine sl_nil ?_
                  | refine thn_k ?_
                  | refine swp_true rfl ?_
                  | refine swp_false rfl ?_
                  | refine swp_block ?_
                  | refine swp_skip ?_
                  )
                exact ⟨rfl, ⟨i + 1, h⟩, next_ok (by repeat first | exact Sub.nil _ | refine Sub.cons rfl ?_), ⟨hi2, s1, s2⟩, by dsimp only; omega⟩
            · obtain rfl : i = n := by omega
              have hlv : ((List.range j).map fun (u : Nat) => lastF l u i).length = j := by simp
              haveI slv : Sl h (some ⟨bS, 0, none⟩) (((List.range j).map fun (u : Nat) => lastF l u i).map i64) := by
                have e : ((List.range j).map fun (u : Nat) => lastF l u i).map i64 = lasts l j i := by simp [lasts]
                rw [e]; exact slh
              have hlate := late_calls β7 β5 (some ⟨bS, 0, none⟩) j j ((List.range j).map fun (u : Nat) => lastF l u i) h hlv (by omega) (i : Int) (kn : Int) (by omega) (fun v hv => by
                obtain ⟨u, -, rfl⟩ := List.mem_map.1 hv
                have := lastF_le l u i
                omega)
              have hres : (List.range j).all (fun (u : Nat) => okR kn 1 (marks (u : Int) l)) = !(((List.range j).map fun (u : Nat) => lastF l u i).any fun v => decide ((i : Int) - v > (kn : Int))) := by
                rw [Bool.eq_iff_iff, List.all_eq_true, Bool.not_eq_true', List.any_eq_false]
                constructor
                · intro hall v hv
                  obtain ⟨u, hu, rfl⟩ := List.mem_map.1 hv
                  have := ((okR_end l u kn).1 (hall u hu)).2
                  rw [hl] at this
                  simp; omega
                · intro hno u hu
                  refine (okR_end l u kn).2 ⟨fun i' hi' p hp hpm => hok u (List.mem_range.1 hu) i' (by omega) p hp hpm, ?_⟩
                  have := hno _ (List.mem_map.2 ⟨u, hu, rfl⟩)
                  rw [hl]
                  simp at this; omega
              rw [hres]
              generalize (((List.range j).map fun (u : Nat) => lastF l u i).any fun v => decide ((i : Int) - v > (kn : Int))) = bb at hlate ⊢
              cases bb
              · repeat' (first
                  | refine swp_seq ?_
                  | (refine gk 0 rfl ?_; first | refine sl_op rfl rfl rfl (by first | exact opv_move rfl rfl | exact opv_assign rfl rfl | exact opv_not_f rfl rfl ) ?_ )
                  | (refine gk 2 rfl ?_; first | refine sl_no rfl rfl rfl (by first | exact opv_lss rfl rfl rfl ) (by first | omega ) ?_ )
                  | (refine gk 4 rfl ?_; first | refine sl_op rfl rfl rfl (by first | exact opv_len rfl rfl rfl rfl rfl ) ?_ | refine sl_op rfl rfl rfl (opv_call rfl rfl rfl rfl rfl (hlate)) ?_)
                  | refine sl_region rfl ?_
                  | refine sl_nil ?_
                  | refine thn_k ?_
                  | refine swp_false rfl ?_
                  | refine swp_ret ?_
                  | refine swp_exit ?_
                  )
                refine end_pure (resOk_one (resV_tmp rfl)) ?_
                rfl
              · repeat' (first
                  | refine swp_seq ?_
                  | (refine gk 0 rfl ?_; first | refine sl_op rfl rfl rfl (by first | exact opv_move rfl rfl | exact opv_assign rfl rfl | exact opv_not_t rfl rfl ) ?_ )
                  | (refine gk 2 rfl ?_; first | refine sl_no rfl rfl rfl (by first | exact opv_lss rfl rfl rfl ) (by first | omega ) ?_ )
                  | (refine gk 4 rfl ?_; first | refine sl_op rfl rfl rfl (by first | exact opv_len rfl rfl rfl rfl rfl ) ?_ | refine sl_op rfl rfl rfl (opv_call rfl rfl rfl rfl rfl (hlate)) ?_)
                  | refine sl_region rfl ?_
                  | refine sl_nil ?_
                  | refine thn_k ?_
                  | refine swp_false rfl ?_
                  | refine swp_ret ?_
                  | refine swp_exit ?_
                  )
                refine end_pure (resOk_one (resV_tmp rfl)) ?_
                rfl
        · have hf : fairF l t k = false := by unfold fairF; rw [decide_eq_true ⟨h1, h2⟩, decide_eq_false (by omega), decide_eq_false (by omega)]; rfl
          rw [hf]
          refine pure_of_body Tryz.func17 rfl (Nat.le_of_ble_eq_true rfl) fun F => ?_
          repeat' (first
            | refine swp_seq ?_
            | (refine gk 0 rfl ?_; first | refine sl_op rfl rfl rfl (by first | exact opv_move rfl rfl | exact opv_assign rfl rfl | exact opv_pick_f rfl rfl rfl ) ?_ )
            | (refine gk 2 rfl ?_; first | refine sl_yes rfl rfl rfl (by first | exact opv_lss rfl rfl rfl | exact opv_gtr rfl rfl rfl ) (by first | omega ) ?_ | refine sl_no rfl rfl rfl (by first | exact opv_lss rfl rfl rfl | exact opv_gtr rfl rfl rfl ) (by first | omega ) ?_ )
            | (refine gk 3 rfl ?_; first | refine sl_op rfl rfl rfl (by first | exact opv_load rfl (by exact rfl) rfl (by exact rfl) ) ?_ )
            | (refine gk 4 rfl ?_; first | refine sl_op rfl rfl rfl (by first | exact opv_len rfl rfl rfl rfl rfl ) ?_)
            | (refine gk 5 rfl ?_; first | refine sl_box rfl rfl rfl rfl rfl rfl (fun β => ?_) )
            | refine sl_region rfl ?_
            | refine sl_nil ?_
            | refine thn_k ?_
            | refine swp_true rfl ?_
            | refine swp_false rfl ?_
            | refine swp_ret ?_
            | refine swp_skip ?_
            | refine thn_ret ?_
            )
          refine end_pure (resOk_one (resV_tmp rfl)) ?_
          rfl
    · have hf : fairF l t k = false := by unfold fairF; rw [decide_eq_false (by omega)]; rfl
      rw [hf]
      refine pure_of_body Tryz.func17 rfl (Nat.le_of_ble_eq_true rfl) fun F => ?_
      repeat' (first
        | refine swp_seq ?_
        | (refine gk 0 rfl ?_; first | refine sl_op rfl rfl rfl (by first | exact opv_move rfl rfl | exact opv_assign rfl rfl | exact opv_pick_f rfl rfl rfl ) ?_ )
        | (refine gk 2 rfl ?_; first | refine sl_yes rfl rfl rfl (by first | exact opv_lss rfl rfl rfl ) (by first | omega ) ?_ | refine sl_no rfl rfl rfl (by first | exact opv_lss rfl rfl rfl ) (by first | omega ) ?_ )
        | (refine gk 3 rfl ?_; first | refine sl_op rfl rfl rfl (by first | exact opv_load rfl (by exact rfl) rfl (by exact rfl) ) ?_ )
        | (refine gk 5 rfl ?_; first | refine sl_box rfl rfl rfl rfl rfl rfl (fun β => ?_) )
        | refine sl_region rfl ?_
        | refine sl_nil ?_
        | refine thn_k ?_
        | refine swp_true rfl ?_
        | refine swp_ret ?_
        | refine thn_ret ?_
        )
      refine end_pure (resOk_one (resV_tmp rfl)) ?_
      rfl
  · have hf : fairF l t k = false := by unfold fairF; rw [decide_eq_false (by omega)]; rfl
    rw [hf]
    refine pure_of_body Tryz.func17 rfl (Nat.le_of_ble_eq_true rfl) fun F => ?_
    repeat' (first
      | refine swp_seq ?_
      | (refine gk 0 rfl ?_; first | refine sl_op rfl rfl rfl (by first | exact opv_move rfl rfl | exact opv_assign rfl rfl | exact opv_pick_t rfl rfl rfl ) ?_ )
      | (refine gk 2 rfl ?_; first | refine sl_pass rfl rfl rfl rfl ?_ | refine sl_yes rfl rfl rfl (by first | exact opv_lss rfl rfl rfl ) (by first | omega ) ?_ )
      | (refine gk 3 rfl ?_; first | refine sl_pass rfl rfl rfl rfl ?_)
      | (refine gk 5 rfl ?_; first | refine sl_box rfl rfl rfl rfl rfl rfl (fun β => ?_) )
      | refine sl_region rfl ?_
      | refine sl_nil ?_
      | refine thn_k ?_
      | refine swp_true rfl ?_
      | refine swp_ret ?_
      | refine thn_ret ?_
      )
    refine end_pure (resOk_one (resV_tmp rfl)) ?_
    rfl
end Go.Proofs.YtobcmglbdmaceaaGreatDoor
