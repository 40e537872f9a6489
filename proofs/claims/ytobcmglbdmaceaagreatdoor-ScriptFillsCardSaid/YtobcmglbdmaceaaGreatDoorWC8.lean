/- The law ScriptFair, walked. -/
import Derived.Test.YtobcmglbdmaceaaGreatDoorWC3
import Derived.Test.YtobcmglbdmaceaaGreatDoorSlGb
set_option linter.unusedVariables false
set_option linter.unusedSimpArgs false
set_option linter.unusedSectionVars false
namespace Go.Proofs.YtobcmglbdmaceaaGreatDoor
open Go.SL
set_option maxRecDepth 100000
set_option maxHeartbeats 16000000
theorem fair_true {l : List Pk} {t k : Nat} (ht : 1 ≤ t) (hk : 1 ≤ k) : fairF l (t : Int) (k : Int) = true ↔ (l.length < k ∨ (t ≤ k ∧ ∀ u, u < t → Win k (marks (u : Int) l))) := by
  unfold fairF
  rw [decide_eq_true (show 1 ≤ (t : Int) ∧ 1 ≤ (k : Int) by omega)]
  simp only [Bool.true_and, Bool.or_eq_true, decide_eq_true_eq, Bool.and_eq_true, List.all_eq_true, List.mem_range, Int.toNat_natCast]
  constructor
  · rintro (h | ⟨h1, h2⟩)
    · exact .inl (by omega)
    · exact .inr ⟨by omega, fun u hu => (okR_win hk _).1 (h2 u hu)⟩
  · rintro (h | ⟨h1, h2⟩)
    · exact .inl (by omega)
    · exact .inr ⟨by omega, fun u hu => (okR_win hk _).2 (h2 u hu)⟩
theorem fair_more {l : List Pk} {t k : Nat} (ht : 1 ≤ t) (hk : 1 ≤ k) (h : fairF l (t : Int) (k : Int) = true) : fairF l (t : Int) ((k + 1 : Nat) : Int) = true := by
  rw [fair_true ht hk] at h
  rw [fair_true ht (by omega)]
  rcases h with h | ⟨h1, h2⟩
  · exact .inl (by omega)
  · exact .inr ⟨by omega, fun u hu => (h2 u hu).more⟩
theorem fair_fewer {l : List Pk} {t k : Nat} (ht : 1 ≤ t) (hk : 1 ≤ k) (h : fairF l (t : Int) (k : Int) = true) : fairF l ((1 : Nat) : Int) (k : Int) = true := by
  rw [fair_true ht hk] at h
  rw [fair_true (by omega) hk]
  rcases h with h | ⟨h1, h2⟩
  · exact .inl h
  · exact .inr ⟨by omega, fun u hu => h2 u (by omega)⟩
theorem fair_part {l : List Pk} {t k : Nat} (ht : 1 ≤ t) (hk : 1 ≤ k) (h : fairF l (t : Int) (k : Int) = true) (a b : Nat) : fairF ((l.take b).drop a) (t : Int) (k : Int) = true := by
  rw [fair_true ht hk] at h
  rw [fair_true ht hk]
  rcases h with h | ⟨h1, h2⟩
  · exact .inl (by rw [List.length_drop, List.length_take]; omega)
  · refine .inr ⟨h1, fun u hu => ?_⟩
    have := (h2 u hu).part a b
    unfold marks at this ⊢
    rwa [List.map_drop, List.map_take]
theorem fair_no {l : List Pk} {t k : Nat} (ht : 1 ≤ t) (hk : 1 ≤ k) (h : fairF l (t : Int) (k : Int) = false) : fairF l ((t + 1 : Nat) : Int) (k : Int) = false := by
  rw [← Bool.not_eq_true] at h ⊢
  rw [fair_true ht hk] at h
  rw [fair_true (by omega) hk]
  rintro (h1 | ⟨h1, h2⟩)
  · exact h (.inl h1)
  · exact h (.inr ⟨by omega, fun u hu => h2 u (by omega)⟩)
def m3 (p : Pk) : Pk := ⟨((p.th.toNat % 3 : Nat) : Int), p.kd⟩
def cur3 (l : List Pk) (j : Nat) : List Pk := (l.take j).map m3 ++ l.drop j
theorem cur3_length (l : List Pk) (j : Nat) : (cur3 l j).length = l.length := by simp [cur3]; omega
theorem cur3_get {l : List Pk} {j : Nat} {p : Pk} (h : l[j]? = some p) : (cur3 l j)[j]? = some p := by
  have hj := (List.getElem?_eq_some_iff.1 h).1
  unfold cur3
  rw [List.getElem?_append_right (by simp; omega)]
  simp only [List.length_map, List.length_take, Nat.min_eq_left (Nat.le_of_lt hj), Nat.sub_self, List.getElem?_drop, Nat.add_zero]
  exact h
theorem cur3_set {l : List Pk} {j : Nat} {p : Pk} (h : l[j]? = some p) : (cur3 l j).set j (m3 p) = cur3 l (j + 1) := by
  have hj := (List.getElem?_eq_some_iff.1 h).1
  unfold cur3
  rw [List.set_append, if_neg (by simp; omega)]
  simp only [List.length_map, List.length_take, Nat.min_eq_left (Nat.le_of_lt hj), Nat.sub_self]
  rw [List.drop_eq_getElem_cons hj, List.set_cons_zero, List.take_add_one, h, List.map_append, List.append_assoc]; rfl
theorem flatP_set {l : List Pk} {j : Nat} {t k : Int} {p : Pk} (h : l[j]? = some p) (hk : p.kd = k) : (flatP l).set (j * 2) (i64 t) = flatP (l.set j ⟨t, k⟩) := by
  induction l generalizing j with
  | nil => simp at h
  | cons q l ih =>
    cases j with
    | zero => simp at h; subst h; subst hk; simp [flatP]
    | succ j =>
      rw [show (j + 1) * 2 = j * 2 + 1 + 1 by omega]
      simp only [flatP, List.set_cons_succ]
      rw [ih (by simpa using h)]
theorem set_any {cs cs' : List Value} {k : Nat} {v : Value} (h : k < cs.length) (e : cs.set k v = cs') : cs.take k ++ [v] ++ cs.drop (k + [v].length) = cs' := by
  rw [← e, List.set_eq_take_append_cons_drop, if_pos h, List.append_assoc]; rfl
theorem flatP_part (l : List Pk) (a b : Nat) : ((flatP l).take (b * 2)).drop (a * 2) = flatP ((l.take b).drop a) := by
  have ht : ∀ (l : List Pk) (k : Nat), (flatP l).take (k * 2) = flatP (l.take k) := by
    intro l
    induction l with
    | nil => intro k; simp [flatP]
    | cons p l ih =>
      intro k
      cases k with
      | zero => simp [flatP]
      | succ k =>
        rw [show (k + 1) * 2 = k * 2 + 1 + 1 by omega]
        simp [flatP, ih]
  have hd : ∀ (l : List Pk) (k : Nat), (flatP l).drop (k * 2) = flatP (l.drop k) := by
    intro l
    induction l with
    | nil => intro k; simp [flatP]
    | cons p l ih =>
      intro k
      cases k with
      | zero => simp
      | succ k =>
        rw [show (k + 1) * 2 = k * 2 + 1 + 1 by omega]
        simp [flatP, ih]
  rw [ht, hd]
theorem tmod_nat {z : Int} {m : Nat} (h0 : 0 ≤ z) (hm : 0 < m) : ∃ r : Nat, z.tmod (m : Int) = (r : Int) ∧ r < m := by
  rw [Int.tmod_eq_emod_of_nonneg h0]
  have h1 := Int.emod_nonneg z (show (m : Int) ≠ 0 by omega)
  have h2 := Int.emod_lt_of_pos z (show 0 < (m : Int) by omega)
  exact ⟨(z % (m : Int)).toNat, by omega, by omega⟩
attribute [local irreducible] SL.T PFn OpV SOL SWP HOp ChU printF parseF fairF fillF decP
-- ALIAS Tryz
structure SB3 where
  j : Nat
  h : Heap
theorem ScriptFair_calls (J : Heap) [sg : Ges J] [pw : Pow J] (s : List UInt8) (n0 n1 n2 n3 : Int) (h0 : 0 ≤ n0 ∧ n0 ≤ 255) (h1 : 0 ≤ n1 ∧ n1 ≤ 255) (h2 : 0 ≤ n2 ∧ n2 ≤ 255) (h3 : 0 ≤ n3 ∧ n3 ≤ 255) (hs : s.length ≤ 9223372036854775807) :
    PFn Tryz.prog 5 [str s, .agg ⟨[.int .u8 n0, .int .u8 n1, .int .u8 n2, .int .u8 n3]⟩] [J] (.bool true) := by
  obtain ⟨m, hm, hm2⟩ : ∃ k : Nat, min (s.length : Int) 100 = (k : Int) ∧ k = min s.length 100 := ⟨min s.length 100, by omega, rfl⟩
  obtain ⟨s1, hs1⟩ : ∃ x, x = s.take (m : Int).toNat := ⟨_, rfl⟩
  have hs1l : s1.length ≤ 100 := by rw [hs1, List.length_take]; omega
  have kd := Decode_calls s1 (by omega)
  obtain ⟨l, hl⟩ : ∃ l, l = decP s1 := ⟨_, rfl⟩
  have hll : l.length = s1.length := by rw [hl]; exact decP_length s1
  have hth : ∀ p ∈ l, ∃ u : Nat, p.th = (u : Int) ∧ u < 64 := fun p hp => by
    rw [hl] at hp
    unfold decP at hp
    obtain ⟨x, -, rfl⟩ := List.mem_map.1 hp
    exact ⟨x.toNat % 64, rfl, by omega⟩
  rw [← hl] at kd
  obtain ⟨n, hn⟩ : ∃ n, n = s1.length := ⟨_, rfl⟩
  rw [← hn] at kd hll
  obtain ⟨r0, hr0, hr0l⟩ := tmod_nat (m := 3) h0.1 (by decide)
  obtain ⟨r1, hr1, hr1l⟩ := tmod_nat (m := 12) h1.1 (by decide)
  obtain ⟨a, ha, hal⟩ := tmod_nat (m := n + 1) h2.1 (by omega)
  obtain ⟨b, hb, hbl⟩ := tmod_nat (m := n - a + 1) h3.1 (by omega)
  have w0 : IntKind.i64.wrap (r0 : Int) = (r0 : Int) := wrap64_id (by omega) (by omega)
  have w1 : IntKind.i64.wrap (r1 : Int) = (r1 : Int) := wrap64_id (by omega) (by omega)
  have w2 : IntKind.i64.wrap n2 = n2 := wrap64_id (by omega) (by omega)
  have w3 : IntKind.i64.wrap n3 = n3 := wrap64_id (by omega) (by omega)
  have e0 : (1 : Int) + (r0 : Int) = ((1 + r0 : Nat) : Int) := by omega
  have e1 : (1 : Int) + (r1 : Int) = ((1 + r1 : Nat) : Int) := by omega
  have ea : n2.tmod ((n : Int) + 1) = (a : Int) := by rw [← ha]; congr 1
  have eb : n3.tmod ((n : Int) - (a : Int) + 1) = (b : Int) := by rw [← hb]; congr 1; omega
  refine pure_of_body Tryz.func5 rfl (Nat.le_of_ble_eq_true rfl) fun F => ?_
  repeat' (first
    | refine sl_op rfl rfl rfl (opv_lenS rfl rfl rfl rfl rfl) ?_
    | refine sl_op rfl rfl rfl ((opv_min rfl rfl rfl rfl rfl).to (congrArg (Value.int .i64) hm)) ?_
    | refine sl_op rfl rfl rfl ((opv_sliceSHi rfl rfl rfl (by omega) (by omega)).to (congrArg str hs1.symm)) ?_
    | refine swp_seq ?_
    | (refine gk 0 rfl ?_; first | refine sl_op rfl rfl rfl (by first | exact opv_move rfl rfl | exact opv_assign rfl rfl | exact opv_not_t rfl rfl ) ?_ )
    | (refine gk 4 rfl ?_; first | refine sl_op rfl rfl rfl (opv_call rfl rfl rfl rfl rfl (works_calls (G := J))) ?_ | (refine sl_callT rfl rfl rfl rfl rfl rfl rfl rfl (kd) ?_; rintro _ _ ⟨hD, bD, cD, rfl, osD, rfl⟩; refine ⟨_, _, rfl, rfl, ?_⟩))
    | (refine gk 5 rfl ?_; first | refine sl_box rfl rfl rfl rfl rfl rfl (fun β => ?_) )
    | refine sl_region rfl ?_
    | refine sl_nil ?_
    | refine thn_k ?_
    | refine swp_false rfl ?_
    | refine swp_block ?_
    | refine swp_skip ?_
    )
  obtain ⟨βn, rfl⟩ : ∃ x, x = β := ⟨_, rfl⟩
  refine swp_loopS (fun t : SB3 => [(3, ptr βn), (5, .slice bD n cD), (6, i64 (t.j : Int))]) (fun t => [t.h, blk βn (.cells ⟨[.int .u8 n0, .int .u8 n1, .int .u8 n2, .int .u8 n3]⟩ 44 (0, 0)), J])
    (fun t => t.j ≤ n ∧ OS t.h bD n cD 42 2 (flatP (cur3 l t.j))) (fun t => n - t.j) ⟨0, hD⟩ (by repeat first | exact Sub.nil _ | refine Sub.cons rfl ?_) ⟨Nat.zero_le _, by simpa [cur3] using osD⟩ ?_
  clear osD
  rintro ⟨j, h⟩ ⟨hj, os⟩
  dsimp only at hj os ⊢
  haveI slh := os.sl
  have hcl := cur3_length l j
  have hfl := flatP_length (cur3 l j)
  by_cases hj2 : j < n
  · obtain ⟨p, hp⟩ : ∃ p, l[j]? = some p := ⟨_, List.getElem?_eq_getElem (by omega)⟩
    obtain ⟨u, hu, hu64⟩ := hth p (List.mem_of_getElem? hp)
    have hg := cur3_get hp
    obtain ⟨c1, c2⟩ := flatP_at hg
    rw [hu] at c1
    have hc0 : ((j : Nat) : Int).toNat * 2 < (flatP (cur3 l j)).length := by rw [hfl, hcl]; simp; omega
    have hc1 : (flatP (cur3 l j))[((j : Nat) : Int).toNat * 2]? = some (i64 (u : Int)) := by simpa using c1
    have hc2 : (flatP (cur3 l j))[((j : Nat) : Int).toNat * 2 + 1]? = some (i64 p.kd) := by simpa using c2
    have hrm : Value.int .i64 ((u : Int).tmod 3) = i64 ((u % 3 : Nat) : Int) := congrArg (Value.int .i64) (Int.ofNat_tmod u 3).symm
    have hset : (flatP (cur3 l j)).set (((j : Nat) : Int).toNat * 2) (i64 ((u % 3 : Nat) : Int)) = flatP (cur3 l (j + 1)) := by
      rw [Int.toNat_natCast, flatP_set hg rfl, ← cur3_set hp]
      congr 2
      unfold m3
      rw [hu, Int.toNat_natCast]
    repeat' (first
      | refine sl_op rfl rfl rfl ((opv_rem rfl rfl rfl (by omega)).to hrm) ?_
      | (refine sl_storeE (k := ((j : Nat) : Int).toNat * 2) rfl rfl rfl rfl rfl os rfl rfl rfl (Nat.succ_pos _) (by simp only [List.length_cons, List.length_nil]; omega) (set_any hc0 hset) (fun h2 os2 => ?_))
      | refine swp_seq ?_
      | (refine gk 0 rfl ?_; first | refine sl_op rfl rfl rfl (by first | exact opv_move rfl rfl | exact opv_assign rfl rfl ) ?_ )
      | (refine gk 1 rfl ?_; first | refine sl_op rfl rfl rfl (by first | exact opv_add64 rfl rfl rfl (by omega) (by omega) ) ?_ )
      | (refine gk 2 rfl ?_; first | refine sl_yes rfl rfl rfl (by first | exact opv_lss rfl rfl rfl ) (by first | omega ) ?_ )
      | (refine gk 3 rfl ?_; first | refine sl_op rfl rfl rfl (by first | exact opv_indexAddrI rfl rfl rfl (by omega) (by omega) (by first | omega ) | exact opv_fieldAddrE rfl rfl (by first | assumption ) | exact opv_loadEx rfl (by exact rfl) (by infer_instance) (by first | assumption ) ) ?_ )
      | (refine gk 4 rfl ?_; first | refine sl_op rfl rfl rfl (by first | exact opv_len rfl rfl rfl rfl rfl ) ?_)
      | refine sl_region rfl ?_
      | refine sl_nil ?_
      | refine thn_k ?_
      | refine swp_true rfl ?_
      | refine swp_block ?_
      | refine swp_skip ?_
      )
    exact ⟨rfl, ⟨j + 1, h2⟩, next_ok (by repeat first | exact Sub.nil _ | refine Sub.cons rfl ?_), ⟨hj2, os2⟩, by dsimp only; omega⟩
  · obtain rfl : j = n := by omega
    have hM : cur3 l j = l.map m3 := by unfold cur3; rw [List.take_of_length_le (by omega), List.drop_eq_nil_of_le (by omega), List.append_nil]
    rw [hM] at os slh hcl hfl
    obtain ⟨M, hMM⟩ : ∃ M, M = l.map m3 := ⟨_, rfl⟩
    rw [← hMM] at os slh hcl hfl
    have hMl : M.length = j := by omega
    have AR : True := trivial
    have f1 := fair_at h bD j cD M ((1 + r0 : Nat) : Int) ((1 + r1 : Nat) : Int)
    cases hF : fairF M ((1 + r0 : Nat) : Int) ((1 + r1 : Nat) : Int) with
    | false =>
      have hF2 := fair_no (by omega) (by omega) hF
      have g1 := f1 false slh hMl (by omega) hF
      have g2 := fair_at h bD j cD M ((1 + r0 + 1 : Nat) : Int) ((1 + r1 : Nat) : Int) false slh hMl (by omega) hF2
      rw [show ((1 + r0 + 1 : Nat) : Int) = 1 + (r0 : Int) + 1 by omega, show ((1 + r1 : Nat) : Int) = 1 + (r1 : Int) by omega] at g2
      rw [show ((1 + r0 : Nat) : Int) = 1 + (r0 : Int) by omega, show ((1 + r1 : Nat) : Int) = 1 + (r1 : Int) by omega] at g1
      repeat' (first
        | refine sl_op rfl rfl rfl ((opv_rem rfl rfl rfl (by omega)).to (congrArg (Value.int .u8) hr0)) ?_
        | refine sl_op rfl rfl rfl ((opv_rem rfl rfl rfl (by omega)).to (congrArg (Value.int .u8) hr1)) ?_
        | refine sl_op rfl rfl rfl ((opv_convert rfl rfl).to (congrArg (Value.int .i64) w0)) ?_
        | refine sl_op rfl rfl rfl ((opv_convert rfl rfl).to (congrArg (Value.int .i64) w1)) ?_
        | refine swp_seq ?_
        | (refine gk 0 rfl ?_; first | refine sl_op rfl rfl rfl (by first | exact opv_move rfl rfl | exact opv_assign rfl rfl | exact opv_pick_t rfl rfl rfl | exact opv_not_f rfl rfl ) ?_ | refine sl_pass rfl rfl rfl rfl ?_)
        | (refine gk 1 rfl ?_; first | refine sl_op rfl rfl rfl (by first | exact opv_add64 rfl rfl rfl (by omega) (by omega) ) ?_ )
        | (refine gk 2 rfl ?_; first | refine sl_pass rfl rfl rfl rfl ?_ | refine sl_no rfl rfl rfl (by first | exact opv_lss rfl rfl rfl ) (by first | omega ) ?_ )
        | (refine gk 3 rfl ?_; first | refine sl_op rfl rfl rfl (by first | exact opv_load rfl (by exact rfl) rfl (by exact rfl) | exact opv_indexAddrR rfl rfl rfl (by omega) (by omega) ) ?_ )
        | (refine gk 4 rfl ?_; first | refine sl_pass rfl rfl rfl rfl ?_ | refine sl_op rfl rfl rfl (by first | exact opv_len rfl rfl rfl rfl rfl ) ?_ | refine sl_op rfl rfl rfl (opv_call rfl rfl rfl rfl rfl (g1)) ?_ | refine sl_op rfl rfl rfl (opv_call rfl rfl rfl rfl rfl (g2)) ?_)
        | refine sl_region rfl ?_
        | refine sl_draw (by kernel_rfl) (by kernel_rfl) rfl ?_
        | refine sl_nil ?_
        | refine thn_k ?_
        | refine swp_true rfl ?_
        | refine swp_false rfl ?_
        | refine swp_ret ?_
        | refine swp_exit ?_
        | refine thn_ret ?_
        )
      refine end_pure (resOk_one (resV_tmp rfl)) ?_
      rfl
    | true =>
      have g1 := f1 true slh hMl (by omega) hF
      have g2 := fair_at h bD j cD M ((1 + r0 : Nat) : Int) ((1 + r1 + 1 : Nat) : Int) true slh hMl (by omega) (fair_more (by omega) (by omega) hF)
      have g3 := fair_at h bD j cD M ((1 : Nat) : Int) ((1 + r1 : Nat) : Int) true slh hMl (by omega) (fair_fewer (by omega) (by omega) hF)
      have hab : a + b ≤ j := by omega
      have slP : Sl h (sub bD a cD 2) (flatP ((M.take (a + b)).drop a)) := by
        rw [← flatP_part]
        have hle := os.hle
        exact (slh.take ((a + b) * 2)).drop a cD 2 (by rw [List.length_take]; omega)
      have g4 := fair_at h (sub bD a cD 2) (a + b - a) (cD - a) ((M.take (a + b)).drop a) ((1 + r0 : Nat) : Int) ((1 + r1 : Nat) : Int) true slP (by rw [List.length_drop, List.length_take]; omega) (by omega) (fair_part (by omega) (by omega) hF a (a + b))
      have hle := os.hle
      rw [show ((1 + r1 + 1 : Nat) : Int) = 1 + (r1 : Int) + 1 by omega] at g2
      rw [show ((1 + r0 : Nat) : Int) = 1 + (r0 : Int) by omega] at g1 g2 g4
      rw [show ((1 + r1 : Nat) : Int) = 1 + (r1 : Int) by omega] at g1 g3 g4
      have q1 : ((a : Int) + (b : Int)).toNat - (a : Int).toNat = a + b - a := by omega
      have hsl : Value.slice (sub bD (a : Int).toNat cD 2) (((a : Int) + (b : Int)).toNat - (a : Int).toNat) (cD - (a : Int).toNat) = .slice (sub bD a cD 2) (a + b - a) (cD - a) := by rw [q1, Int.toNat_natCast]
      repeat' (first
        | refine sl_op rfl rfl rfl ((opv_rem rfl rfl rfl (by omega)).to (congrArg (Value.int .u8) hr0)) ?_
        | refine sl_op rfl rfl rfl ((opv_rem rfl rfl rfl (by omega)).to (congrArg (Value.int .u8) hr1)) ?_
        | refine sl_op rfl rfl rfl ((opv_convert rfl rfl).to (congrArg (Value.int .i64) w0)) ?_
        | refine sl_op rfl rfl rfl ((opv_convert rfl rfl).to (congrArg (Value.int .i64) w1)) ?_
        | refine sl_op rfl rfl rfl ((opv_convert rfl rfl).to (congrArg (Value.int .i64) w2)) ?_
        | refine sl_op rfl rfl rfl ((opv_convert rfl rfl).to (congrArg (Value.int .i64) w3)) ?_
        | refine sl_op rfl rfl rfl ((opv_rem rfl rfl rfl (by omega)).to (congrArg (Value.int .i64) ea)) ?_
        | refine sl_op rfl rfl rfl ((opv_rem rfl rfl rfl (by omega)).to (congrArg (Value.int .i64) eb)) ?_
        | refine sl_op rfl rfl rfl ((opv_sliceLH rfl rfl rfl rfl (by omega) (by omega) (by omega)).to hsl) ?_
        | refine swp_seq ?_
        | (refine gk 0 rfl ?_; first | refine sl_op rfl rfl rfl (by first | exact opv_move rfl rfl | exact opv_assign rfl rfl | exact opv_pick_t rfl rfl rfl | exact opv_not_t rfl rfl ) ?_ )
        | (refine gk 1 rfl ?_; first | refine sl_op rfl rfl rfl (by first | exact opv_add64 rfl rfl rfl (by omega) (by omega) | exact opv_sub64 rfl rfl rfl (by omega) (by omega) ) ?_ )
        | (refine gk 2 rfl ?_; first | refine sl_no rfl rfl rfl (by first | exact opv_lss rfl rfl rfl ) (by first | omega ) ?_ )
        | (refine gk 3 rfl ?_; first | refine sl_op rfl rfl rfl (by first | exact opv_load rfl (by exact rfl) rfl (by exact rfl) | exact opv_indexAddrR rfl rfl rfl (by omega) (by omega) ) ?_ )
        | (refine gk 4 rfl ?_; first | refine sl_op rfl rfl rfl (by first | exact opv_len rfl rfl rfl rfl rfl ) ?_ | refine sl_op rfl rfl rfl (opv_call rfl rfl rfl rfl rfl (g1)) ?_ | refine sl_op rfl rfl rfl (opv_call rfl rfl rfl rfl rfl (g2)) ?_ | refine sl_op rfl rfl rfl (opv_call rfl rfl rfl rfl rfl (g3)) ?_ | refine sl_op rfl rfl rfl (opv_call rfl rfl rfl rfl rfl (g4)) ?_)
        | refine sl_region rfl ?_
        | refine sl_draw (by kernel_rfl) (by kernel_rfl) rfl ?_
        | refine sl_nil ?_
        | refine thn_k ?_
        | refine swp_false rfl ?_
        | refine swp_ret ?_
        | refine swp_exit ?_
        | refine swp_skip ?_
        )
      refine end_pure (resOk_one (resV_tmp rfl)) ?_
      rfl
end Go.Proofs.YtobcmglbdmaceaaGreatDoor
