/- The law ScriptBack, walked. -/
import Derived.Test.YtobcmglbdmaceaaGreatDoorWC3
import Derived.Test.YtobcmglbdmaceaaGreatDoorWC8
set_option linter.unusedVariables false
set_option linter.unusedSimpArgs false
set_option linter.unusedSectionVars false
namespace Go.Proofs.YtobcmglbdmaceaaGreatDoor
open Go.SL
set_option maxRecDepth 100000
set_option maxHeartbeats 16000000
abbrev u16 (a : Int) : Value := .int .u16 a
abbrev u8v (a : Int) : Value := .int .u8 a
/-- The pick of a place, with the thread that is drawn. -/
def newP (T : List Int) (i : Nat) (p : Pk) : Pk := if T.length = 0 then p else ⟨T.getD (i % T.length) 0, p.kd⟩
def gapT (r : Nat) : List UInt8 := if r = 0 then [32] else if r = 1 then [32, 32] else [32, 32, 32, 32, 32]
def gapF (G : List Int) (i : Nat) : List UInt8 := if G.length = 0 then [32] else gapT ((G.getD (i % G.length) 0).toNat % 3)
def newL (T : List Int) (L : List Pk) : List Pk := L.mapIdx (newP T)
def cur (T : List Int) (L : List Pk) (j : Nat) : List Pk := (newL T L).take j ++ L.drop j
def items (T G : List Int) (L : List Pk) : List (List UInt8 × Pk) := (newL T L).mapIdx fun i p => (gapF G i, p)
theorem newL_length (T : List Int) (L : List Pk) : (newL T L).length = L.length := by simp [newL]
theorem cur_length (T : List Int) (L : List Pk) (j : Nat) : (cur T L j).length = L.length := by simp [cur, newL]; omega
theorem newL_get {T : List Int} {L : List Pk} {j : Nat} {p : Pk} (h : L[j]? = some p) : (newL T L)[j]? = some (newP T j p) := by simp [newL, h]
theorem cur_get {T : List Int} {L : List Pk} {j : Nat} {p : Pk} (h : L[j]? = some p) : (cur T L j)[j]? = some p := by
  have hj := (List.getElem?_eq_some_iff.1 h).1
  unfold cur
  rw [List.getElem?_append_right (by rw [List.length_take, newL_length]; omega), List.length_take, newL_length, Nat.min_eq_left (by omega), Nat.sub_self, List.getElem?_drop, Nat.add_zero]
  exact h
theorem cur_set {T : List Int} {L : List Pk} {j : Nat} {p : Pk} (h : L[j]? = some p) : (cur T L j).set j (newP T j p) = cur T L (j + 1) := by
  have hj := (List.getElem?_eq_some_iff.1 h).1
  unfold cur
  rw [List.set_append, if_neg (by rw [List.length_take, newL_length]; omega), List.length_take, newL_length, Nat.min_eq_left (by omega), Nat.sub_self, List.drop_eq_getElem_cons hj, List.set_cons_zero, List.take_add_one, newL_get h, List.append_assoc]; rfl
theorem cur_same {L : List Pk} {j : Nat} {p : Pk} (h : L[j]? = some p) {T : List Int} (hT : T.length = 0) : cur T L (j + 1) = cur T L j := by
  rw [← cur_set h]
  have : newP T j p = p := by unfold newP; rw [if_pos hT]
  rw [this]
  apply List.ext_getElem?
  intro i
  rw [List.getElem?_set]
  split
  · rename_i e
    subst e
    rw [cur_get h]
    split
    · rfl
    · rename_i e2; exact absurd (List.getElem?_eq_some_iff.1 (cur_get (T := T) h)).1 e2
  · rfl
theorem cur_get1 {T : List Int} {L : List Pk} {j : Nat} {p : Pk} (h : L[j]? = some p) : (cur T L (j + 1))[j]? = some (newP T j p) := by
  have hj := (List.getElem?_eq_some_iff.1 h).1
  rw [← cur_set h, List.getElem?_set_self (by rw [cur_length]; exact hj)]
theorem items_get {T G : List Int} {L : List Pk} {j : Nat} {p : Pk} (h : L[j]? = some p) : (items T G L)[j]? = some (gapF G j, newP T j p) := by
  simp [items, newL_get h]
theorem flatG_snoc (l : List (List UInt8 × Pk)) (x : List UInt8 × Pk) : flatG (l ++ [x]) = flatG l ++ (x.1 ++ wordP x.2) := by
  induction l with
  | nil => simp [flatG]
  | cons y l ih => rw [List.cons_append, flatG, ih, flatG]; simp
theorem gapT_blk (r : Nat) : Blk (gapT r) ∧ (gapT r).length ≤ 5 := by
  unfold gapT
  split
  · exact ⟨⟨by simp, by simp⟩, by decide⟩
  · split
    · exact ⟨⟨by simp, by simp⟩, by decide⟩
    · exact ⟨⟨by simp, by simp⟩, by decide⟩
theorem gapF_blk (G : List Int) (i : Nat) : Blk (gapF G i) ∧ (gapF G i).length ≤ 5 := by
  unfold gapF
  split
  · exact ⟨⟨by simp, by simp⟩, by decide⟩
  · exact gapT_blk _
theorem flatG_len {l : List (List UInt8 × Pk)} (h : ∀ x ∈ l, x.1.length ≤ 5) : (flatG l).length ≤ l.length * 11 := by
  induction l with
  | nil => simp [flatG]
  | cons x l ih =>
    have h1 := h x (by simp)
    have h2 := ih fun y hy => h y (by simp [hy])
    have h3 := wordP_len x.2
    simp only [flatG, List.length_append, List.length_cons]
    omega
theorem items_gap {T G : List Int} {L : List Pk} : ∀ x ∈ items T G L, Blk x.1 ∧ x.1.length ≤ 5 := fun x hx => by
  obtain ⟨i, hi⟩ := List.mem_iff_getElem?.1 hx
  obtain ⟨p, hp⟩ : ∃ p, L[i]? = some p := by
    refine ⟨_, List.getElem?_eq_getElem ?_⟩
    have := (List.getElem?_eq_some_iff.1 hi).1
    simpa [items, newL] using this
  rw [items_get hp] at hi
  cases hi
  exact gapF_blk G i
theorem items_snd (T G : List Int) (L : List Pk) : (items T G L).map (·.2) = newL T L := by
  apply List.ext_getElem?
  intro i
  simp [items]
  cases (newL T L)[i]? <;> rfl
theorem newL_good {T : List Int} {L : List Pk} (hT : ∀ z ∈ T, 0 ≤ z ∧ z ≤ 65535) (hL : ∀ p ∈ L, Good p) : ∀ p ∈ newL T L, Good p := fun p hp => by
  obtain ⟨i, hi⟩ := List.mem_iff_getElem?.1 hp
  obtain ⟨q, hq⟩ : ∃ q, L[i]? = some q := by
    refine ⟨_, List.getElem?_eq_getElem ?_⟩
    have := (List.getElem?_eq_some_iff.1 hi).1
    simpa [newL] using this
  rw [newL_get hq] at hi
  cases hi
  have hg := hL q (List.mem_of_getElem? hq)
  unfold newP
  split
  · exact hg
  · rename_i h0
    have hm : i % T.length < T.length := Nat.mod_lt _ (by omega)
    have : T.getD (i % T.length) 0 ∈ T := by
      rw [List.getD_eq_getElem?_getD, List.getElem?_eq_getElem hm]
      exact List.getElem_mem hm
    have := hT _ this
    exact ⟨this.1, by dsimp only; omega, hg.2.2.1, hg.2.2.2⟩
theorem decP_good (s : List UInt8) : ∀ p ∈ decP s, Good p := fun p hp => by
  unfold decP at hp
  obtain ⟨x, -, rfl⟩ := List.mem_map.1 hp
  have h1 : x.toNat % 64 < 64 := Nat.mod_lt _ (by decide)
  refine ⟨?_, ?_, ?_, ?_⟩
  · show (0 : Int) ≤ ((x.toNat % 64 : Nat) : Int); omega
  · show ((x.toNat % 64 : Nat) : Int) ≤ 99999; omega
  · show 0 ≤ kdB x
    unfold kdB
    split
    · omega
    · split <;> omega
  · show kdB x ≤ 2
    unfold kdB
    split
    · omega
    · split <;> omega
theorem gap_arr (r : Nat) (h : r < 3) : ([str [32], str [32, 32], str [32, 32, 32, 32, 32]] : List Value)[((r : Nat) : Int).toNat * 1]? = some (str (gapT r)) := by
  match r, h with
  | 0, _ => rfl
  | 1, _ => rfl
  | 2, _ => rfl
theorem parse_text {T G : List Int} {L : List Pk} (hT : ∀ z ∈ T, 0 ≤ z ∧ z ≤ 65535) (hL : ∀ p ∈ L, Good p) : parseF (flatG (items T G L) ++ [32, 32]) = .ok (newL T L) := by
  have := parse_flat (t := [32, 32]) (acc := []) (.inr ⟨by simp, by simp⟩) (l := items T G L) fun x hx => ⟨(items_gap x hx).1, by
    have hm : x.2 ∈ newL T L := by rw [← items_snd T G L]; exact List.mem_map.2 ⟨x, hx, rfl⟩
    exact newL_good hT hL _ hm⟩
  unfold parseF
  rw [this, items_snd]; rfl
theorem printF_len (l : List Pk) : (printF l).length ≤ l.length * 7 := by
  have := join_len [32] 6 (l.map wordP) (fun x hx => by obtain ⟨p, -, rfl⟩ := List.mem_map.1 hx; exact wordP_len p)
  simpa [printF] using this
theorem printF_one (p : Pk) : printF [p] = wordP p := by simp [printF, Lib.join_one]
attribute [local irreducible] SL.T PFn OpV SOL SWP HOp ChU printF parseF fairF fillF decP wordP
-- ALIAS Tryz
structure SBk where
  j : Nat
  h : Heap
theorem ScriptBack_calls (J : Heap) [sg : Ges J] [pw : Pow J] (s : List UInt8) (tb : Option Addr) (tn tc : Nat) (T : List Int) (slT : Sl J tb (T.map u16)) (hT : T.length = tn) (wT : ∀ z ∈ T, 0 ≤ z ∧ z ≤ 65535) (mT : tn ≤ 9223372036854775807)
    (gb : Option Addr) (gn gc : Nat) (G : List Int) (slG : Sl J gb (G.map u8v)) (hG : G.length = gn) (wG : ∀ z ∈ G, 0 ≤ z ∧ z ≤ 255) (mG : gn ≤ 9223372036854775807) (hs : s.length ≤ 9223372036854775807) :
    PFn Tryz.prog 6 [str s, .slice tb tn tc, .slice gb gn gc] [J] (.bool true) := by
  obtain ⟨m, hm, hm2⟩ : ∃ k : Nat, min (s.length : Int) 100 = (k : Int) ∧ k = min s.length 100 := ⟨min s.length 100, by omega, rfl⟩
  obtain ⟨s1, hs1⟩ : ∃ x, x = s.take (m : Int).toNat := ⟨_, rfl⟩
  have hs1l : s1.length ≤ 100 := by rw [hs1, List.length_take]; omega
  have kd := Decode_calls s1 (by omega)
  have hgood := decP_good s1
  obtain ⟨L, hL⟩ : ∃ l, l = decP s1 := ⟨_, rfl⟩
  have hll : L.length = s1.length := by rw [hL]; exact decP_length s1
  rw [← hL] at kd hgood
  obtain ⟨n, hn⟩ : ∃ n, n = s1.length := ⟨_, rfl⟩
  rw [← hn] at kd hll
  refine pure_of_body Tryz.func6 rfl (Nat.le_of_ble_eq_true rfl) fun F => ?_
  repeat' (first
    | refine sl_op rfl rfl rfl (opv_lenS rfl rfl rfl rfl rfl) ?_
    | refine sl_op rfl rfl rfl ((opv_min rfl rfl rfl rfl rfl).to (congrArg (Value.int .i64) hm)) ?_
    | refine sl_op rfl rfl rfl ((opv_sliceSHi rfl rfl rfl (by omega) (by omega)).to (congrArg str hs1.symm)) ?_
    | refine swp_seq ?_
    | (refine gk 0 rfl ?_; first | refine sl_op rfl rfl rfl (by first | exact opv_move rfl rfl | exact opv_assign rfl rfl | exact opv_not_t rfl rfl ) ?_ )
    | (refine gk 4 rfl ?_; first | refine sl_op rfl rfl rfl (opv_call rfl rfl rfl rfl rfl (works_calls (G := J))) ?_ | (refine sl_callT rfl rfl rfl rfl rfl rfl rfl rfl (kd) ?_; rintro _ _ ⟨hD, bD, cD, rfl, osD, rfl⟩; refine ⟨_, _, rfl, rfl, ?_⟩))
    | refine sl_region rfl ?_
    | refine sl_nil ?_
    | refine thn_k ?_
    | refine swp_false rfl ?_
    | refine swp_block ?_
    | refine swp_skip ?_
    )
  refine swp_loopS (fun t : SBk => [(1, .slice tb tn tc), (2, .slice gb gn gc), (7, .slice bD n cD), (8, str (flatG ((items T G L).take t.j))), (9, i64 (t.j : Int))]) (fun t => [t.h, J])
    (fun t => t.j ≤ n ∧ OS t.h bD n cD 42 2 (flatP (cur T L t.j))) (fun t => n - t.j) ⟨0, hD⟩ (by repeat first | exact Sub.nil _ | refine Sub.cons rfl ?_) ⟨Nat.zero_le _, by simpa [cur] using osD⟩ ?_
  clear osD
  rintro ⟨j, h⟩ ⟨hj, os⟩
  dsimp only at hj os ⊢
  have hcl := cur_length T L j
  have hfl := flatP_length (cur T L j)
  have hil : (items T G L).length = n := by simp [items, newL, hll]
  have htx : (flatG ((items T G L).take j)).length ≤ 1100 := by
    have := flatG_len (l := (items T G L).take j) fun x hx => (items_gap x (List.mem_of_mem_take hx)).2
    rw [List.length_take] at this
    omega
  by_cases hj2 : j < n
  · obtain ⟨p, hp⟩ : ∃ p, L[j]? = some p := ⟨_, List.getElem?_eq_getElem (by omega)⟩
    have hg := cur_get (T := T) hp
    have hc0 : ((j : Nat) : Int).toNat * 2 < (flatP (cur T L j)).length := by rw [hfl, hcl]; simp; omega
    repeat' ((fail_if_success (refine stop_at 8 ?_)); (first
      | refine swp_seq ?_
      | (refine gk 0 rfl ?_; first | refine sl_op rfl rfl rfl (by first | exact opv_move rfl rfl ) ?_ )
      | (refine gk 2 rfl ?_; first | refine sl_yes rfl rfl rfl (by first | exact opv_lss rfl rfl rfl ) (by first | omega ) ?_ )
      | (refine gk 4 rfl ?_; first | refine sl_op rfl rfl rfl (by first | exact opv_len rfl rfl rfl rfl rfl ) ?_)
      | refine sl_region rfl ?_
      | refine sl_nil ?_
      | refine thn_k ?_
      | refine swp_true rfl ?_
      | refine swp_block ?_
      | refine swp_skip ?_
      ))
    refine swp_seq ?_
    refine swp_joinS (S := Heap) (fun _ => [(1, .slice tb tn tc), (2, .slice gb gn gc), (7, .slice bD n cD), (8, str (flatG ((items T G L).take j))), (9, i64 (j : Int))]) (fun h => [h, J]) (fun h => OS h bD n cD 42 2 (flatP (cur T L (j + 1)))) ?_ ?_
    · by_cases h0 : 0 < tn
      · have hml : j % tn < tn := Nat.mod_lt _ h0
        obtain ⟨z, hz⟩ : ∃ z, T[j % tn]? = some z := ⟨_, List.getElem?_eq_getElem (by omega)⟩
        have hzr := wT z (List.mem_of_getElem? hz)
        have hnew : newP T j p = ⟨z, p.kd⟩ := by
          unfold newP
          rw [if_neg (by omega), hT, List.getD_eq_getElem?_getD, hz]; rfl
        have hrm : Value.int .i64 ((j : Int).tmod (tn : Int)) = i64 ((j % tn : Nat) : Int) := congrArg (Value.int .i64) (Int.ofNat_tmod j tn).symm
        have hkT : ((j % tn : Nat) : Int).toNat * 1 < (T.map u16).length := by rw [List.length_map, Int.toNat_natCast]; omega
        have hcT : (T.map u16)[((j % tn : Nat) : Int).toNat * 1]? = some (u16 z) := by rw [List.getElem?_map, show ((j % tn : Nat) : Int).toNat * 1 = j % tn by rw [Int.toNat_natCast, Nat.mul_one], hz]; rfl
        have hcv : Value.int .i64 (IntKind.i64.wrap z) = i64 z := congrArg _ (wrap64_id (by omega) (by omega))
        have hset : (flatP (cur T L j)).set (((j : Nat) : Int).toNat * 2) (i64 z) = flatP (cur T L (j + 1)) := by
          rw [Int.toNat_natCast, flatP_set hg rfl, ← cur_set hp, hnew]
        have hlt : ((j % tn : Nat) : Int) < (tn : Int) := by omega
        haveI slh := os.sl
        generalize j % tn = jm at *
        repeat' (first
          | refine sl_op rfl rfl rfl ((opv_rem rfl rfl rfl (by omega)).to hrm) ?_
          | refine sl_op rfl rfl rfl ((opv_convert rfl rfl).to hcv) ?_
          | (refine sl_storeE (k := ((j : Nat) : Int).toNat * 2) rfl rfl rfl rfl rfl os rfl rfl rfl (Nat.succ_pos _) (by simp only [List.length_cons, List.length_nil]; omega) (set_any hc0 hset) (fun h2 os2 => ?_))
          | refine swp_seq ?_
          | (refine gk 0 rfl ?_; first | refine sl_op rfl rfl rfl (by first | exact opv_move rfl rfl ) ?_ )
          | (refine gk 2 rfl ?_; first | refine sl_yes rfl rfl rfl (by first | exact opv_gtr rfl rfl rfl ) (by first | omega ) ?_ )
          | (refine gk 3 rfl ?_; first | refine sl_op rfl rfl rfl (by first | exact opv_indexAddrI rfl rfl rfl (by omega) (by omega) (by first | omega ) | exact opv_fieldAddrE rfl rfl (by first | assumption ) | exact opv_loadEx rfl (by exact rfl) (by infer_instance) (by first | assumption ) ) ?_ )
          | (refine gk 4 rfl ?_; first | refine sl_op rfl rfl rfl (by first | exact opv_len rfl rfl rfl rfl rfl ) ?_)
          | refine sl_region rfl ?_
          | refine sl_nil ?_
          | refine thn_k ?_
          | refine swp_true rfl ?_
          )
        exact ⟨rfl, h2, next_ok (by repeat first | exact Sub.nil _ | refine Sub.cons rfl ?_), os2⟩
      · have hT0 : T.length = 0 := by omega
        rw [← cur_same hp hT0] at os
        repeat' (first
          | refine swp_seq ?_
          | (refine gk 0 rfl ?_; first | refine sl_op rfl rfl rfl (by first | exact opv_move rfl rfl ) ?_ )
          | (refine gk 2 rfl ?_; first | refine sl_no rfl rfl rfl (by first | exact opv_gtr rfl rfl rfl ) (by first | omega ) ?_ )
          | (refine gk 4 rfl ?_; first | refine sl_op rfl rfl rfl (by first | exact opv_len rfl rfl rfl rfl rfl ) ?_)
          | refine sl_region rfl ?_
          | refine sl_nil ?_
          | refine thn_k ?_
          | refine swp_false rfl ?_
          | refine swp_skip ?_
          )
        exact ⟨rfl, h, next_ok (by repeat first | exact Sub.nil _ | refine Sub.cons rfl ?_), os⟩
    · clear os h
      intro h os
      repeat' ((fail_if_success (refine stop_at 11 ?_)); (first
        | refine swp_seq ?_
        | (refine gk 0 rfl ?_; first | refine sl_op rfl rfl rfl (by first | exact opv_assign rfl rfl ) ?_ )
        | refine sl_region rfl ?_
        | refine sl_nil ?_
        ))
      refine swp_seq ?_
      refine swp_joinS (S := Unit) (fun _ => [(1, .slice tb tn tc), (2, .slice gb gn gc), (7, .slice bD n cD), (8, str (flatG ((items T G L).take j))), (9, i64 (j : Int)), (10, str (gapF G j))]) (fun _ => [h, J]) (fun _ => True) ?_ ?_
      · by_cases h0 : 0 < gn
        · have hml : j % gn < gn := Nat.mod_lt _ h0
          obtain ⟨z, hz⟩ : ∃ z, G[j % gn]? = some z := ⟨_, List.getElem?_eq_getElem (by omega)⟩
          have hzr := wG z (List.mem_of_getElem? hz)
          obtain ⟨u, rfl⟩ : ∃ u : Nat, z = (u : Int) := ⟨z.toNat, by omega⟩
          have hgap : gapF G j = gapT (u % 3) := by
            unfold gapF
            rw [if_neg (by omega), hG, List.getD_eq_getElem?_getD, hz]; rfl
          rw [hgap]
          have hrm : Value.int .i64 ((j : Int).tmod (gn : Int)) = i64 ((j % gn : Nat) : Int) := congrArg (Value.int .i64) (Int.ofNat_tmod j gn).symm
          have hr3 : Value.int .u8 ((u : Int).tmod 3) = .int .u8 ((u % 3 : Nat) : Int) := congrArg (Value.int .u8) (Int.ofNat_tmod u 3).symm
          have hkG : ((j % gn : Nat) : Int).toNat * 1 < (G.map u8v).length := by rw [List.length_map, Int.toNat_natCast]; omega
          have hcG : (G.map u8v)[((j % gn : Nat) : Int).toNat * 1]? = some (u8v (u : Int)) := by rw [List.getElem?_map, show ((j % gn : Nat) : Int).toNat * 1 = j % gn by rw [Int.toNat_natCast, Nat.mul_one], hz]; rfl
          have h3 : u % 3 < 3 := Nat.mod_lt _ (by decide)
          have hca := gap_arr (u % 3) h3
          have hk3 : ((u % 3 : Nat) : Int).toNat * 1 < ([str [32], str [32, 32], str [32, 32, 32, 32, 32]] : List Value).length := by simp; omega
          have hlt : ((j % gn : Nat) : Int) < (gn : Int) := by omega
          generalize j % gn = jm at *
          generalize u % 3 = um at *
          repeat' (first
            | refine sl_op rfl rfl rfl ((opv_rem rfl rfl rfl (by omega)).to hrm) ?_
            | refine sl_op rfl rfl rfl ((opv_rem rfl rfl rfl (by omega)).to hr3) ?_
            | refine swp_seq ?_
            | (refine gk 0 rfl ?_; first | refine sl_op rfl rfl rfl (by first | exact opv_move rfl rfl | exact opv_assign rfl rfl ) ?_ )
            | (refine gk 2 rfl ?_; first | refine sl_yes rfl rfl rfl (by first | exact opv_gtr rfl rfl rfl ) (by first | omega ) ?_ )
            | (refine gk 3 rfl ?_; first | refine sl_op rfl rfl rfl (by first | exact opv_indexAddrI rfl rfl rfl (by omega) (by omega) (by first | omega ) | exact opv_loadEx rfl (by exact rfl) (by infer_instance) (by first | assumption ) ) ?_ )
            | (refine gk 4 rfl ?_; first | refine sl_op rfl rfl rfl (by first | exact opv_len rfl rfl rfl rfl rfl ) ?_)
            | (refine gk 5 rfl ?_; first | refine sl_buildSlice rfl rfl rfl rfl rfl (by exact rfl) (by exact rfl) (by exact rfl) (by exact rfl) rfl (fun b => ?_) )
            | refine sl_region rfl ?_
            | refine sl_nil ?_
            | refine thn_k ?_
            | refine swp_true rfl ?_
            )
          exact ⟨rfl, (), next_ok (by repeat first | exact Sub.nil _ | refine Sub.cons rfl ?_), trivial⟩
        · have hg0 : gapF G j = [32] := by unfold gapF; rw [if_pos (by omega)]
          rw [hg0]
          repeat' (first
            | refine swp_seq ?_
            | (refine gk 0 rfl ?_; first | refine sl_op rfl rfl rfl (by first | exact opv_move rfl rfl ) ?_ )
            | (refine gk 2 rfl ?_; first | refine sl_no rfl rfl rfl (by first | exact opv_gtr rfl rfl rfl ) (by first | omega ) ?_ )
            | (refine gk 4 rfl ?_; first | refine sl_op rfl rfl rfl (by first | exact opv_len rfl rfl rfl rfl rfl ) ?_)
            | refine sl_region rfl ?_
            | refine sl_nil ?_
            | refine thn_k ?_
            | refine swp_false rfl ?_
            | refine swp_skip ?_
            )
          exact ⟨rfl, (), next_ok (by repeat first | exact Sub.nil _ | refine Sub.cons rfl ?_), trivial⟩
      · rintro - -
        have hle := os.hle
        have hpart : ((flatP (cur T L (j + 1))).take ((j + 1) * 2)).drop (j * 2) = flatP [newP T j p] := by
          rw [flatP_part, List.take_add_one, cur_get1 hp, List.drop_append, List.drop_of_length_le (by rw [List.length_take]; omega), List.length_take, cur_length, show j - min j L.length = 0 by omega]; rfl
        have slP : Sl h (sub bD j cD 2) (flatP [newP T j p]) := by
          rw [← hpart]
          have hfl2 := flatP_length (cur T L (j + 1))
          exact (os.sl.take ((j + 1) * 2)).drop j cD 2 (by rw [List.length_take]; omega)
        have hsl : Value.slice (sub bD ((j : Nat) : Int).toNat cD 2) (((j : Int) + 1).toNat - ((j : Nat) : Int).toNat) (cD - ((j : Nat) : Int).toNat) = .slice (sub bD j cD 2) 1 (cD - j) := by
          rw [Int.toNat_natCast, show ((j : Int) + 1).toNat - j = 1 by omega]
        have hgl := (gapF_blk G j).2
        have hwl := wordP_len (newP T j p)
        have hnext : flatG ((items T G L).take (j + 1)) = flatG ((items T G L).take j) ++ gapF G j ++ wordP (newP T j p) := by
          rw [List.take_add_one, items_get hp, Option.toList_some, flatG_snoc, List.append_assoc]
        generalize gapF G j = gj at *
        generalize flatG ((items T G L).take j) = tx at *
        generalize hpw : newP T j p = q at *
        repeat' (first
          | refine sl_op rfl rfl rfl ((opv_sliceLH rfl rfl rfl rfl (by omega) (by omega) (by omega)).to hsl) ?_
          | refine sl_op rfl rfl rfl (opv_addS rfl rfl rfl (by first | omega | (simp only [List.length_append]; omega))) ?_
          | (refine gk 0 rfl ?_; first | refine sl_op rfl rfl rfl (by first | exact opv_move rfl rfl | exact opv_assign rfl rfl ) ?_ )
          | (refine gk 1 rfl ?_; first | refine sl_op rfl rfl rfl (by first | exact opv_add64 rfl rfl rfl (by omega) (by omega) ) ?_ )
          | (refine gk 4 rfl ?_; first | refine sl_op rfl rfl rfl (opv_callW rfl rfl rfl rfl rfl (print_at J (by simp) (sub bD j cD 2) 1 (cD - j) [q] _ ⟨h, by simp, slP⟩ rfl (by decide) (printF_one q))) ?_)
          | refine sl_region rfl ?_
          | refine sl_nil ?_
          | refine thn_k ?_
          )
        exact ⟨rfl, ⟨j + 1, h⟩, by dsimp only; rw [hnext]; exact next_ok (by repeat first | exact Sub.nil _ | refine Sub.cons rfl ?_), ⟨hj2, os⟩, by dsimp only; omega⟩
  · obtain rfl : j = n := by omega
    have hcur : cur T L j = newL T L := by unfold cur; rw [List.take_of_length_le (by rw [newL_length]; omega), List.drop_eq_nil_of_le (by omega), List.append_nil]
    rw [hcur] at os
    have hnl := newL_length T L
    have hit : (items T G L).take j = items T G L := List.take_of_length_le (by omega)
    rw [hit] at htx
    rw [hit]
    have hpt := parse_text (G := G) wT hgood
    have hpp := parse_print (newL_good wT hgood)
    obtain ⟨M, hM⟩ : ∃ M, M = newL T L := ⟨_, rfl⟩
    rw [← hM] at hpt hpp os hnl
    have hMl : M.length = j := by omega
    have hprl := printF_len M
    have k1 := Parse_calls (flatG (items T G L) ++ [32, 32]) (by rw [List.length_append]; simp; omega)
    have k2 := Parse_calls (printF M) (by omega)
    rw [hpt] at k1
    rw [hpp] at k2
    unfold PQ at k1 k2
    dsimp only at k1 k2
    rw [hMl] at k1 k2
    generalize flatG (items T G L) = tx at *
    repeat' (first
      | refine sl_op rfl rfl rfl (opv_ifNil rfl rfl) ?_
      | refine sl_op rfl rfl rfl (opv_addS rfl rfl rfl (by simp only [List.length_cons, List.length_nil]; omega)) ?_
      | refine swp_seq ?_
      | (refine gk 0 rfl ?_; first | refine sl_op rfl rfl rfl (by first | exact opv_move rfl rfl | exact opv_assign rfl rfl | exact opv_pick_t rfl rfl rfl | exact opv_extract rfl rfl rfl ) ?_ )
      | (refine gk 2 rfl ?_; first | refine sl_no rfl rfl rfl (by first | exact opv_lss rfl rfl rfl ) (by first | omega ) ?_ )
      | (refine gk 4 rfl ?_; first | refine sl_op rfl rfl rfl (by first | exact opv_len rfl rfl rfl rfl rfl ) ?_ | refine sl_op rfl rfl rfl (opv_callW rfl rfl rfl rfl rfl (print_at J (by simp) bD j cD M _ ⟨h, by simp, os.sl⟩ hMl (by omega) rfl)) ?_ | (refine sl_callT rfl rfl rfl rfl rfl rfl rfl rfl (k1) ?_; rintro _ _ ⟨h1, b1, c1, rfl, os1, rfl⟩; refine ⟨_, _, rfl, rfl, ?_⟩) | (refine sl_callT rfl rfl rfl rfl rfl rfl rfl rfl (k2) ?_; rintro _ _ ⟨h2, b2, c2, rfl, os2, rfl⟩; refine ⟨_, _, rfl, rfl, ?_⟩) | refine sl_op rfl rfl rfl (opv_callW rfl rfl rfl rfl rfl (picks_W b1 bD j c1 cD M ⟨_, by simp, os1.sl⟩ ⟨h, by simp, os.sl⟩ hMl (by omega))) ?_ | refine sl_op rfl rfl rfl (opv_callW rfl rfl rfl rfl rfl (picks_W b2 bD j c2 cD M ⟨_, by simp, os2.sl⟩ ⟨h, by simp, os.sl⟩ hMl (by omega))) ?_)
      | refine sl_region rfl ?_
      | refine sl_nil ?_
      | refine thn_k ?_
      | refine swp_false rfl ?_
      | refine swp_ret ?_
      | refine swp_exit ?_
      )
    refine end_pure (resOk_one (resV_tmp rfl)) ?_
    rfl
end Go.Proofs.YtobcmglbdmaceaaGreatDoor
