/- The law ScriptFills, walked. -/
import Derived.Test.YtobcmglbdmaceaaGreatDoorWC3
import Derived.Test.YtobcmglbdmaceaaGreatDoorWC8
set_option linter.unusedVariables false
set_option linter.unusedSimpArgs false
set_option linter.unusedSectionVars false
namespace Go.Proofs.YtobcmglbdmaceaaGreatDoor
open Go.SL
set_option maxRecDepth 100000
set_option maxHeartbeats 16000000
theorem fl_ne {t e : Nat} (ht : 0 < t) : ∀ (l : List Pk) (i : Nat), fl t e i l ≠ []
  | [], i, h => by
    have := congrArg List.length h
    rw [fl, rnd_length] at this
    simp at this; omega
  | p :: l, i, h => by rw [fl] at h; cases h
/-- What is to come, with so many put, and so many since the last round. -/
inductive St (t e : Nat) (l : List Pk) : Nat → Nat → List Pk → Prop
  | over : St t e l l.length 0 []
  | some (a : Nat) (h : a ≤ l.length) (hn : a % e < e) : St t e l a (a % e) (fl t e a (l.drop a))
  | due (a : Nat) (h : a ≤ l.length) (hn : a % e = 0) : St t e l a e (rnd t ++ fl t e a (l.drop a))
attribute [local irreducible] SL.T PFn OpV SOL SWP HOp ChU printF parseF fairF fillF decP wordP
-- ALIAS Tryz
structure SFl where
  i : Nat
  a : Nat
  n : Nat
theorem ScriptFills_calls (J : Heap) [sg : Ges J] [pw : Pow J] (s : List UInt8) (x y : Int) (hx : 0 ≤ x ∧ x ≤ 255) (hy : 0 ≤ y ∧ y ≤ 255) (hs : s.length ≤ 9223372036854775807) :
    PFn Tryz.prog 4 [str s, .int .u8 x, .int .u8 y] [J] (.bool true) := by
  obtain ⟨m, hm, hm2⟩ : ∃ k : Nat, min (s.length : Int) 100 = (k : Int) ∧ k = min s.length 100 := ⟨min s.length 100, by omega, rfl⟩
  obtain ⟨s1, hs1⟩ : ∃ z, z = s.take (m : Int).toNat := ⟨_, rfl⟩
  have hs1l : s1.length ≤ 100 := by rw [hs1, List.length_take]; omega
  have kd := Decode_calls s1 (by omega)
  obtain ⟨l, hl⟩ : ∃ l, l = decP s1 := ⟨_, rfl⟩
  have hll : l.length = s1.length := by rw [hl]; exact decP_length s1
  rw [← hl] at kd
  obtain ⟨n, hn⟩ : ∃ n, n = s1.length := ⟨_, rfl⟩
  rw [← hn] at kd hll
  obtain ⟨r0, hr0, hr0l⟩ := tmod_nat (m := 9) hx.1 (by decide)
  obtain ⟨r1, hr1, hr1l⟩ := tmod_nat (m := 12) hy.1 (by decide)
  have w0 : IntKind.i64.wrap (r0 : Int) = (r0 : Int) := wrap64_id (by omega) (by omega)
  have w1 : IntKind.i64.wrap (r1 : Int) = (r1 : Int) := wrap64_id (by omega) (by omega)
  obtain ⟨t, ht⟩ : ∃ t : Nat, t = 1 + r0 := ⟨_, rfl⟩
  obtain ⟨e, he⟩ : ∃ e : Nat, e = 1 + r1 := ⟨_, rfl⟩
  obtain ⟨k, hk⟩ : ∃ k : Nat, k = t + e := ⟨_, rfl⟩
  have i0 : (1 : Int) + (r0 : Int) = (t : Int) := by omega
  have i1 : (t : Int) + 1 + (r1 : Int) = (k : Int) := by omega
  have i2 : (k : Int) - (t : Int) = (e : Int) := by omega
  have hfill : fillF l (t : Int) (k : Int) = fl t e 0 l := by
    unfold fillF
    rw [if_neg (by omega), Int.toNat_natCast, i2, Int.toNat_natCast]
  obtain ⟨Fq, hF⟩ : ∃ Fq, Fq = fl t e 0 l := ⟨_, rfl⟩
  rw [← hF] at hfill
  obtain ⟨q, hq⟩ : ∃ q, q = n / e := ⟨_, rfl⟩
  obtain ⟨w, hw⟩ : ∃ w, w = t * (1 + q) := ⟨_, rfl⟩
  have hFl : Fq.length = n + w := by
    rw [hF, fl_length t e (by omega) l 0, hll, hw, hq]; simp
  have hq100 : q ≤ 100 := by rw [hq]; exact Nat.le_trans (Nat.div_le_self _ _) (by omega)
  have hw1 : w ≤ 9 * 101 := by rw [hw]; exact Nat.mul_le_mul (by omega) (by omega)
  have hquo : Value.int .i64 (IntKind.i64.wrap ((n : Int).tdiv (e : Int))) = i64 (q : Int) := congrArg (Value.int .i64) (by rw [show (n : Int).tdiv (e : Int) = ((n / e : Nat) : Int) from (Int.ofNat_tdiv n e).symm, ← hq, wrap64_id (by omega) (by omega)])
  have hmul : Value.int .i64 (IntKind.i64.wrap ((t : Int) * ((1 : Int) + (q : Int)))) = i64 (w : Int) := congrArg (Value.int .i64) (by
    have : (t : Int) * ((1 : Int) + (q : Int)) = (w : Int) := by rw [hw]; push_cast; rfl
    rw [this, wrap64_id (by omega) (by omega)])
  have hrem : Value.int .i64 ((n : Int).tmod (e : Int)) = i64 ((n % e : Nat) : Int) := congrArg (Value.int .i64) (Int.ofNat_tmod n e).symm
  have hfair : fairF Fq (t : Int) (k : Int) = true := by
    rw [fair_true (by omega) (by omega)]
    refine .inr ⟨by omega, fun u hu => (okR_win (by omega) _).1 ?_⟩
    rw [hF, hk]
    exact fl_ok hu (by omega) l 0 1 (by rw [Nat.zero_mod]; omega)
  refine pure_of_body Tryz.func4 rfl (Nat.le_of_ble_eq_true rfl) fun F => ?_
  repeat' ((fail_if_success (refine stop_at 9 ?_)); (first
    | refine sl_op rfl rfl rfl (opv_lenS rfl rfl rfl rfl rfl) ?_
    | refine sl_op rfl rfl rfl ((opv_min rfl rfl rfl rfl rfl).to (congrArg (Value.int .i64) hm)) ?_
    | refine sl_op rfl rfl rfl ((opv_sliceSHi rfl rfl rfl (by omega) (by omega)).to (congrArg str hs1.symm)) ?_
    | refine sl_op rfl rfl rfl ((opv_rem rfl rfl rfl (by omega)).to (congrArg (Value.int .u8) hr0)) ?_
    | refine sl_op rfl rfl rfl ((opv_rem rfl rfl rfl (by omega)).to (congrArg (Value.int .u8) hr1)) ?_
    | refine sl_op rfl rfl rfl ((opv_convert rfl rfl).to (congrArg (Value.int .i64) w0)) ?_
    | refine sl_op rfl rfl rfl ((opv_convert rfl rfl).to (congrArg (Value.int .i64) w1)) ?_
    | refine sl_op rfl rfl rfl ((opv_add64 rfl rfl rfl (by omega) (by omega)).to (congrArg (Value.int .i64) i0)) ?_
    | refine sl_op rfl rfl rfl ((opv_add64 rfl rfl rfl (by omega) (by omega)).to (congrArg (Value.int .i64) i1)) ?_
    | refine sl_op rfl rfl rfl ((opv_sub64 rfl rfl rfl (by omega) (by omega)).to (congrArg (Value.int .i64) i2)) ?_
    | refine sl_op rfl rfl rfl ((opv_quo rfl rfl rfl (by omega)).to hquo) ?_
    | refine sl_op rfl rfl rfl ((opv_mul rfl rfl rfl).to hmul) ?_
    | refine swp_seq ?_
    | (refine gk 0 rfl ?_; first | refine sl_op rfl rfl rfl (by first | exact opv_move rfl rfl | exact opv_assign rfl rfl | exact opv_pick_f rfl rfl rfl | exact opv_not_t rfl rfl ) ?_ )
    | (refine gk 1 rfl ?_; first | refine sl_op rfl rfl rfl (by first | exact opv_add64 rfl rfl rfl (by omega) (by omega) ) ?_ )
    | (refine gk 2 rfl ?_; first | refine sl_no rfl rfl rfl (by first | exact opv_neq rfl rfl rfl) (by first | omega ) ?_ )
    | (refine gk 4 rfl ?_; first | refine sl_op rfl rfl rfl (by first | exact opv_len rfl rfl rfl rfl rfl ) ?_ | refine sl_op rfl rfl rfl (opv_call rfl rfl rfl rfl rfl (works_calls (G := J))) ?_ | (refine sl_callT rfl rfl rfl rfl rfl rfl rfl rfl (kd) ?_; rintro _ _ ⟨hD, bD, cD, rfl, osD, rfl⟩; (have kf := fill_at hD bD n cD l Fq (t : Int) (k : Int) osD.sl hll (by omega) (by omega) (by omega) hfill (by omega)); refine ⟨_, _, rfl, rfl, ?_⟩) | (refine sl_callT rfl rfl rfl rfl rfl rfl rfl rfl (kf) ?_; rintro _ _ ⟨hE, bE, cE, rfl, osE, rfl⟩; (have kg := fair_at hE bE Fq.length cE Fq (t : Int) (k : Int) true osE.sl rfl (by omega) hfair); refine ⟨_, _, rfl, rfl, ?_⟩) | refine sl_op rfl rfl rfl (opv_call rfl rfl rfl rfl rfl (kg)) ?_)
    | refine sl_region rfl ?_
    | refine sl_nil ?_
    | refine thn_k ?_
    | refine swp_false rfl ?_
    | refine swp_block ?_
    | refine swp_skip ?_
    ))
  refine swp_loopS (fun z : SFl => [(7, .slice bD n cD), (8, i64 (t : Int)), (9, i64 (k : Int)), (10, .slice bE Fq.length cE), (11, i64 (z.a : Int)), (12, i64 (z.n : Int)), (13, i64 (z.i : Int))]) (fun _ => [hE, hD, J])
    (fun z => ∃ pre rem, Fq = pre ++ rem ∧ pre.length = z.i ∧ St t e l z.a z.n rem) (fun z => Fq.length - z.i) ⟨0, 0, 0⟩ (by repeat first | exact Sub.nil _ | refine Sub.cons rfl ?_) ⟨[], Fq, rfl, rfl, ?_⟩ ?_
  · have := St.some (t := t) (e := e) (l := l) 0 (Nat.zero_le _) (by rw [Nat.zero_mod]; omega)
    rw [Nat.zero_mod, List.drop_zero, ← hF] at this
    exact this
  rintro ⟨i, a, c⟩ ⟨pre, rem, hpr, hpi, hst⟩
  dsimp only at hpi hst ⊢
  haveI slE := osE.sl
  haveI slD := osD.sl
  have hfE := flatP_length Fq
  have hfD := flatP_length l
  have hlen : Fq.length = i + rem.length := by rw [hpr, List.length_append, hpi]
  have hget : ∀ j p, rem[j]? = some p → Fq[i + j]? = some p := fun j p hp => by
    rw [hpr, List.getElem?_append_right (by omega), hpi, show i + j - i = j by omega]; exact hp
  have he0 : 0 < e := by omega
  have ht0 : 0 < t := by omega
  clear hfair hF hmul hquo hw hq hx hy hr0 hr1 w0 w1 hfill
  rcases hst with _ | ⟨_, ha, hn⟩ | ⟨_, ha, hn⟩
  · have hend : ¬ i < Fq.length := by rw [hlen]; simp
    rw [hll]
    repeat' (first
      | refine swp_seq ?_
      | (refine gk 0 rfl ?_; first | refine sl_op rfl rfl rfl (by first | exact opv_move rfl rfl | exact opv_assign rfl rfl ) ?_ )
      | (refine gk 2 rfl ?_; first | refine sl_yes rfl rfl rfl (by first | exact opv_lss rfl rfl rfl | exact opv_eql rfl rfl rfl ) (by first | omega ) ?_ | refine sl_no rfl rfl rfl (by first | exact opv_lss rfl rfl rfl ) (by first | omega ) ?_ )
      | (refine gk 4 rfl ?_; first | refine sl_op rfl rfl rfl (by first | exact opv_len rfl rfl rfl rfl rfl ) ?_)
      | refine sl_region rfl ?_
      | refine sl_nil ?_
      | refine thn_k ?_
      | refine swp_false rfl ?_
      | refine swp_ret ?_
      | refine swp_exit ?_
      )
    refine end_pure (resOk_one (resV_tmp rfl)) ?_
    rfl
  · have hane : fl t e a (l.drop a) ≠ [] := fl_ne ht0 _ _
    have hrl : 0 < (fl t e a (l.drop a)).length := List.length_pos_iff.2 hane
    by_cases han0 : a < n
    · obtain ⟨p, hp⟩ : ∃ p, l[a]? = some p := ⟨_, List.getElem?_eq_getElem (by omega)⟩
      have hdr : l.drop a = p :: l.drop (a + 1) := by
        rw [List.drop_eq_getElem_cons (by omega), (List.getElem?_eq_some_iff.1 hp).2]
      rw [hdr, fl] at hpr hlen hget hrl
      have hsm := succ_mod (i := a) he0
      obtain ⟨X, hX, hX2⟩ : ∃ X, X = (if (a + 1) % e = 0 then rnd t ++ fl t e (a + 1) (l.drop (a + 1)) else fl t e (a + 1) (l.drop (a + 1))) ∧ St t e l (a + 1) (a % e + 1) X := by
        refine ⟨_, rfl, ?_⟩
        by_cases h0 : (a + 1) % e = 0
        · rw [if_pos h0]
          have : a % e + 1 = e := by
            by_cases h1 : a % e + 1 = e
            · exact h1
            · rw [if_neg h1] at hsm; omega
          rw [this]
          exact St.due (a + 1) (by omega) h0
        · rw [if_neg h0]
          have : (a + 1) % e = a % e + 1 := by
            by_cases h1 : a % e + 1 = e
            · rw [if_pos h1] at hsm; omega
            · rw [if_neg h1] at hsm; exact hsm
          have h2 := St.some (t := t) (e := e) (l := l) (a + 1) (by omega) (Nat.mod_lt _ he0)
          rw [this] at h2
          exact h2
      rw [← hX] at hpr hlen hget
      have hF0 := hget 0 p rfl
      rw [Nat.add_zero] at hF0
      obtain ⟨c1, c2⟩ := flatP_at hF0
      obtain ⟨c3, c4⟩ := flatP_at hp
      rw [List.length_cons] at hlen
      have hc0 : ((i : Nat) : Int).toNat * 2 < (flatP Fq).length := by omega
      have hc1 : (flatP Fq)[((i : Nat) : Int).toNat * 2]? = some (i64 p.th) := by simpa using c1
      have hc2 : (flatP Fq)[((i : Nat) : Int).toNat * 2 + 1]? = some (i64 p.kd) := by simpa using c2
      have hc5 : ((a : Nat) : Int).toNat * 2 < (flatP l).length := by omega
      have hc3 : (flatP l)[((a : Nat) : Int).toNat * 2]? = some (i64 p.th) := by simpa using c3
      have hc4 : (flatP l)[((a : Nat) : Int).toNat * 2 + 1]? = some (i64 p.kd) := by simpa using c4
      have hnx : ∃ pre' rem', Fq = pre' ++ rem' ∧ pre'.length = i + 1 ∧ St t e l (a + 1) (a % e + 1) rem' := ⟨pre ++ [p], X, by rw [hpr]; simp, by simp [hpi], hX2⟩
      generalize a % e = c at *
      repeat' (first
        | refine sl_op rfl rfl rfl ((opv_sub64 rfl rfl rfl (by omega) (by omega)).to (congrArg (Value.int .i64) i2)) ?_
        | refine sl_ff rfl rfl rfl (opv_neqS rfl rfl rfl rfl) (by simp) ?_
        | refine swp_seq ?_
        | (refine gk 0 rfl ?_; first | refine sl_op rfl rfl rfl (by first | exact opv_move rfl rfl | exact opv_assign rfl rfl | exact opv_pick_f rfl rfl rfl ) ?_ )
        | (refine gk 1 rfl ?_; first | refine sl_op rfl rfl rfl (by first | exact opv_add64 rfl rfl rfl (by omega) (by omega) ) ?_ )
        | (refine gk 2 rfl ?_; first | refine sl_yes rfl rfl rfl (by first | exact opv_lss rfl rfl rfl | exact opv_eql rfl rfl rfl ) (by first | omega ) ?_ | refine sl_no rfl rfl rfl (by first | exact opv_eql rfl rfl rfl ) (by first | omega ) ?_ )
        | (refine gk 3 rfl ?_; first | refine sl_op rfl rfl rfl (by first | exact opv_indexAddrI rfl rfl rfl (by omega) (by omega) (by first | omega ) | exact opv_load2 rfl (by exact rfl) (by infer_instance) (by assumption) (by assumption) ) ?_ )
        | (refine gk 4 rfl ?_; first | refine sl_op rfl rfl rfl (by first | exact opv_len rfl rfl rfl rfl rfl ) ?_)
        | refine sl_region rfl ?_
        | refine sl_draw (by kernel_rfl) (by kernel_rfl) rfl ?_
        | refine sl_nil ?_
        | refine thn_k ?_
        | refine swp_true rfl ?_
        | refine swp_false rfl ?_
        | refine swp_block ?_
        | refine swp_skip ?_
        | refine inb_k ?_
        )
      exact ⟨rfl, ⟨i + 1, a + 1, c + 1⟩, next_ok (by repeat first | exact Sub.nil _ | refine Sub.cons rfl ?_), hnx, by dsimp only; omega⟩
    · obtain ⟨rest, hrem2, hst2, hfin⟩ : ∃ rest, fl t e a (l.drop a) = rnd t ++ rest ∧ St t e l a 0 rest ∧ (a = n → rest = [] ∨ (n % e = 0 ∧ rest.length = t)) := by
        refine ⟨[], ?_, ?_, fun _ => .inl rfl⟩
        · rw [List.drop_eq_nil_of_le (by omega), fl, List.append_nil]
        · have : a = l.length := by omega
          rw [this]; exact St.over
      generalize fl t e a (l.drop a) = rem at *
      have hae : a = n := by omega
      generalize a % e = c at *
      repeat' (first
        | refine sl_op rfl rfl rfl ((opv_sub64 rfl rfl rfl (by omega) (by omega)).to (congrArg (Value.int .i64) i2)) ?_
        | refine swp_seq ?_
        | (refine gk 0 rfl ?_; first | refine sl_op rfl rfl rfl (by first | exact opv_move rfl rfl | exact opv_assign rfl rfl | exact opv_pick_f rfl rfl rfl ) ?_ )
        | (refine gk 2 rfl ?_; first | refine sl_yes rfl rfl rfl (by first | exact opv_lss rfl rfl rfl | exact opv_eql rfl rfl rfl ) (by first | omega ) ?_ | refine sl_no rfl rfl rfl (by first | exact opv_eql rfl rfl rfl ) (by first | omega ) ?_ )
        | (refine gk 4 rfl ?_; first | refine sl_op rfl rfl rfl (by first | exact opv_len rfl rfl rfl rfl rfl ) ?_)
        | refine sl_region rfl ?_
        | refine sl_nil ?_
        | refine thn_k ?_
        | refine swp_true rfl ?_
        | refine swp_block ?_
        | refine swp_skip ?_
        )
      refine swp_loopS (fun u : Nat => [(7, .slice bD n cD), (8, i64 (t : Int)), (9, i64 (k : Int)), (10, .slice bE Fq.length cE), (11, i64 (a : Int)), (13, i64 (i : Int)), (14, i64 (u : Int))]) (fun _ => [hE, hD, J]) (fun u => u ≤ t) (fun u => t - u) 0 (by repeat first | exact Sub.nil _ | refine Sub.cons rfl ?_) (Nat.zero_le _) ?_
      intro u hu
      by_cases hu2 : u < t
      · have hru : rem[u]? = some ⟨(u : Int), 0⟩ := by rw [hrem2, List.getElem?_append_left (by rw [rnd_length]; exact hu2)]; exact rnd_get hu2
        have hFu := hget u _ hru
        have hul := (List.getElem?_eq_some_iff.1 hFu).1
        obtain ⟨c1, c2⟩ := flatP_at hFu
        have hc0 : ((i : Int) + (u : Int)).toNat * 2 < (flatP Fq).length := by omega
        have hc1 : (flatP Fq)[((i : Int) + (u : Int)).toNat * 2]? = some (i64 (u : Int)) := by rw [show ((i : Int) + (u : Int)).toNat = i + u by omega]; exact c1
        have hc2 : (flatP Fq)[((i : Int) + (u : Int)).toNat * 2 + 1]? = some (i64 0) := by rw [show ((i : Int) + (u : Int)).toNat = i + u by omega]; exact c2
        repeat' (first
          | refine sl_ff rfl rfl rfl (opv_neqS rfl rfl rfl rfl) (by simp) ?_
          | refine swp_seq ?_
          | (refine gk 0 rfl ?_; first | refine sl_op rfl rfl rfl (by first | exact opv_move rfl rfl | exact opv_assign rfl rfl | exact opv_pick_f rfl rfl rfl ) ?_ )
          | (refine gk 1 rfl ?_; first | refine sl_op rfl rfl rfl (by first | exact opv_add64 rfl rfl rfl (by omega) (by omega) ) ?_ )
          | (refine gk 2 rfl ?_; first | refine sl_yes rfl rfl rfl (by first | exact opv_lss rfl rfl rfl | exact opv_geq rfl rfl rfl ) (by first | omega ) ?_ | refine sl_no rfl rfl rfl (by first | exact opv_geq rfl rfl rfl ) (by first | omega ) ?_ )
          | (refine gk 3 rfl ?_; first | refine sl_op rfl rfl rfl (by first | exact opv_indexAddrI rfl rfl rfl (by omega) (by omega) (by first | omega ) | exact opv_load2 rfl (by exact rfl) (by infer_instance) (by assumption) (by assumption) ) ?_ )
          | (refine gk 4 rfl ?_; first | refine sl_op rfl rfl rfl (by first | exact opv_len rfl rfl rfl rfl rfl ) ?_)
          | (refine gk 5 rfl ?_; first | refine sl_op rfl rfl rfl (by first | exact opv_build rfl rfl (by exact rfl) ) ?_ )
          | refine sl_region rfl ?_
          | refine sl_nil ?_
          | refine thn_k ?_
          | refine swp_true rfl ?_
          | refine swp_false rfl ?_
          | refine swp_block ?_
          | refine swp_skip ?_
          )
        exact ⟨rfl, u + 1, next_ok (by repeat first | exact Sub.nil _ | refine Sub.cons rfl ?_), hu2, by omega⟩
      · obtain rfl : u = t := by omega
        have hl2 : rem.length = u + rest.length := by rw [hrem2, List.length_append, rnd_length]
        have hnx : ∃ pre' rem', Fq = pre' ++ rem' ∧ pre'.length = i + u ∧ St u e l a 0 rem' := ⟨pre ++ rnd u, rest, by rw [hpr, hrem2, List.append_assoc], by rw [List.length_append, rnd_length, hpi], hst2⟩
        by_cases han : a = n
        · rcases hfin han with h0 | ⟨h0, h1⟩
          · rw [h0, List.length_nil] at hl2
            repeat' (first
              | refine swp_seq ?_
              | (refine gk 0 rfl ?_; first | refine sl_op rfl rfl rfl (by first | exact opv_move rfl rfl | exact opv_assign rfl rfl | exact opv_pick_t rfl rfl rfl | exact opv_pick_f rfl rfl rfl ) ?_ | refine sl_pass rfl rfl rfl rfl ?_)
              | (refine gk 1 rfl ?_; first | refine sl_op rfl rfl rfl (by first | exact opv_add64 rfl rfl rfl (by omega) (by omega) ) ?_ | refine sl_pass rfl rfl rfl rfl ?_)
              | (refine gk 2 rfl ?_; first | refine sl_pass rfl rfl rfl rfl ?_ | refine sl_yes rfl rfl rfl (by first | exact opv_lss rfl rfl rfl | exact opv_eql rfl rfl rfl ) (by first | omega ) ?_ | refine sl_no rfl rfl rfl (by first | exact opv_lss rfl rfl rfl ) (by first | omega ) ?_ )
              | (refine gk 4 rfl ?_; first | refine sl_pass rfl rfl rfl rfl ?_ | refine sl_op rfl rfl rfl (by first | exact opv_len rfl rfl rfl rfl rfl ) ?_)
              | refine sl_region rfl ?_
              | refine sl_nil ?_
              | refine thn_k ?_
              | refine swp_false rfl ?_
              | refine swp_exit ?_
              | refine swp_skip ?_
              | refine thn_exit ?_
              | refine inb_exit ?_
              )
            exact ⟨rfl, ⟨i + u, a, 0⟩, next_ok (by repeat first | exact Sub.nil _ | refine Sub.cons rfl ?_), hnx, by dsimp only; omega⟩
          · rw [h0] at hrem
            repeat' (first
              | refine sl_op rfl rfl rfl ((opv_sub64 rfl rfl rfl (by omega) (by omega)).to (congrArg (Value.int .i64) i2)) ?_
              | refine sl_op rfl rfl rfl ((opv_rem rfl rfl rfl (by omega)).to hrem) ?_
              | refine swp_seq ?_
              | (refine gk 0 rfl ?_; first | refine sl_op rfl rfl rfl (by first | exact opv_move rfl rfl | exact opv_assign rfl rfl | exact opv_pick_t rfl rfl rfl | exact opv_pick_f rfl rfl rfl ) ?_ )
              | (refine gk 1 rfl ?_; first | refine sl_op rfl rfl rfl (by first | exact opv_add64 rfl rfl rfl (by omega) (by omega) | exact opv_sub64 rfl rfl rfl (by omega) (by omega) ) ?_ )
              | (refine gk 2 rfl ?_; first | refine sl_yes rfl rfl rfl (by first | exact opv_lss rfl rfl rfl | exact opv_eql rfl rfl rfl | exact opv_neq rfl rfl rfl) (by first | omega ) ?_ | refine sl_no rfl rfl rfl (by first | exact opv_lss rfl rfl rfl | exact opv_neq rfl rfl rfl) (by first | omega ) ?_ )
              | (refine gk 4 rfl ?_; first | refine sl_op rfl rfl rfl (by first | exact opv_len rfl rfl rfl rfl rfl ) ?_)
              | refine sl_region rfl ?_
              | refine sl_nil ?_
              | refine thn_k ?_
              | refine swp_false rfl ?_
              | refine swp_exit ?_
              | refine swp_skip ?_
              | refine thn_exit ?_
              | refine inb_exit ?_
              )
            exact ⟨rfl, ⟨i + u, a, 0⟩, next_ok (by repeat first | exact Sub.nil _ | refine Sub.cons rfl ?_), hnx, by dsimp only; omega⟩
        · exact absurd hae han
  · obtain ⟨rest, hrem2, hst2, hfin⟩ : ∃ rest, rnd t ++ fl t e a (l.drop a) = rnd t ++ rest ∧ St t e l a 0 rest ∧ (a = n → rest = [] ∨ (n % e = 0 ∧ rest.length = t)) := by
      refine ⟨_, rfl, ?_, fun han => .inr ⟨by rw [← han]; exact hn, ?_⟩⟩
      · have := St.some (t := t) (e := e) (l := l) a ha (Nat.mod_lt _ he0)
        rwa [hn] at this
      · rw [List.drop_eq_nil_of_le (by omega), fl, rnd_length]
    generalize rnd t ++ fl t e a (l.drop a) = rem at *
    have hrl : 0 < rem.length := by rw [hrem2, List.length_append, rnd_length]; omega
    repeat' (first
      | refine sl_op rfl rfl rfl ((opv_sub64 rfl rfl rfl (by omega) (by omega)).to (congrArg (Value.int .i64) i2)) ?_
      | refine swp_seq ?_
      | (refine gk 0 rfl ?_; first | refine sl_op rfl rfl rfl (by first | exact opv_move rfl rfl | exact opv_assign rfl rfl | exact opv_pick_t rfl rfl rfl ) ?_ | refine sl_pass rfl rfl rfl rfl ?_)
      | (refine gk 2 rfl ?_; first | refine sl_pass rfl rfl rfl rfl ?_ | refine sl_yes rfl rfl rfl (by first | exact opv_lss rfl rfl rfl | exact opv_eql rfl rfl rfl ) (by first | omega ) ?_ )
      | (refine gk 4 rfl ?_; first | refine sl_pass rfl rfl rfl rfl ?_ | refine sl_op rfl rfl rfl (by first | exact opv_len rfl rfl rfl rfl rfl ) ?_)
      | refine sl_region rfl ?_
      | refine sl_nil ?_
      | refine thn_k ?_
      | refine swp_true rfl ?_
      | refine swp_block ?_
      | refine swp_skip ?_
      )
    refine swp_loopS (fun u : Nat => [(7, .slice bD n cD), (8, i64 (t : Int)), (9, i64 (k : Int)), (10, .slice bE Fq.length cE), (11, i64 (a : Int)), (13, i64 (i : Int)), (14, i64 (u : Int))]) (fun _ => [hE, hD, J]) (fun u => u ≤ t) (fun u => t - u) 0 (by repeat first | exact Sub.nil _ | refine Sub.cons rfl ?_) (Nat.zero_le _) ?_
    intro u hu
    by_cases hu2 : u < t
    · have hru : rem[u]? = some ⟨(u : Int), 0⟩ := by rw [hrem2, List.getElem?_append_left (by rw [rnd_length]; exact hu2)]; exact rnd_get hu2
      have hFu := hget u _ hru
      have hul := (List.getElem?_eq_some_iff.1 hFu).1
      obtain ⟨c1, c2⟩ := flatP_at hFu
      have hc0 : ((i : Int) + (u : Int)).toNat * 2 < (flatP Fq).length := by omega
      have hc1 : (flatP Fq)[((i : Int) + (u : Int)).toNat * 2]? = some (i64 (u : Int)) := by rw [show ((i : Int) + (u : Int)).toNat = i + u by omega]; exact c1
      have hc2 : (flatP Fq)[((i : Int) + (u : Int)).toNat * 2 + 1]? = some (i64 0) := by rw [show ((i : Int) + (u : Int)).toNat = i + u by omega]; exact c2
      repeat' (first
        | refine sl_ff rfl rfl rfl (opv_neqS rfl rfl rfl rfl) (by simp) ?_
        | refine swp_seq ?_
        | (refine gk 0 rfl ?_; first | refine sl_op rfl rfl rfl (by first | exact opv_move rfl rfl | exact opv_assign rfl rfl | exact opv_pick_f rfl rfl rfl ) ?_ )
        | (refine gk 1 rfl ?_; first | refine sl_op rfl rfl rfl (by first | exact opv_add64 rfl rfl rfl (by omega) (by omega) ) ?_ )
        | (refine gk 2 rfl ?_; first | refine sl_yes rfl rfl rfl (by first | exact opv_lss rfl rfl rfl | exact opv_geq rfl rfl rfl ) (by first | omega ) ?_ | refine sl_no rfl rfl rfl (by first | exact opv_geq rfl rfl rfl ) (by first | omega ) ?_ )
        | (refine gk 3 rfl ?_; first | refine sl_op rfl rfl rfl (by first | exact opv_indexAddrI rfl rfl rfl (by omega) (by omega) (by first | omega ) | exact opv_load2 rfl (by exact rfl) (by infer_instance) (by assumption) (by assumption) ) ?_ )
        | (refine gk 4 rfl ?_; first | refine sl_op rfl rfl rfl (by first | exact opv_len rfl rfl rfl rfl rfl ) ?_)
        | (refine gk 5 rfl ?_; first | refine sl_op rfl rfl rfl (by first | exact opv_build rfl rfl (by exact rfl) ) ?_ )
        | refine sl_region rfl ?_
        | refine sl_nil ?_
        | refine thn_k ?_
        | refine swp_true rfl ?_
        | refine swp_false rfl ?_
        | refine swp_block ?_
        | refine swp_skip ?_
        )
      exact ⟨rfl, u + 1, next_ok (by repeat first | exact Sub.nil _ | refine Sub.cons rfl ?_), hu2, by omega⟩
    · obtain rfl : u = t := by omega
      have hl2 : rem.length = u + rest.length := by rw [hrem2, List.length_append, rnd_length]
      have hnx : ∃ pre' rem', Fq = pre' ++ rem' ∧ pre'.length = i + u ∧ St u e l a 0 rem' := ⟨pre ++ rnd u, rest, by rw [hpr, hrem2, List.append_assoc], by rw [List.length_append, rnd_length, hpi], hst2⟩
      by_cases han : a = n
      · rcases hfin han with h0 | ⟨h0, h1⟩
        · rw [h0, List.length_nil] at hl2
          repeat' (first
            | refine swp_seq ?_
            | (refine gk 0 rfl ?_; first | refine sl_op rfl rfl rfl (by first | exact opv_move rfl rfl | exact opv_assign rfl rfl | exact opv_pick_t rfl rfl rfl | exact opv_pick_f rfl rfl rfl ) ?_ | refine sl_pass rfl rfl rfl rfl ?_)
            | (refine gk 1 rfl ?_; first | refine sl_op rfl rfl rfl (by first | exact opv_add64 rfl rfl rfl (by omega) (by omega) ) ?_ | refine sl_pass rfl rfl rfl rfl ?_)
            | (refine gk 2 rfl ?_; first | refine sl_pass rfl rfl rfl rfl ?_ | refine sl_yes rfl rfl rfl (by first | exact opv_lss rfl rfl rfl | exact opv_eql rfl rfl rfl ) (by first | omega ) ?_ | refine sl_no rfl rfl rfl (by first | exact opv_lss rfl rfl rfl ) (by first | omega ) ?_ )
            | (refine gk 4 rfl ?_; first | refine sl_pass rfl rfl rfl rfl ?_ | refine sl_op rfl rfl rfl (by first | exact opv_len rfl rfl rfl rfl rfl ) ?_)
            | refine sl_region rfl ?_
            | refine sl_nil ?_
            | refine thn_k ?_
            | refine swp_false rfl ?_
            | refine swp_exit ?_
            | refine swp_skip ?_
            | refine thn_exit ?_
            | refine inb_exit ?_
            )
          exact ⟨rfl, ⟨i + u, a, 0⟩, next_ok (by repeat first | exact Sub.nil _ | refine Sub.cons rfl ?_), hnx, by dsimp only; omega⟩
        · rw [h0] at hrem
          repeat' (first
            | refine sl_op rfl rfl rfl ((opv_sub64 rfl rfl rfl (by omega) (by omega)).to (congrArg (Value.int .i64) i2)) ?_
            | refine sl_op rfl rfl rfl ((opv_rem rfl rfl rfl (by omega)).to hrem) ?_
            | refine swp_seq ?_
            | (refine gk 0 rfl ?_; first | refine sl_op rfl rfl rfl (by first | exact opv_move rfl rfl | exact opv_assign rfl rfl | exact opv_pick_t rfl rfl rfl | exact opv_pick_f rfl rfl rfl ) ?_ )
            | (refine gk 1 rfl ?_; first | refine sl_op rfl rfl rfl (by first | exact opv_add64 rfl rfl rfl (by omega) (by omega) | exact opv_sub64 rfl rfl rfl (by omega) (by omega) ) ?_ )
            | (refine gk 2 rfl ?_; first | refine sl_yes rfl rfl rfl (by first | exact opv_lss rfl rfl rfl | exact opv_eql rfl rfl rfl | exact opv_neq rfl rfl rfl) (by first | omega ) ?_ | refine sl_no rfl rfl rfl (by first | exact opv_lss rfl rfl rfl | exact opv_neq rfl rfl rfl) (by first | omega ) ?_ )
            | (refine gk 4 rfl ?_; first | refine sl_op rfl rfl rfl (by first | exact opv_len rfl rfl rfl rfl rfl ) ?_)
            | refine sl_region rfl ?_
            | refine sl_nil ?_
            | refine thn_k ?_
            | refine swp_false rfl ?_
            | refine swp_exit ?_
            | refine swp_skip ?_
            | refine thn_exit ?_
            | refine inb_exit ?_
            )
          exact ⟨rfl, ⟨i + u, a, 0⟩, next_ok (by repeat first | exact Sub.nil _ | refine Sub.cons rfl ?_), hnx, by dsimp only; omega⟩
      · repeat' (first
          | refine swp_seq ?_
          | (refine gk 0 rfl ?_; first | refine sl_op rfl rfl rfl (by first | exact opv_move rfl rfl | exact opv_assign rfl rfl | exact opv_pick_f rfl rfl rfl ) ?_ | refine sl_pass rfl rfl rfl rfl ?_)
          | (refine gk 1 rfl ?_; first | refine sl_op rfl rfl rfl (by first | exact opv_add64 rfl rfl rfl (by omega) (by omega) ) ?_ | refine sl_pass rfl rfl rfl rfl ?_)
          | (refine gk 2 rfl ?_; first | refine sl_pass rfl rfl rfl rfl ?_ | refine sl_no rfl rfl rfl (by first | exact opv_lss rfl rfl rfl | exact opv_eql rfl rfl rfl ) (by first | omega ) ?_ )
          | (refine gk 4 rfl ?_; first | refine sl_pass rfl rfl rfl rfl ?_ | refine sl_op rfl rfl rfl (by first | exact opv_len rfl rfl rfl rfl rfl ) ?_)
          | refine sl_region rfl ?_
          | refine sl_nil ?_
          | refine thn_k ?_
          | refine swp_false rfl ?_
          | refine swp_exit ?_
          | refine swp_skip ?_
          | refine thn_exit ?_
          | refine inb_exit ?_
          )
        exact ⟨rfl, ⟨i + u, a, 0⟩, next_ok (by repeat first | exact Sub.nil _ | refine Sub.cons rfl ?_), hnx, by dsimp only; omega⟩
end Go.Proofs.YtobcmglbdmaceaaGreatDoor
