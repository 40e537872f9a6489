/- SpecWakes, walked. -/
import Derived.Test.YtimmclibnfdjhaaWW3b
import Derived.Test.YtimmclibnfdjhaaWB21
namespace Go.Proofs.Ytimmclibnfdjhaa
open Go.SL
set_option maxRecDepth 100000
set_option maxHeartbeats 16000000
attribute [local irreducible] SL.T PFn OpV SOL SWP HOp ChU
-- CHANGES 13 11
abbrev u8 (a : Int) : Value := .int .u8 a
structure L1 where
  i : Nat
  od : List Nat
  ob : Option Addr
  oc : Nat
  HT : Heap
  HO : Heap
  OP : Heap
  HD : Heap
  HU : Heap
  HC : Heap
structure L5 where
  z : Int
  HT : Heap
  HO : Heap
  OP : Heap
structure L3 where
  k : Nat
  HT : Heap
  HO : Heap
  OP : Heap
  HC : Heap
/-- How often each enters. -/
def dp (l : List Int) (u : Nat) : Nat := (l.getD u 0).toNat % 3
theorem dp_le (l : List Int) (u : Nat) : dp l u ≤ 2 := by unfold dp; omega
theorem wakes_calls (a0 a1 a2 a3 a4 a5 d0 d1 d2 d3 d4 d5 : Int) (hA0 : ∀ z ∈ [a0, a1, a2, a3, a4, a5], 0 ≤ z) (hB0 : ∀ z ∈ [d0, d1, d2, d3, d4, d5], 0 ≤ z) :
    PFn Try.prog 4 [.agg ⟨[u8 a0, u8 a1, u8 a2, u8 a3, u8 a4, u8 a5]⟩, .agg ⟨[u8 d0, u8 d1, u8 d2, u8 d3, u8 d4, u8 d5]⟩] [] (.bool true) := by
  have hw := works_calls
  have hn := new_1 7 (by decide) (by decide)
  unfold NewQ at hn
  have hgA : ∀ i, i < 6 → 0 ≤ [a0, a1, a2, a3, a4, a5].getD i 0 := fun i hi => hA0 _ (by rw [List.getD_eq_getElem?_getD, List.getElem?_eq_getElem (by simpa using hi)]; exact List.getElem_mem _)
  have hgB : ∀ i, i < 6 → 0 ≤ [d0, d1, d2, d3, d4, d5].getD i 0 := fun i hi => hB0 _ (by rw [List.getD_eq_getElem?_getD, List.getElem?_eq_getElem (by simpa using hi)]; exact List.getElem_mem _)
  have hAt : ∀ i, i < 6 → nth [u8 a0, u8 a1, u8 a2, u8 a3, u8 a4, u8 a5] (0 + ((i : Nat) : Int).toNat * 1) = some (.int .u8 ([a0, a1, a2, a3, a4, a5].getD i 0)) := fun i hi => getD_at (l := [a0, a1, a2, a3, a4, a5]) hi
  have hBt : ∀ i, i < 6 → nth [u8 d0, u8 d1, u8 d2, u8 d3, u8 d4, u8 d5] (0 + ((i : Nat) : Int).toNat * 1) = some (.int .u8 ([d0, d1, d2, d3, d4, d5].getD i 0)) := fun i hi => getD_at (l := [d0, d1, d2, d3, d4, d5]) hi
  have hB3 : ∀ t, t < 6 → Value.int .u8 (([d0, d1, d2, d3, d4, d5].getD t 0).tmod 3) = .int .u8 ((dp [d0, d1, d2, d3, d4, d5] t : Nat) : Int) := fun t ht => by
    rw [show (3 : Int) = ((3 : Nat) : Int) from rfl, tm (hgB t ht)]; rfl
  have hBw : ∀ t, Value.int .i64 (IntKind.i64.wrap ((dp [d0, d1, d2, d3, d4, d5] t : Nat) : Int)) = .int .i64 ((dp [d0, d1, d2, d3, d4, d5] t : Nat) : Int) := fun t => by
    rw [wrapN (Nat.le_trans (dp_le _ t) (by decide))]
  have hDle := dp_le [d0, d1, d2, d3, d4, d5]
  generalize hDd : dp [d0, d1, d2, d3, d4, d5] = D at hB3 hBw hDle
  clear hDd
  refine pure_of_body Try.func4 rfl (Nat.le_of_ble_eq_true rfl) fun F => ?_
  repeat' (first
    | refine sl_makeSlice (m := 6) rfl rfl rfl rfl rfl rfl rfl (by omega) (by omega) (fun bu HU osU => ?_)
    | refine sl_makeSlice (m := 7) rfl rfl rfl rfl rfl rfl rfl (by omega) (by omega) (fun bc HC osC => ?_)
    | refine swp_seq ?_
    | (refine gk 0 rfl ?_; first | refine sl_op rfl rfl rfl (by first | exact opv_assign rfl rfl | exact opv_not_t rfl rfl ) ?_ )
    | (refine gk 4 rfl ?_; first | refine sl_op rfl rfl rfl (opv_call rfl rfl rfl rfl rfl (hw)) ?_ | (refine sl_callT rfl rfl rfl rfl rfl rfl rfl rfl (hn) ?_; rintro _ _ ⟨βs, bt, bo, HT, HO, OP, rfl, rfl, m⟩; refine ⟨_, _, rfl, rfl, ?_⟩))
    | (refine gk 5 rfl ?_; first | refine sl_box rfl rfl rfl rfl rfl rfl (fun β => ?_) )
    | refine sl_region rfl ?_
    | refine sl_nil ?_
    | refine thn_k ?_
    | refine swp_false rfl ?_
    | refine swp_block ?_
    | refine swp_skip ?_
    )
  rename_i βa
  generalize β = βb
  refine swp_emp ?_
  have aa := Au.new m
  rw [newF_S7 (D := D)] at aa
  rw [rowV_new] at osU osC
  have e0 : specB βs bt bo 7 7 1 1 0 = specB βs bt bo 7 7 1 1 ((0 : Nat) : Int) := rfl
  rw [e0]
  refine swp_loopS (fun s : L1 => [(2, ptr βa), (3, ptr βb), (5, ptr βs), (6, .slice s.ob s.i s.oc), (7, .slice (some ⟨bu, 0, none⟩) 6 6), (8, .slice (some ⟨bc, 0, none⟩) 7 7), (9, i64 (s.i : Int))])
    (fun s => [blk βa (.cells ⟨[u8 a0, u8 a1, u8 a2, u8 a3, u8 a4, u8 a5]⟩ 43 (0, 0)), blk βb (.cells ⟨[u8 d0, u8 d1, u8 d2, u8 d3, u8 d4, u8 d5]⟩ 43 (0, 0)), specB βs bt bo 7 7 1 1 (s.i : Int), s.HT, s.HO, s.OP, s.HD, s.HU, s.HC])
    (fun s => s.i ≤ 6 ∧ s.od.length = s.i ∧ s.od.Nodup ∧ (∀ u ∈ s.od, u < 6) ∧ OS s.HD s.ob s.i s.oc 3 1 (natV s.od) ∧ OS s.HU (some ⟨bu, 0, none⟩) 6 6 3 1 (rowV 6 (u1 s.od)) ∧ OS s.HC (some ⟨bc, 0, none⟩) 7 7 3 1 (rowV 7 (c1 D s.od)) ∧ Au bt bo 7 7 1 1 s.HT s.HO s.OP (St1 D s.od))
    (fun s => 6 - s.i) ⟨0, [], none, 0, HT, HO, OP, emp, HU, HC⟩ (by repeat first | exact Sub.nil _ | refine Sub.cons rfl ?_) ⟨Nat.zero_le _, rfl, List.nodup_nil, by simp, OS.nil, osU, osC, aa⟩ ?_
  clear osU osC aa m e0 HT HO OP HU HC
  rintro ⟨i, od, ob, oc, HT, HO, OP, HD, HU, HC⟩ ⟨hi, hl, hnd, hlt, osD, osU, osC, aa⟩
  dsimp only at hi hl hnd hlt osD osU osC aa ⊢
  haveI slU := osU.sl
  haveI slC := osC.sl
  haveI slD := osD.sl
  have lU := rowV_length 6 (u1 od)
  have lC := rowV_length 7 (c1 D od)
  by_cases hi6 : i < 6
  · obtain ⟨x, hx6, hx⟩ := free (od := od) (by omega)
    have hAi := hAt i hi6
    generalize hr : ([a0, a1, a2, a3, a4, a5].getD i 0).toNat % 6 = r
    have hRi : Value.int .u8 (([a0, a1, a2, a3, a4, a5].getD i 0).tmod 6) = .int .u8 ((r : Nat) : Int) := by
      rw [show (6 : Int) = ((6 : Nat) : Int) from rfl, tm (hgA i hi6), hr]
    have hr6 : r < 6 := by omega
    have hRw : Value.int .i64 (IntKind.i64.wrap ((r : Nat) : Int)) = .int .i64 ((r : Nat) : Int) := by rw [wrapN (by omega)]
    repeat' (first
      | refine sl_op rfl rfl rfl (opv_load rfl (by exact rfl) rfl hAi) ?_
      | refine sl_op rfl rfl rfl ((opv_rem rfl rfl rfl (by decide)).to hRi) ?_
      | refine sl_op rfl rfl rfl ((opv_convert rfl rfl).to hRw) ?_
      | refine swp_seq ?_
      | (refine gk 0 rfl ?_; first | refine sl_op rfl rfl rfl (by first | exact opv_move rfl rfl | exact opv_assign rfl rfl ) ?_ )
      | (refine gk 2 rfl ?_; first | refine sl_yes rfl rfl rfl (by first | exact opv_lss rfl rfl rfl ) (by first | omega ) ?_ )
      | (refine gk 3 rfl ?_; first | refine sl_op rfl rfl rfl (by first | exact opv_indexAddrR rfl rfl rfl (by omega) (by omega) ) ?_ )
      | refine sl_region rfl ?_
      | refine sl_nil ?_
      | refine thn_k ?_
      | refine swp_true rfl ?_
      | refine swp_block ?_
      | refine swp_skip ?_
      )
    clear hr hRi hRw
    refine swp_loopS (fun t : Nat => [(2, ptr βa), (3, ptr βb), (5, ptr βs), (6, .slice ob i oc), (7, .slice (some ⟨bu, 0, none⟩) 6 6), (8, .slice (some ⟨bc, 0, none⟩) 7 7), (9, i64 (i : Int)), (10, i64 (t : Int))])
      (fun _ => [blk βa (.cells ⟨[u8 a0, u8 a1, u8 a2, u8 a3, u8 a4, u8 a5]⟩ 43 (0, 0)), blk βb (.cells ⟨[u8 d0, u8 d1, u8 d2, u8 d3, u8 d4, u8 d5]⟩ 43 (0, 0)), specB βs bt bo 7 7 1 1 (i : Int), HT, HO, OP, HD, HU, HC])
      (fun t => t < 6) (fun t => (x + 6 - t) % 6) r (by repeat first | exact Sub.nil _ | refine Sub.cons rfl ?_) hr6 ?_
    clear hr6
    intro t ht
    by_cases hto : t ∈ od
    · have hUt : (rowV 6 (u1 od))[((t : Nat) : Int).toNat * 1]? = some (i64 1) := by rw [rowV_at ht]; simp [u1, hto]
      have hR1 : Value.int .i64 (((t : Int) + 1).tmod 6) = .int .i64 (((t + 1) % 6 : Nat) : Int) := by
        rw [show (6 : Int) = ((6 : Nat) : Int) from rfl, show (t : Int) + 1 = ((t + 1 : Nat) : Int) from rfl, tm (by omega)]; rfl
      repeat' (first
        | refine sl_op rfl rfl rfl ((opv_rem rfl rfl rfl (by decide)).to hR1) ?_
        | refine swp_seq ?_
        | (refine gk 0 rfl ?_; first | refine sl_op rfl rfl rfl (by first | exact opv_move rfl rfl | exact opv_assign rfl rfl ) ?_ )
        | (refine gk 1 rfl ?_; first | refine sl_op rfl rfl rfl (by first | exact opv_add64 rfl rfl rfl (by omega) (by omega) ) ?_ )
        | (refine gk 2 rfl ?_; first | refine sl_yes rfl rfl rfl (by first | exact opv_gtr rfl rfl rfl ) (by first | omega ) ?_ )
        | (refine gk 3 rfl ?_; first | refine sl_op rfl rfl rfl (by first | exact opv_indexAddrI rfl rfl rfl (by omega) (by omega) (by first | omega ) | exact opv_loadEx rfl (by exact rfl) (by infer_instance) (by first | assumption ) ) ?_ )
        | refine sl_region rfl ?_
        | refine sl_nil ?_
        | refine thn_k ?_
        | refine swp_true rfl ?_
        | refine swp_block ?_
        | refine swp_skip ?_
        | refine inb_k ?_
        )
      have hne : t ≠ x := fun e => hx (e ▸ hto)
      exact ⟨rfl, (t + 1) % 6, next_ok (by repeat first | exact Sub.nil _ | refine Sub.cons rfl ?_), Nat.mod_lt _ (by decide), by omega⟩
    · have hUt : (rowV 6 (u1 od))[((t : Nat) : Int).toNat * 1]? = some (i64 0) := by rw [rowV_at ht]; simp [u1, hto]
      repeat' (first
        | (refine sl_storeE rfl rfl rfl rfl rfl osU rfl rfl rfl (Nat.succ_pos _) (by rw [lU]; simp; omega) (rowV_set ht) (fun HU2 osU2 => ?_))
        | refine swp_seq ?_
        | (refine gk 0 rfl ?_; first | refine sl_op rfl rfl rfl (by first | exact opv_move rfl rfl | exact opv_assign rfl rfl ) ?_ )
        | (refine gk 1 rfl ?_; first | refine sl_op rfl rfl rfl (by first | exact opv_add64 rfl rfl rfl (by omega) (by omega) ) ?_ )
        | (refine gk 2 rfl ?_; first | refine sl_no rfl rfl rfl (by first | exact opv_gtr rfl rfl rfl ) (by first | omega ) ?_ )
        | (refine gk 3 rfl ?_; first | refine sl_op rfl rfl rfl (by first | exact opv_indexAddrI rfl rfl rfl (by omega) (by omega) (by first | omega ) | exact opv_loadEx rfl (by exact rfl) (by infer_instance) (by first | assumption ) ) ?_ )
        | (refine gk 4 rfl ?_; first | refine sl_appendG rfl rfl rfl rfl rfl rfl rfl rfl rfl (by assumption) (by first | rfl ) (by decide) (by first | rfl ) (by omega) (by omega) (fun hD2 b2 c2 osD2 hb2 => ?_))
        | (refine gk 5 rfl ?_; first | refine sl_buildSlice rfl rfl rfl rfl rfl (by exact rfl) (by exact rfl) (by exact rfl) (by exact rfl) rfl (fun b => ?_) )
        | refine sl_region rfl ?_
        | refine sl_nil ?_
        | refine thn_k ?_
        | refine swp_false rfl ?_
        | refine swp_block ?_
        | refine swp_exit ?_
        )
      have hb2 := hb2
      rw [← natV_snoc] at osD2
      have eU : upI (u1 od) t (0 + 1) = u1 (od ++ [t]) := u1_snoc
      rw [eU] at osU2
      clear osU slU osD slD hUt hAi eU hb2
      have slU2 := osU2.sl
      have slD2 := osD2.sl
      have hBi := hBt t ht
      have hB3i := hB3 t ht
      have hBwi := hBw t
      have hDt := hDle t
      have osC0 : OS HC (some ⟨bc, 0, none⟩) 7 7 3 1 (rowV 7 (upI (c1 D od) t ((0 : Nat) : Int))) := by
        have : upI (c1 D od) t ((0 : Nat) : Int) = c1 D od := by
          funext u
          by_cases e : u = t
          · subst e; simp [upI, c1, hto]
          · simp [upI, e]
        rw [this]; exact osC
      have aa0 : Au bt bo 7 7 1 1 HT HO OP (St1k D od t 0) := by rw [st1_0 hto]; exact aa
      refine swp_loopS (fun s : L3 => [(2, ptr βa), (3, ptr βb), (5, ptr βs), (6, .slice b2 (i + 1) c2), (7, .slice (some ⟨bu, 0, none⟩) 6 6), (8, .slice (some ⟨bc, 0, none⟩) 7 7), (9, i64 (i : Int)), (10, i64 (t : Int)), (11, i64 (s.k : Int))])
        (fun s => [blk βa (.cells ⟨[u8 a0, u8 a1, u8 a2, u8 a3, u8 a4, u8 a5]⟩ 43 (0, 0)), blk βb (.cells ⟨[u8 d0, u8 d1, u8 d2, u8 d3, u8 d4, u8 d5]⟩ 43 (0, 0)), specB βs bt bo 7 7 1 1 (i : Int), s.HT, s.HO, s.OP, hD2, HU2, s.HC])
        (fun s => s.k ≤ D t + 1 ∧ OS s.HC (some ⟨bc, 0, none⟩) 7 7 3 1 (rowV 7 (upI (c1 D od) t (s.k : Int))) ∧ Au bt bo 7 7 1 1 s.HT s.HO s.OP (St1k D od t s.k))
        (fun s => D t + 1 - s.k) ⟨0, HT, HO, OP, HC⟩ (by repeat first | exact Sub.nil _ | refine Sub.cons rfl ?_) ⟨Nat.zero_le _, osC0, aa0⟩ ?_
      clear osC0 aa0 osC slC aa lC HT HO OP HC
      rintro ⟨k, HT, HO, OP, HC⟩ ⟨hk, osC, aa⟩
      dsimp only at hk osC aa ⊢
      haveI slC := osC.sl
      have lC := rowV_length 7 (upI (c1 D od) t (k : Int))
      have hCt : (rowV 7 (upI (c1 D od) t (k : Int)))[((t : Nat) : Int).toNat * 1]? = some (i64 (k : Int)) := by rw [rowV_at (by omega), upI_self]
      have hrl : (St1k D od t k).rel = (i : Int) := by rw [← hl]; rfl
      by_cases hk2 : k ≤ D t
      · have hF := p1_enter (D := D) (od := od) (t := t) (k := k) ht (by omega)
        repeat' (first
          | refine sl_op rfl rfl rfl (opv_load rfl (by exact rfl) rfl hBi) ?_
          | refine sl_op rfl rfl rfl ((opv_rem rfl rfl rfl (by decide)).to hB3i) ?_
          | refine sl_op rfl rfl rfl ((opv_convert rfl rfl).to hBwi) ?_
          | refine swp_seq ?_
          | (refine gk 0 rfl ?_; first | refine sl_op rfl rfl rfl (by first | exact opv_move rfl rfl ) ?_ )
          | (refine gk 2 rfl ?_; first | refine sl_yes rfl rfl rfl (by first | exact opv_leq rfl rfl rfl ) (by first | omega ) ?_ )
          | (refine gk 3 rfl ?_; first | refine sl_op rfl rfl rfl (by first | exact opv_indexAddrR rfl rfl rfl (by omega) (by omega) ) ?_ )
          | refine sl_region rfl ?_
          | refine sl_nil ?_
          | refine thn_k ?_
          | refine swp_true rfl ?_
          | refine swp_block ?_
          | refine swp_skip ?_
          )
        refine sl_drawC [.q [0, 1, 2, 3, 4, 5, 7, 9, 10, 11, 12, 13], .h false 6, .h false 8, .h false 14, .an 15, .rv 15, .h true 16, .q [17]] [] (by kernel_rfl) (by kernel_rfl) (by kernel_rfl) (by kernel_rfl) ?_
        repeat' (first
          | (refine sl_storeE rfl rfl rfl rfl rfl osC rfl rfl rfl (Nat.succ_pos _) (by rw [lC]; simp; omega) (rowV_set (by omega)) (fun HC2 osC2 => ?_); haveI slC2 := osC2.sl)
          | (refine gk 0 rfl ?_; first | refine sl_op rfl rfl rfl (by first | exact opv_move rfl rfl | exact opv_assign rfl rfl | exact opv_not_t rfl rfl ) ?_ )
          | (refine gk 1 rfl ?_; first | refine sl_op rfl rfl rfl (by first | exact opv_add64 rfl rfl rfl (by omega) (by omega) ) ?_ )
          | (refine gk 3 rfl ?_; first | refine sl_op rfl rfl rfl (by first | exact opv_indexAddrI rfl rfl rfl (by omega) (by omega) (by first | omega ) | exact opv_loadEx rfl (by exact rfl) (by infer_instance) (by first | assumption ) ) ?_ )
          | refine sl_region rfl ?_
          | refine chu_nil ?_
          | refine chu_q rfl ?_
          | refine chu_new rfl rfl (by first | exact new_buildSlice rfl rfl (by exact rfl) (by exact rfl) (by exact rfl) (by exact rfl) (by exact rfl)) ?_
          | refine chu_rv rfl rfl rfl (fun β => ?_)
          | refine chu_P rfl rfl rfl rfl rfl rfl rfl rfl (mkCall _ _ _ _) rfl ?_
          | refine chu_P rfl rfl rfl rfl rfl rfl rfl rfl (mkAct _ _ _) rfl ?_
          | refine chu_P rfl rfl rfl rfl rfl rfl rfl rfl (mkBack _ _ _ _) rfl ?_
          | (refine chu_Tc rfl rfl rfl rfl rfl rfl rfl rfl (takes_ok (r := (i : Int)) (r' := (i : Int)) [Ev.call (t : Int) (k : Int) 0 0, Ev.act' (t : Int) 0 0, Ev.back (t : Int) (k : Int) 0 0] [i64 0, i64 (t : Int), i64 (k : Int), i64 0, i64 0, i64 0, i64 0, i64 0, i64 1, i64 (t : Int), i64 0, i64 0, i64 0, i64 0, i64 0, i64 0, i64 2, i64 (t : Int), i64 (k : Int), i64 0, i64 0, i64 0, i64 0, i64 0] aa (by decide) (by decide) rfl rfl (by decide) hF hrl hrl) ?_; rintro _ _ ⟨rfl, HT2, HO2, OP2, rfl, aa2⟩; refine ⟨_, _, rfl, rfl, ?_⟩)
          | refine sl_nil ?_
          | refine thn_k ?_
          | refine swp_false rfl ?_
          | refine swp_skip ?_
          )
        have hkc : upI (upI (c1 D od) t (k : Int)) t ((k : Int) + 1) = upI (c1 D od) t ((k + 1 : Nat) : Int) := upI_upI _ _ _ _
        rw [hkc] at osC2
        exact ⟨rfl, ⟨k + 1, HT2, HO2, OP2, HC2⟩, next_ok (by repeat first | exact Sub.nil _ | refine Sub.cons rfl ?_), ⟨by dsimp only; omega, osC2, aa2⟩, by dsimp only; omega⟩
      · have hkD : k = D t + 1 := by omega
        subst hkD
        have hF : takesF (St1k D od t (D t + 1)) [Ev.call t ((D t + 1 : Nat) : Int) 2 0, Ev.act' t 2 0] = (true, St1 D (od ++ [t])) := p1_wait (D := D) (od := od) (t := t) ht (by omega) (by omega) hto
        have hrl2 : (St1 D (od ++ [t])).rel = ((i + 1 : Nat) : Int) := by rw [← hl]; simp [St1, S7]
        have hkc : upI (c1 D od) t ((D t + 1 : Nat) : Int) = c1 D (od ++ [t]) := c1_snoc D hto
        repeat' (first
          | refine sl_op rfl rfl rfl (opv_load rfl (by exact rfl) rfl hBi) ?_
          | refine sl_op rfl rfl rfl ((opv_rem rfl rfl rfl (by decide)).to hB3i) ?_
          | refine sl_op rfl rfl rfl ((opv_convert rfl rfl).to hBwi) ?_
          | refine swp_seq ?_
          | (refine gk 0 rfl ?_; first | refine sl_op rfl rfl rfl (by first | exact opv_move rfl rfl | exact opv_assign rfl rfl | exact opv_not_t rfl rfl ) ?_ )
          | (refine gk 1 rfl ?_; first | refine sl_op rfl rfl rfl (by first | exact opv_add64 rfl rfl rfl (by omega) (by omega) ) ?_ )
          | (refine gk 2 rfl ?_; first | refine sl_no rfl rfl rfl (by first | exact opv_leq rfl rfl rfl ) (by first | omega ) ?_ )
          | (refine gk 3 rfl ?_; first | refine sl_op rfl rfl rfl (by first | exact opv_indexAddrI rfl rfl rfl (by omega) (by omega) (by first | omega ) | exact opv_indexAddrR rfl rfl rfl (by omega) (by omega) | exact opv_loadEx rfl (by exact rfl) (by infer_instance) (by first | assumption ) ) ?_ )
          | (refine gk 4 rfl ?_; first | refine sl_op rfl rfl rfl (opv_call rfl rfl rfl rfl rfl (mkCall _ _ _ _)) ?_ | refine sl_op rfl rfl rfl (opv_call rfl rfl rfl rfl rfl (mkAct _ _ _)) ?_ | (refine sl_callT rfl rfl rfl rfl rfl rfl rfl rfl (takes_ok (r := (i : Int)) (r' := ((i + 1 : Nat) : Int)) [Ev.call (t : Int) ((D t + 1 : Nat) : Int) 2 0, Ev.act' (t : Int) 2 0] [i64 0, i64 (t : Int), i64 ((D t + 1 : Nat) : Int), i64 2, i64 0, i64 0, i64 0, i64 0, i64 1, i64 (t : Int), i64 0, i64 2, i64 0, i64 0, i64 0, i64 0] aa (by decide) (by decide) rfl rfl (by decide) hF hrl hrl2) ?_; rintro _ _ ⟨rfl, HT2, HO2, OP2, rfl, aa2⟩; refine ⟨_, _, rfl, rfl, ?_⟩))
          | (refine gk 5 rfl ?_; first | refine sl_buildSlice rfl rfl rfl rfl rfl (by exact rfl) (by exact rfl) (by exact rfl) (by exact rfl) rfl (fun b => ?_) )
          | refine sl_region rfl ?_
          | refine sl_nil ?_
          | refine thn_k ?_
          | refine swp_false rfl ?_
          | refine swp_exit ?_
          | refine swp_skip ?_
          )
        rw [hkc] at osC
        exact ⟨rfl, ⟨i + 1, od ++ [t], b2, c2, HT2, HO2, OP2, hD2, HU2, HC⟩, next_ok (by repeat first | exact Sub.nil _ | refine Sub.cons rfl ?_), ⟨by dsimp only; omega, by simp [hl], List.nodup_append.2 ⟨hnd, by simp, fun a ha b hb => by simp at hb; subst hb; intro e; subst e; exact hto ha⟩, fun u hu => by
          rcases List.mem_append.1 hu with hu | hu
          · exact hlt u hu
          · simp at hu; omega, osD2, osU2, osC, aa2⟩, by dsimp only; omega⟩
  · have hi' : i = 6 := by omega
    subst hi'
    have h6 : 6 ∉ od := fun h => by have := hlt 6 h; omega
    have hfull := full hl hnd hlt
    have lD := natV_length od
    have hF := p2_start (D := D) h6
    have hrl : (St1 D od).rel = ((6 : Nat) : Int) := by rw [← hl]; rfl
    have hr2 : ∀ k, (St2 D od k).rel = ((6 : Nat) : Int) := fun k => by rw [← hl]; rfl
    repeat' (first
      | refine swp_seq ?_
      | (refine gk 0 rfl ?_; first | refine sl_op rfl rfl rfl (by first | exact opv_move rfl rfl | exact opv_assign rfl rfl | exact opv_not_t rfl rfl ) ?_ )
      | (refine gk 2 rfl ?_; first | refine sl_no rfl rfl rfl (by first | exact opv_lss rfl rfl rfl ) (by first | omega ) ?_ )
      | (refine gk 4 rfl ?_; first | refine sl_op rfl rfl rfl (opv_call rfl rfl rfl rfl rfl (mkCall _ _ _ _)) ?_ | refine sl_op rfl rfl rfl (opv_call rfl rfl rfl rfl rfl (mkAct _ _ _)) ?_ | refine sl_op rfl rfl rfl (opv_call rfl rfl rfl rfl rfl (mkBack _ _ _ _)) ?_ | (refine sl_callT rfl rfl rfl rfl rfl rfl rfl rfl (takes_ok (r := ((6 : Nat) : Int)) (r' := ((6 : Nat) : Int)) [Ev.call 6 0 0 0, Ev.act' 6 0 0, Ev.back 6 0 0 0, Ev.call 6 1 5 0] [i64 0, i64 6, i64 0, i64 0, i64 0, i64 0, i64 0, i64 0, i64 1, i64 6, i64 0, i64 0, i64 0, i64 0, i64 0, i64 0, i64 2, i64 6, i64 0, i64 0, i64 0, i64 0, i64 0, i64 0, i64 0, i64 6, i64 1, i64 5, i64 0, i64 0, i64 0, i64 0] aa (by decide) (by decide) rfl rfl (by decide) hF hrl (hr2 _)) ?_; rintro _ _ ⟨rfl, HT2, HO2, OP2, rfl, aa2⟩; refine ⟨_, _, rfl, rfl, ?_⟩))
      | (refine gk 5 rfl ?_; first | refine sl_buildSlice rfl rfl rfl rfl rfl (by exact rfl) (by exact rfl) (by exact rfl) (by exact rfl) rfl (fun b => ?_) )
      | refine sl_region rfl ?_
      | refine sl_nil ?_
      | refine thn_k ?_
      | refine swp_false rfl ?_
      | refine swp_block ?_
      | refine swp_exit ?_
      | refine swp_skip ?_
      )
    clear hF hrl aa HT HO OP osD osU slU lU hi6
    refine swp_loopS (fun s : L5 => [(2, ptr βa), (3, ptr βb), (5, ptr βs), (6, .slice ob 6 oc), (8, .slice (some ⟨bc, 0, none⟩) 7 7), (12, i64 (s.z : Int))])
      (fun s => [blk βa (.cells ⟨[u8 a0, u8 a1, u8 a2, u8 a3, u8 a4, u8 a5]⟩ 43 (0, 0)), blk βb (.cells ⟨[u8 d0, u8 d1, u8 d2, u8 d3, u8 d4, u8 d5]⟩ 43 (0, 0)), specB βs bt bo 7 7 1 1 ((6 : Nat) : Int), s.HT, s.HO, s.OP, HD, HC])
      (fun s => ∃ i : Nat, s.z = (i : Int) ∧ i ≤ 6 ∧ Au bt bo 7 7 1 1 s.HT s.HO s.OP (St2 D od i))
      (fun s => (6 - s.z).toNat) ⟨0, HT2, HO2, OP2⟩ (by repeat first | exact Sub.nil _ | refine Sub.cons rfl ?_) ⟨0, rfl, by decide, aa2⟩ ?_
    clear aa2 HT2 HO2 OP2
    rintro ⟨z, HT, HO, OP⟩ ⟨i, hz, hi, aa⟩
    dsimp only at hz hi aa ⊢
    subst hz
    by_cases hi6 : i < 6
    · obtain ⟨v, hv⟩ : ∃ v, od[i]? = some v := ⟨_, List.getElem?_eq_getElem (by omega)⟩
      have hOi := natV_at hv
      have hv6 : v < 6 := hlt v (List.mem_of_getElem? hv)
      have lDi : ((i : Nat) : Int).toNat * 1 < (natV od).length := by rw [lD, hl]; simp; omega
      repeat' (first
        | refine swp_seq ?_
        | (refine gk 0 rfl ?_; first | refine sl_op rfl rfl rfl (by first | exact opv_move rfl rfl | exact opv_assign rfl rfl ) ?_ )
        | (refine gk 2 rfl ?_; first | refine sl_yes rfl rfl rfl (by first | exact opv_lss rfl rfl rfl ) (by first | omega ) ?_ )
        | refine sl_region rfl ?_
        | refine sl_nil ?_
        | refine thn_k ?_
        | refine swp_true rfl ?_
        | refine swp_block ?_
        | refine swp_skip ?_
        )
      refine swp_loopS (fun s : L5 => [(2, ptr βa), (3, ptr βb), (5, ptr βs), (6, .slice ob 6 oc), (8, .slice (some ⟨bc, 0, none⟩) 7 7), (12, i64 (i : Int)), (13, i64 s.z)])
        (fun s => [blk βa (.cells ⟨[u8 a0, u8 a1, u8 a2, u8 a3, u8 a4, u8 a5]⟩ 43 (0, 0)), blk βb (.cells ⟨[u8 d0, u8 d1, u8 d2, u8 d3, u8 d4, u8 d5]⟩ 43 (0, 0)), specB βs bt bo 7 7 1 1 ((6 : Nat) : Int), s.HT, s.HO, s.OP, HD, HC])
        (fun s => -1 ≤ s.z ∧ s.z ≤ 7 ∧ Au bt bo 7 7 1 1 s.HT s.HO s.OP (St2 D od i))
        (fun s => (7 - s.z).toNat) ⟨-1, HT, HO, OP⟩ (by repeat first | exact Sub.nil _ | refine Sub.cons rfl ?_) ⟨by dsimp only; decide, by dsimp only; decide, aa⟩ ?_
      clear aa HT HO OP
      rintro ⟨z, HT, HO, OP⟩ ⟨hz0, hz7, aa⟩
      dsimp only at hz0 hz7 aa ⊢
      by_cases hz : z < 7
      · by_cases hzv : z = (v : Int)
        · repeat' (first
            | refine swp_seq ?_
            | (refine gk 0 rfl ?_; first | refine sl_op rfl rfl rfl (by first | exact opv_move rfl rfl | exact opv_assign rfl rfl | exact opv_pick_f rfl rfl rfl ) ?_ | refine sl_pass rfl rfl rfl rfl ?_)
            | (refine gk 1 rfl ?_; first | refine sl_op rfl rfl rfl (by first | exact opv_add64 rfl rfl rfl (by omega) (by omega) ) ?_ )
            | (refine gk 2 rfl ?_; first | refine sl_yes rfl rfl rfl (by first | exact opv_lss rfl rfl rfl | exact opv_neq rfl rfl rfl) (by first | omega ) ?_ | refine sl_no rfl rfl rfl (by first | exact opv_neq rfl rfl rfl) (by first | omega ) ?_ )
            | (refine gk 3 rfl ?_; first | refine sl_op rfl rfl rfl (by first | exact opv_indexAddrI rfl rfl rfl (by omega) (by omega) (by first | omega ) | exact opv_loadEx rfl (by exact rfl) (by infer_instance) (by first | assumption ) ) ?_ )
            | (refine gk 4 rfl ?_; first | refine sl_pass rfl rfl rfl rfl ?_ )
            | refine sl_region rfl ?_
            | refine sl_nil ?_
            | refine thn_k ?_
            | refine swp_true rfl ?_
            | refine swp_false rfl ?_
            | refine swp_block ?_
            | refine swp_skip ?_
            )
          exact ⟨rfl, ⟨z + 1, HT, HO, OP⟩, next_ok (by repeat first | exact Sub.nil _ | refine Sub.cons rfl ?_), ⟨by dsimp only; omega, by dsimp only; omega, aa⟩, by dsimp only; omega⟩
        · have hF := p2_no (D := D) hnd hlt hv hzv
          repeat' (first
            | refine swp_seq ?_
            | (refine gk 0 rfl ?_; first | refine sl_op rfl rfl rfl (by first | exact opv_move rfl rfl | exact opv_assign rfl rfl | exact opv_pick_t rfl rfl rfl ) ?_ )
            | (refine gk 1 rfl ?_; first | refine sl_op rfl rfl rfl (by first | exact opv_add64 rfl rfl rfl (by omega) (by omega) ) ?_ )
            | (refine gk 2 rfl ?_; first | refine sl_yes rfl rfl rfl (by first | exact opv_lss rfl rfl rfl | exact opv_neq rfl rfl rfl) (by first | omega ) ?_ )
            | (refine gk 3 rfl ?_; first | refine sl_op rfl rfl rfl (by first | exact opv_indexAddrI rfl rfl rfl (by omega) (by omega) (by first | omega ) | exact opv_loadEx rfl (by exact rfl) (by infer_instance) (by first | assumption ) ) ?_ )
            | (refine gk 4 rfl ?_; first | refine sl_op rfl rfl rfl (opv_call rfl rfl rfl rfl rfl (mkAct _ _ _)) ?_ | (refine sl_callT rfl rfl rfl rfl rfl rfl rfl rfl (take_is (r := ((6 : Nat) : Int)) (r' := ((6 : Nat) : Int)) (Ev.act' 6 3 z) [i64 1, i64 6, i64 0, i64 3, i64 0, i64 z, i64 0, i64 0] aa (by decide) (by decide) rfl hF (hr2 _) (hr2 _)) ?_; rintro _ _ ⟨rfl, HT2, HO2, OP2, rfl, aa2⟩; refine ⟨_, _, rfl, rfl, ?_⟩))
            | refine sl_region rfl ?_
            | refine sl_nil ?_
            | refine thn_k ?_
            | refine swp_true rfl ?_
            | refine swp_false rfl ?_
            | refine swp_block ?_
            | refine swp_skip ?_
            )
          exact ⟨rfl, ⟨z + 1, HT2, HO2, OP2⟩, next_ok (by repeat first | exact Sub.nil _ | refine Sub.cons rfl ?_), ⟨by dsimp only; omega, by dsimp only; omega, aa2⟩, by dsimp only; omega⟩
      · have hF1 := p2_yes (D := D) hnd hlt hv
        have hF2 := p2_grant (D := D) hnd hlt hv
        have hF3 := p2_leave (D := D) hnd hlt hv
        repeat' (first
          | refine swp_seq ?_
          | (refine gk 0 rfl ?_; first | refine sl_op rfl rfl rfl (by first | exact opv_move rfl rfl | exact opv_assign rfl rfl | exact opv_pick_f rfl rfl rfl | exact opv_not_t rfl rfl ) ?_ )
          | (refine gk 1 rfl ?_; first | refine sl_op rfl rfl rfl (by first | exact opv_add64 rfl rfl rfl (by omega) (by omega) ) ?_ )
          | (refine gk 2 rfl ?_; first | refine sl_no rfl rfl rfl (by first | exact opv_lss rfl rfl rfl ) (by first | omega ) ?_ )
          | (refine gk 3 rfl ?_; first | refine sl_op rfl rfl rfl (by first | exact opv_indexAddrI rfl rfl rfl (by omega) (by omega) (by first | omega ) | exact opv_loadEx rfl (by exact rfl) (by infer_instance) (by first | assumption ) ) ?_ )
          | (refine gk 4 rfl ?_; first | refine sl_op rfl rfl rfl (opv_call rfl rfl rfl rfl rfl (mkAct _ _ _)) ?_ | (refine sl_callT rfl rfl rfl rfl rfl rfl rfl rfl (take_is (r := ((6 : Nat) : Int)) (r' := ((6 : Nat) : Int)) (Ev.act' 6 3 (v : Int)) [i64 1, i64 6, i64 0, i64 3, i64 0, i64 (v : Int), i64 0, i64 0] aa (by decide) (by decide) rfl hF1 (hr2 _) (hr2 _)) ?_; rintro _ _ ⟨rfl, HT2, HO2, OP2, rfl, aa2⟩; refine ⟨_, _, rfl, rfl, ?_⟩) | (refine sl_callT rfl rfl rfl rfl rfl rfl rfl rfl (take_is (r := ((6 : Nat) : Int)) (r' := ((6 : Nat) : Int)) (Ev.act' (v : Int) 5 0) [i64 1, i64 (v : Int), i64 0, i64 5, i64 0, i64 0, i64 0, i64 0] aa2 (by decide) (by decide) rfl hF2 (hr2 _) (hr2 _)) ?_; rintro _ _ ⟨rfl, HT3, HO3, OP3, rfl, aa3⟩; refine ⟨_, _, rfl, rfl, ?_⟩) | (refine sl_callT rfl rfl rfl rfl rfl rfl rfl rfl (take_is (r := ((6 : Nat) : Int)) (r' := ((6 : Nat) : Int)) (Ev.act' (v : Int) 4 3) [i64 1, i64 (v : Int), i64 0, i64 4, i64 0, i64 3, i64 0, i64 0] aa3 (by decide) (by decide) rfl hF3 (hr2 _) (hr2 _)) ?_; rintro _ _ ⟨rfl, HT4, HO4, OP4, rfl, aa4⟩; refine ⟨_, _, rfl, rfl, ?_⟩))
          | refine sl_region rfl ?_
          | refine sl_nil ?_
          | refine thn_k ?_
          | refine swp_false rfl ?_
          | refine swp_exit ?_
          | refine swp_skip ?_
          )
        exact ⟨rfl, ⟨(i : Int) + 1, HT4, HO4, OP4⟩, next_ok (by repeat first | exact Sub.nil _ | refine Sub.cons rfl ?_), ⟨i + 1, rfl, hi6, aa4⟩, by dsimp only; omega⟩
    · have hi' : i = 6 := by omega
      subst hi'
      have hF := p3_start (D := D) hfull hlt
      have hr3 : ∀ k, (St3 D od k).rel = ((6 : Nat) : Int) := fun k => by rw [← hl]; rfl
      repeat' (first
        | refine swp_seq ?_
        | (refine gk 0 rfl ?_; first | refine sl_op rfl rfl rfl (by first | exact opv_move rfl rfl | exact opv_assign rfl rfl | exact opv_not_t rfl rfl ) ?_ )
        | (refine gk 2 rfl ?_; first | refine sl_no rfl rfl rfl (by first | exact opv_lss rfl rfl rfl ) (by first | omega ) ?_ )
        | (refine gk 4 rfl ?_; first | refine sl_op rfl rfl rfl (opv_call rfl rfl rfl rfl rfl (mkCall _ _ _ _)) ?_ | refine sl_op rfl rfl rfl (opv_call rfl rfl rfl rfl rfl (mkAct _ _ _)) ?_ | refine sl_op rfl rfl rfl (opv_call rfl rfl rfl rfl rfl (mkBack _ _ _ _)) ?_ | (refine sl_callT rfl rfl rfl rfl rfl rfl rfl rfl (takes_ok (r := ((6 : Nat) : Int)) (r' := ((6 : Nat) : Int)) [Ev.act' 6 3 (-1), Ev.back 6 1 0 0, Ev.call 6 2 1 0, Ev.act' 6 1 0, Ev.back 6 2 0 0] [i64 1, i64 6, i64 0, i64 3, i64 0, i64 (-1), i64 0, i64 0, i64 2, i64 6, i64 1, i64 0, i64 0, i64 0, i64 0, i64 0, i64 0, i64 6, i64 2, i64 1, i64 0, i64 0, i64 0, i64 0, i64 1, i64 6, i64 0, i64 1, i64 0, i64 0, i64 0, i64 0, i64 2, i64 6, i64 2, i64 0, i64 0, i64 0, i64 0, i64 0] aa (by decide) (by decide) rfl rfl (by decide) hF (hr2 _) (hr3 _)) ?_; rintro _ _ ⟨rfl, HT2, HO2, OP2, rfl, aa2⟩; refine ⟨_, _, rfl, rfl, ?_⟩))
        | (refine gk 5 rfl ?_; first | refine sl_buildSlice rfl rfl rfl rfl rfl (by exact rfl) (by exact rfl) (by exact rfl) (by exact rfl) rfl (fun b => ?_) )
        | refine sl_region rfl ?_
        | refine sl_nil ?_
        | refine thn_k ?_
        | refine swp_false rfl ?_
        | refine swp_block ?_
        | refine swp_exit ?_
        | refine swp_skip ?_
        )
      clear hF aa HT HO OP hi6
      have osC0 : OS HC (some ⟨bc, 0, none⟩) 7 7 3 1 (rowV 7 (c3 D od 6)) := by rw [← c3_6 (D := D) fun u hu => (hfull u (hlt u hu)).2]; exact osC
      refine swp_loopS (fun s : L3 => [(2, ptr βa), (3, ptr βb), (5, ptr βs), (6, .slice ob 6 oc), (8, .slice (some ⟨bc, 0, none⟩) 7 7), (14, i64 ((s.k : Int) - 1))])
        (fun s => [blk βa (.cells ⟨[u8 a0, u8 a1, u8 a2, u8 a3, u8 a4, u8 a5]⟩ 43 (0, 0)), blk βb (.cells ⟨[u8 d0, u8 d1, u8 d2, u8 d3, u8 d4, u8 d5]⟩ 43 (0, 0)), specB βs bt bo 7 7 1 1 ((6 : Nat) : Int), s.HT, s.HO, s.OP, HD, s.HC])
        (fun s => s.k ≤ 6 ∧ OS s.HC (some ⟨bc, 0, none⟩) 7 7 3 1 (rowV 7 (c3 D od s.k)) ∧ Au bt bo 7 7 1 1 s.HT s.HO s.OP (St3 D od s.k))
        (fun s => s.k) ⟨6, HT2, HO2, OP2, HC⟩ (by repeat first | exact Sub.nil _ | refine Sub.cons rfl ?_) ⟨by dsimp only; decide, osC0, aa2⟩ ?_
      clear aa2 HT2 HO2 OP2 osC0 osC slC lC HC
      rintro ⟨q, HT, HO, OP, HC⟩ ⟨hq, osC, aa⟩
      dsimp only at hq osC aa ⊢
      cases q with
      | zero =>
        have hs := p3_end (D := D) (od := od)
        repeat' (first
          | refine swp_seq ?_
          | (refine gk 0 rfl ?_; first | refine sl_op rfl rfl rfl (by first | exact opv_move rfl rfl | exact opv_assign rfl rfl ) ?_ )
          | (refine gk 2 rfl ?_; first | refine sl_no rfl rfl rfl (by first | exact opv_geq rfl rfl rfl ) (by first | omega ) ?_ )
          | (refine gk 4 rfl ?_; first | (refine sl_callT rfl rfl rfl rfl rfl rfl rfl rfl (seen0_is (r := ((6 : Nat) : Int)) aa (by decide) (by decide) (by decide) (-1) 0 (hr3 _) hs) ?_; rintro _ _ ⟨rfl, rfl⟩; refine ⟨_, _, rfl, rfl, ?_⟩))
          | refine sl_region rfl ?_
          | refine sl_nil ?_
          | refine thn_k ?_
          | refine swp_false rfl ?_
          | refine swp_ret ?_
          | refine swp_exit ?_
          )
        refine end_pure (resOk_one (resV_tmp rfl)) ?_
        rfl
      | succ j =>
        obtain ⟨t, ht⟩ : ∃ v, od[j]? = some v := ⟨_, List.getElem?_eq_getElem (by omega)⟩
        have ht6 : t < 6 := hlt t (List.mem_of_getElem? ht)
        have hz0 : (((j + 1 : Nat) : Int) - 1).toNat = ((j : Nat) : Int).toNat := by congr 1; omega
        have hOj : (natV od)[(((j + 1 : Nat) : Int) - 1).toNat * 1]? = some (i64 (t : Int)) := by rw [hz0]; exact natV_at ht
        have lDj : (((j + 1 : Nat) : Int) - 1).toNat * 1 < (natV od).length := by rw [lD, hl]; omega
        haveI slC := osC.sl
        have lC := rowV_length 7 (c3 D od (j + 1))
        have hCt : (rowV 7 (c3 D od (j + 1)))[((t : Nat) : Int).toNat * 1]? = some (i64 ((D t : Int) + 1)) := by rw [rowV_at (by omega), c3_at hnd ht]
        have hBi := hBt t ht6
        have hB3i := hB3 t ht6
        have hBwi := hBw t
        have hDt := hDle t
        have hg := p3_grant (D := D) hnd ht ht6
        have hs := p3_seen (D := D) (od := od) (j := j) (t := t)
        have hti := p3_timed (D := D) (od := od) (j := j) ht6 (by omega)
        have hba := p3_back (D := D) (od := od) (j := j) ht6 (by omega)
        have hrg : (St3g D od j t).rel = ((6 : Nat) : Int) := by rw [← hl]; rfl
        have hrk : ∀ k, (St3k D od j t k).rel = ((6 : Nat) : Int) := fun k => by rw [← hl]; rfl
        repeat' (first
          | refine sl_op rfl rfl rfl (opv_load rfl (by exact rfl) rfl hBi) ?_
          | refine sl_op rfl rfl rfl ((opv_rem rfl rfl rfl (by decide)).to hB3i) ?_
          | refine sl_op rfl rfl rfl ((opv_convert rfl rfl).to hBwi) ?_
          | (refine sl_storeE rfl rfl rfl rfl rfl osC rfl rfl rfl (Nat.succ_pos _) (by rw [lC]; simp; omega) (rowV_set (by omega)) (fun HC2 osC2 => ?_); haveI slC2 := osC2.sl)
          | refine swp_seq ?_
          | (refine gk 0 rfl ?_; first | refine sl_op rfl rfl rfl (by first | exact opv_move rfl rfl | exact opv_assign rfl rfl | exact opv_pick_f rfl rfl rfl | exact opv_not_t rfl rfl ) ?_ )
          | (refine gk 1 rfl ?_; first | refine sl_op rfl rfl rfl (by first | exact opv_add64 rfl rfl rfl (by omega) (by omega) ) ?_ )
          | (refine gk 2 rfl ?_; first | refine sl_yes rfl rfl rfl (by first | exact opv_geq rfl rfl rfl ) (by first | omega ) ?_ )
          | (refine gk 3 rfl ?_; first | refine sl_op rfl rfl rfl (by first | exact opv_indexAddrI rfl rfl rfl (by omega) (by omega) (by first | omega ) | exact opv_indexAddrR rfl rfl rfl (by omega) (by omega) | exact opv_loadEx rfl (by exact rfl) (by infer_instance) (by first | assumption ) ) ?_ )
          | (refine gk 4 rfl ?_; first | refine sl_op rfl rfl rfl (opv_call rfl rfl rfl rfl rfl (mkAct _ _ _)) ?_ | refine sl_op rfl rfl rfl (opv_call rfl rfl rfl rfl rfl (mkBack _ _ _ _)) ?_ | (refine sl_callT rfl rfl rfl rfl rfl rfl rfl rfl (take_is (r := ((6 : Nat) : Int)) (r' := ((6 : Nat) : Int)) (Ev.act' (t : Int) 5 0) [i64 1, i64 (t : Int), i64 0, i64 5, i64 0, i64 0, i64 0, i64 0] aa (by decide) (by decide) rfl hg (hr3 _) hrg) ?_; rintro _ _ ⟨rfl, HT2, HO2, OP2, rfl, aa2⟩; refine ⟨_, _, rfl, rfl, ?_⟩) | (refine sl_callT rfl rfl rfl rfl rfl rfl rfl rfl (seen0_is (r := ((6 : Nat) : Int)) aa2 (by decide) (by decide) (by decide) (t : Int) (1 + (D t : Int)) hrg hs) ?_; rintro _ _ ⟨rfl, rfl⟩; refine ⟨_, _, rfl, rfl, ?_⟩) | (refine sl_callT rfl rfl rfl rfl rfl rfl rfl rfl (take_is (r := ((6 : Nat) : Int)) (r' := ((6 : Nat) : Int)) (Ev.back (t : Int) ((D t : Int) + 1) 0 1) [i64 2, i64 (t : Int), i64 ((D t : Int) + 1), i64 0, i64 0, i64 0, i64 0, i64 1] aa2 (by decide) (by decide) rfl hti hrg hrg) ?_; rintro _ _ ⟨rfl, HT3, HO3, OP3, rfl, aa3⟩; refine ⟨_, _, rfl, rfl, ?_⟩) | (refine sl_callT rfl rfl rfl rfl rfl rfl rfl rfl (take_is (r := ((6 : Nat) : Int)) (r' := ((6 : Nat) : Int)) (Ev.back (t : Int) ((D t : Int) + 1) 0 0) [i64 2, i64 (t : Int), i64 ((D t : Int) + 1), i64 0, i64 0, i64 0, i64 0, i64 0] aa3 (by decide) (by decide) rfl hba hrg (hrk _)) ?_; rintro _ _ ⟨rfl, HT4, HO4, OP4, rfl, aa4⟩; refine ⟨_, _, rfl, rfl, ?_⟩))
          | refine sl_region rfl ?_
          | refine sl_nil ?_
          | refine thn_k ?_
          | refine swp_true rfl ?_
          | refine swp_false rfl ?_
          | refine swp_block ?_
          | refine swp_skip ?_
          )
        have osC3 : OS HC2 (some ⟨bc, 0, none⟩) 7 7 3 1 (rowV 7 (upI (c3 D od (j + 1)) t ((D t : Int) + 2 + ((0 : Nat) : Int)))) := by
          have e : (D t : Int) + 1 + 1 = (D t : Int) + 2 + ((0 : Nat) : Int) := by omega
          rw [← e]; exact osC2
        clear hg hs hti hba aa aa2 aa3 hCt slC slC2 osC osC2 lC hOj lDj
        refine swp_loopS (fun s : L3 => [(2, ptr βa), (3, ptr βb), (5, ptr βs), (6, .slice ob 6 oc), (8, .slice (some ⟨bc, 0, none⟩) 7 7), (14, i64 (((j + 1 : Nat) : Int) - 1)), (15, i64 (t : Int)), (16, i64 (s.k : Int))])
          (fun s => [blk βa (.cells ⟨[u8 a0, u8 a1, u8 a2, u8 a3, u8 a4, u8 a5]⟩ 43 (0, 0)), blk βb (.cells ⟨[u8 d0, u8 d1, u8 d2, u8 d3, u8 d4, u8 d5]⟩ 43 (0, 0)), specB βs bt bo 7 7 1 1 ((6 : Nat) : Int), s.HT, s.HO, s.OP, HD, s.HC])
          (fun s => s.k ≤ D t + 1 ∧ OS s.HC (some ⟨bc, 0, none⟩) 7 7 3 1 (rowV 7 (upI (c3 D od (j + 1)) t ((D t : Int) + 2 + (s.k : Int)))) ∧ Au bt bo 7 7 1 1 s.HT s.HO s.OP (St3k D od j t s.k))
          (fun s => D t + 1 - s.k) ⟨0, HT4, HO4, OP4, HC2⟩ (by repeat first | exact Sub.nil _ | refine Sub.cons rfl ?_) ⟨Nat.zero_le _, osC3, aa4⟩ ?_
        clear osC3 aa4 HT HO OP HC
        rintro ⟨k, HT, HO, OP, HC⟩ ⟨hk, osC, aa⟩
        dsimp only at hk osC aa ⊢
        haveI slC := osC.sl
        have lC := rowV_length 7 (upI (c3 D od (j + 1)) t ((D t : Int) + 2 + (k : Int)))
        have hCt : (rowV 7 (upI (c3 D od (j + 1)) t ((D t : Int) + 2 + (k : Int))))[((t : Nat) : Int).toNat * 1]? = some (i64 ((D t : Int) + 2 + (k : Int))) := by rw [rowV_at (by omega), upI_self]
        by_cases hk2 : k ≤ D t
        · have hF := p3_exit (D := D) (od := od) (j := j) ht6 (by omega) hk2
          repeat' (first
            | refine sl_op rfl rfl rfl (opv_load rfl (by exact rfl) rfl hBi) ?_
            | refine sl_op rfl rfl rfl ((opv_rem rfl rfl rfl (by decide)).to hB3i) ?_
            | refine sl_op rfl rfl rfl ((opv_convert rfl rfl).to hBwi) ?_
            | refine swp_seq ?_
            | (refine gk 0 rfl ?_; first | refine sl_op rfl rfl rfl (by first | exact opv_move rfl rfl ) ?_ )
            | (refine gk 2 rfl ?_; first | refine sl_yes rfl rfl rfl (by first | exact opv_leq rfl rfl rfl ) (by first | omega ) ?_ )
            | (refine gk 3 rfl ?_; first | refine sl_op rfl rfl rfl (by first | exact opv_indexAddrR rfl rfl rfl (by omega) (by omega) ) ?_ )
            | refine sl_region rfl ?_
            | refine sl_nil ?_
            | refine thn_k ?_
            | refine swp_true rfl ?_
            | refine swp_block ?_
            | refine swp_skip ?_
            )
          refine sl_drawC [.q [0, 1, 2, 3, 4, 5, 7, 9, 10, 11, 12, 13], .h false 6, .h false 8, .h false 14, .an 15, .rv 15, .h true 16, .q [17]] [] (by kernel_rfl) (by kernel_rfl) (by kernel_rfl) (by kernel_rfl) ?_
          repeat' (first
            | (refine sl_storeE rfl rfl rfl rfl rfl osC rfl rfl rfl (Nat.succ_pos _) (by rw [lC]; simp; omega) (rowV_set (by omega)) (fun HC2 osC2 => ?_); haveI slC2 := osC2.sl)
            | (refine gk 0 rfl ?_; first | refine sl_op rfl rfl rfl (by first | exact opv_move rfl rfl | exact opv_assign rfl rfl | exact opv_not_t rfl rfl ) ?_ )
            | (refine gk 1 rfl ?_; first | refine sl_op rfl rfl rfl (by first | exact opv_add64 rfl rfl rfl (by omega) (by omega) ) ?_ )
            | (refine gk 3 rfl ?_; first | refine sl_op rfl rfl rfl (by first | exact opv_indexAddrI rfl rfl rfl (by omega) (by omega) (by first | omega ) | exact opv_loadEx rfl (by exact rfl) (by infer_instance) (by first | assumption ) ) ?_ )
            | refine sl_region rfl ?_
            | refine chu_nil ?_
            | refine chu_q rfl ?_
            | refine chu_new rfl rfl (by first | exact new_buildSlice rfl rfl (by exact rfl) (by exact rfl) (by exact rfl) (by exact rfl) (by exact rfl)) ?_
            | refine chu_rv rfl rfl rfl (fun β => ?_)
            | refine chu_P rfl rfl rfl rfl rfl rfl rfl rfl (mkCall _ _ _ _) rfl ?_
            | refine chu_P rfl rfl rfl rfl rfl rfl rfl rfl (mkAct _ _ _) rfl ?_
            | refine chu_P rfl rfl rfl rfl rfl rfl rfl rfl (mkBack _ _ _ _) rfl ?_
            | (refine chu_Tc rfl rfl rfl rfl rfl rfl rfl rfl (takes_ok (r := ((6 : Nat) : Int)) (r' := ((6 : Nat) : Int)) [Ev.call (t : Int) ((D t : Int) + 2 + (k : Int)) 1 0, Ev.act' (t : Int) 1 0, Ev.back (t : Int) ((D t : Int) + 2 + (k : Int)) 0 0] [i64 0, i64 (t : Int), i64 ((D t : Int) + 2 + (k : Int)), i64 1, i64 0, i64 0, i64 0, i64 0, i64 1, i64 (t : Int), i64 0, i64 1, i64 0, i64 0, i64 0, i64 0, i64 2, i64 (t : Int), i64 ((D t : Int) + 2 + (k : Int)), i64 0, i64 0, i64 0, i64 0, i64 0] aa (by decide) (by decide) rfl rfl (by decide) hF (hrk _) (hrk _)) ?_; rintro _ _ ⟨rfl, HT2, HO2, OP2, rfl, aa2⟩; refine ⟨_, _, rfl, rfl, ?_⟩)
            | refine sl_nil ?_
            | refine thn_k ?_
            | refine swp_false rfl ?_
            | refine swp_skip ?_
            )
          have hkc : upI (upI (c3 D od (j + 1)) t ((D t : Int) + 2 + (k : Int))) t ((D t : Int) + 2 + (k : Int) + 1) = upI (c3 D od (j + 1)) t ((D t : Int) + 2 + ((k + 1 : Nat) : Int)) := upI_upI _ _ _ _
          rw [hkc] at osC2
          exact ⟨rfl, ⟨k + 1, HT2, HO2, OP2, HC2⟩, next_ok (by repeat first | exact Sub.nil _ | refine Sub.cons rfl ?_), ⟨by dsimp only; omega, osC2, aa2⟩, by dsimp only; omega⟩
        · have hkD : k = D t + 1 := by omega
          subst hkD
          have hkc : upI (c3 D od (j + 1)) t ((D t : Int) + 2 + ((D t + 1 : Nat) : Int)) = c3 D od j := c3_next hnd ht
          rw [hkc] at osC
          rw [st3_next (D := D) hnd ht ht6] at aa
          have ej : ((j + 1 : Nat) : Int) - 1 - 1 = (j : Int) - 1 := by omega
          repeat' (first
            | refine sl_op rfl rfl rfl (opv_load rfl (by exact rfl) rfl hBi) ?_
            | refine sl_op rfl rfl rfl ((opv_rem rfl rfl rfl (by decide)).to hB3i) ?_
            | refine sl_op rfl rfl rfl ((opv_convert rfl rfl).to hBwi) ?_
            | refine swp_seq ?_
            | (refine gk 0 rfl ?_; first | refine sl_op rfl rfl rfl (by first | exact opv_move rfl rfl | exact opv_assign rfl rfl ) ?_ )
            | (refine gk 1 rfl ?_; first | refine sl_op rfl rfl rfl (by first | exact opv_sub64 rfl rfl rfl (by omega) (by omega) ) ?_ )
            | (refine gk 2 rfl ?_; first | refine sl_no rfl rfl rfl (by first | exact opv_leq rfl rfl rfl ) (by first | omega ) ?_ )
            | (refine gk 3 rfl ?_; first | refine sl_op rfl rfl rfl (by first | exact opv_indexAddrR rfl rfl rfl (by omega) (by omega) ) ?_ )
            | refine sl_region rfl ?_
            | refine sl_nil ?_
            | refine thn_k ?_
            | refine swp_false rfl ?_
            | refine swp_exit ?_
            )
          rw [ej]
          exact ⟨rfl, ⟨j, HT, HO, OP, HC⟩, next_ok (by repeat first | exact Sub.nil _ | refine Sub.cons rfl ?_), ⟨by dsimp only; omega, osC, aa⟩, by dsimp only; omega⟩
end Go.Proofs.Ytimmclibnfdjhaa
