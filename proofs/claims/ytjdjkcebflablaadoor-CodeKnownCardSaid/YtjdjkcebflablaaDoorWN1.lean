/- What the law makes of a drawn image: its kinds, brought near; few of each: walked. -/
import Derived.Test.YtjdjkcebflablaaDoorWH7
set_option linter.unusedVariables false
set_option linter.unusedSimpArgs false
set_option linter.unusedSectionVars false
namespace Go.Proofs.YtjdjkcebflablaaDoor
open Go.SL
set_option maxRecDepth 100000
set_option maxHeartbeats 16000000
theorem flatI_take : ∀ (l : List Ins) (k : Nat), flatI (l.take k) = (flatI l).take (k * 3)
  | [], k => by simp [flatI]
  | x :: l, 0 => by simp [flatI]
  | x :: l, k + 1 => by
    have e : (k + 1) * 3 = k * 3 + 1 + 1 + 1 := by omega
    rw [e]
    simp only [List.take_succ_cons, flatI, flatI_take l k]
/-- A number, brought below another one. -/
def md (n : Int) (d : Nat) : Int := ((w64N n % d : Nat) : Int)
where w64N (n : Int) : Nat := (IntKind.u64.wrap n).toNat
theorem md_lt (n : Int) {d : Nat} (h : 0 < d) : 0 ≤ md n d ∧ md n d < d := by
  unfold md
  have := Nat.mod_lt (md.w64N n) h
  omega
theorem u64_nat (n : Int) : IntKind.u64.wrap n = ((md.w64N n : Nat) : Int) := by
  have : 0 ≤ IntKind.u64.wrap n := by
    simp only [IntKind.wrap, IntKind.bits, IntKind.signed, Bool.false_and, Bool.false_eq_true, if_false]
    omega
  unfold md.w64N; omega
theorem md_rem (n : Int) (d : Nat) : ((md.w64N n : Nat) : Int).tmod (d : Int) = md n d := by
  rw [Int.tmod_eq_emod_of_nonneg (by omega)]
  unfold md; omega
theorem md_back (n : Int) {d : Nat} (h : 0 < d) (h2 : d ≤ 1000) : IntKind.i64.wrap (md n d) = md n d := by
  have := md_lt n h
  exact wrap64_id (by omega) (by omega)
def kF (most cl : Nat) (l : List Int) : List Int := (l.take most).map fun k => md k (cl + 1)
theorem kF_len (most cl : Nat) (l : List Int) : (kF most cl l).length = min most l.length := by simp [kF]
theorem kF_snoc {j cl : Nat} {l : List Int} {z : Int} (h : l[j]? = some z) : kF (j + 1) cl l = kF j cl l ++ [md z (cl + 1)] := by
  unfold kF
  rw [List.take_add_one, h]
  simp
attribute [local irreducible] SL.T PFn OpV SOL SWP HOp ChU
-- ALIAS Tryd
-- USE_L4
-- USE_L1
structure SNK where
  j : Nat
  h : Heap
  b : Option Addr
  c : Nat
theorem nkinds_calls (J : Heap) (b : Option Addr) (n c cl : Nat) (l : List Int) [Sl J b (l.map i64)] (hl : l.length = n) (hn : n ≤ 9223372036854775807) (hcl : cl ≤ 900) :
    SL.T Tryd.prog 17 [.slice b n c, i64 4, i64 (cl : Int)] [J] fun e o => ∃ (h : Heap) (b' : Option Addr) (c' : Nat), e = .returned (.slice b' (kF 4 cl l).length c') ∧ OS h b' (kF 4 cl l).length c' 50 1 ((kF 4 cl l).map i64) ∧ o = [J, h] := by
  have hc1 : ∀ n, Value.int .u64 (IntKind.u64.wrap n) = .int .u64 ((md.w64N n : Nat) : Int) := fun n => by rw [u64_nat]
  have hc2 : Value.int .u64 (IntKind.u64.wrap ((cl : Int) + 1)) = .int .u64 ((cl + 1 : Nat) : Int) := by
    rw [show ((cl : Int) + 1) = ((cl + 1 : Nat) : Int) by omega, wrap_u64' (by omega)]
  have hr : ∀ n, Value.int .u64 (((md.w64N n : Nat) : Int).tmod ((cl + 1 : Nat) : Int)) = .int .u64 (md n (cl + 1)) := fun n => by rw [md_rem]
  have hb : ∀ n, Value.int .i64 (IntKind.i64.wrap (md n (cl + 1))) = i64 (md n (cl + 1)) := fun n => by rw [md_back n (by omega) (by omega)]
  refine t_of_body Tryd.func17 rfl (Nat.le_of_ble_eq_true rfl) fun F => ?_
  refine swp_emp ?_
  repeat' (first
    | refine swp_seq ?_
    | (refine gk 0 rfl ?_; first | refine sl_op rfl rfl rfl (by first | exact opv_assign rfl rfl ) ?_ )
    | refine sl_region rfl ?_
    | refine sl_nil ?_
    | refine thn_k ?_
    | refine swp_block ?_
    )
  refine swp_loopS (fun t : SNK => [(0, .slice b n c), (1, i64 4), (2, i64 (cl : Int)), (7, .slice t.b t.j t.c), (8, i64 (t.j : Int))])
    (fun t => [t.h, J]) (fun t => t.j ≤ n ∧ t.j ≤ 4 ∧ OS t.h t.b t.j t.c 50 1 ((kF t.j cl l).map i64)) (fun t => n - t.j) ⟨0, emp, none, 0⟩ (by repeat first | exact Sub.nil _ | refine Sub.cons rfl ?_) ⟨Nat.zero_le _, Nat.zero_le _, OS.nil⟩ ?_
  rintro ⟨j, h, b1, c1⟩ ⟨hj, hj4, os⟩
  dsimp only at hj hj4 os ⊢
  by_cases hgo : j < n ∧ j < 4
  · obtain ⟨h1, h2⟩ := hgo
    obtain ⟨z, hz⟩ : ∃ z, l[j]? = some z := ⟨_, List.getElem?_eq_getElem (by omega)⟩
    have hk : ((j : Nat) : Int).toNat * 1 < (l.map i64).length := by simp; omega
    have hcz : (l.map i64)[((j : Nat) : Int).toNat * 1]? = some (i64 z) := by simp [hz]
    have hbz := hb z
    repeat' (first
      | refine sl_op rfl rfl rfl ((opv_convert rfl rfl).to hbz) ?_
      | refine sl_op rfl rfl rfl ((opv_convert rfl rfl).to hc2) ?_
      | refine sl_op rfl rfl rfl ((opv_convert rfl rfl).to (hc1 _)) ?_
      | refine sl_op rfl rfl rfl ((opv_rem rfl rfl rfl (by omega)).to (hr _)) ?_
      | refine swp_seq ?_
      | (refine gk 0 rfl ?_; first | refine sl_op rfl rfl rfl (by first | exact opv_move rfl rfl | exact opv_assign rfl rfl | exact opv_pick_t rfl rfl rfl ) ?_ )
      | (refine gk 1 rfl ?_; first | refine sl_op rfl rfl rfl (by first | exact opv_add64 rfl rfl rfl (by omega) (by omega) ) ?_ )
      | (refine gk 2 rfl ?_; first | refine sl_yes rfl rfl rfl (by first | exact opv_lss rfl rfl rfl ) (by first | omega ) ?_ )
      | (refine gk 3 rfl ?_; first | refine sl_op rfl rfl rfl (by first | exact opv_indexAddrI rfl rfl rfl (by omega) (by omega) (by first | omega ) | exact opv_loadEx rfl (by exact rfl) (by infer_instance) (by first | assumption ) ) ?_ )
      | (refine gk 4 rfl ?_; first | refine sl_op rfl rfl rfl (by first | exact opv_len rfl rfl rfl rfl rfl ) ?_ | refine sl_appendG rfl rfl rfl rfl rfl rfl rfl rfl rfl (by assumption) (by first | rfl ) (by decide) (by first | rfl ) (by omega) (by omega) (fun h' b' c' os' hb' => ?_))
      | (refine gk 5 rfl ?_; first | refine sl_buildSlice rfl rfl rfl rfl rfl (by exact rfl) (by exact rfl) (by exact rfl) (by exact rfl) rfl (fun b => ?_) )
      | refine sl_region rfl ?_
      | refine sl_nil ?_
      | refine thn_k ?_
      | refine swp_true rfl ?_
      | refine swp_block ?_
      | refine swp_skip ?_
      )
    refine ⟨rfl, ⟨j + 1, h', b', c'⟩, next_ok (by repeat first | exact Sub.nil _ | refine Sub.cons rfl ?_), ⟨by dsimp only; omega, by dsimp only; omega, ?_⟩, by dsimp only; omega⟩
    dsimp only
    rw [kF_snoc hz, List.map_append]
    exact os'
  · have e : kF 4 cl l = kF j cl l := by
      unfold kF
      by_cases h1 : j < n
      · obtain rfl : j = 4 := by omega
        rfl
      · rw [List.take_of_length_le (by omega), List.take_of_length_le (by omega)]
    have hlen : (kF j cl l).length = j := by rw [kF_len]; omega
    rw [e, hlen]
    by_cases h1 : j < n
    · repeat' (first
        | refine swp_seq ?_
        | (refine gk 0 rfl ?_; first | refine sl_op rfl rfl rfl (by first | exact opv_move rfl rfl | exact opv_assign rfl rfl | exact opv_pick_t rfl rfl rfl ) ?_ )
        | (refine gk 2 rfl ?_; first | refine sl_yes rfl rfl rfl (by first | exact opv_lss rfl rfl rfl ) (by first | omega ) ?_ | refine sl_no rfl rfl rfl (by first | exact opv_lss rfl rfl rfl ) (by first | omega ) ?_ )
        | (refine gk 4 rfl ?_; first | refine sl_op rfl rfl rfl (by first | exact opv_len rfl rfl rfl rfl rfl ) ?_)
        | refine sl_region rfl ?_
        | refine sl_nil ?_
        | refine thn_k ?_
        | refine swp_false rfl ?_
        | refine swp_ret ?_
        | refine swp_exit ?_
        )
      exact end_retZ [J, h] (resOk_one (resV_tmp rfl)) ⟨h, b1, c1, rfl, os, rfl⟩
    · repeat' (first
        | refine swp_seq ?_
        | (refine gk 0 rfl ?_; first | refine sl_op rfl rfl rfl (by first | exact opv_move rfl rfl | exact opv_assign rfl rfl | exact opv_pick_f rfl rfl rfl ) ?_ | refine sl_pass rfl rfl rfl rfl ?_)
        | (refine gk 2 rfl ?_; first | refine sl_pass rfl rfl rfl rfl ?_ | refine sl_no rfl rfl rfl (by first | exact opv_lss rfl rfl rfl ) (by first | omega ) ?_ )
        | (refine gk 4 rfl ?_; first | refine sl_op rfl rfl rfl (by first | exact opv_len rfl rfl rfl rfl rfl ) ?_)
        | refine sl_region rfl ?_
        | refine sl_nil ?_
        | refine thn_k ?_
        | refine swp_false rfl ?_
        | refine swp_ret ?_
        | refine swp_exit ?_
        )
      exact end_retZ [J, h] (resOk_one (resV_tmp rfl)) ⟨h, b1, c1, rfl, os, rfl⟩
/-! Few of each. -/
def MsQ (K : Heap) (ms : List Me) (vals : List Value) : Prop :=
  vals.length = ms.length * 4 ∧ ∀ (i : Nat) (m : Me), ms[i]? = some m → ∃ pb pn pc cb cn cc, vals[i * 4]? = some (.slice pb pn pc) ∧ vals[i * 4 + 1]? = some (i64 m.lo) ∧ vals[i * 4 + 2]? = some (i64 m.st) ∧ vals[i * 4 + 3]? = some (.slice cb cn cc) ∧
    Sl K pb (m.params.map i64) ∧ m.params.length = pn ∧ pn ≤ 9223372036854775807 ∧ Sl K cb (flatI m.code) ∧ m.code.length = cn ∧ cn ≤ cc ∧ cn ≤ 9223372036854775807
theorem MsQ.nil {K : Heap} : MsQ K [] [] := ⟨rfl, fun i f h => by simp at h⟩
theorem MsQ.mono {K K' : Heap} {ms : List Me} {vals : List Value} (h : MsQ K ms vals) (l : hle K K') : MsQ K' ms vals := by
  refine ⟨h.1, fun i m hm => ?_⟩
  obtain ⟨pb, pn, pc, cb, cn, cc, g1, g2, g3, g4, g5, g6, g7, g8, g9, g10, g11⟩ := h.2 i m hm
  exact ⟨pb, pn, pc, cb, cn, cc, g1, g2, g3, g4, g5.mono l, g6, g7, g8.mono l, g9, g10, g11⟩
theorem MsQ.snoc {K : Heap} {ms : List Me} {vals : List Value} {m : Me} {pb cb : Option Addr} {pn pc cn cc : Nat} (h : MsQ K ms vals) (h1 : Sl K pb (m.params.map i64)) (h2 : m.params.length = pn) (h3 : pn ≤ 9223372036854775807) (h4 : Sl K cb (flatI m.code)) (h5 : m.code.length = cn) (h6 : cn ≤ cc) (h7 : cn ≤ 9223372036854775807) :
    MsQ K (ms ++ [m]) (vals ++ [.slice pb pn pc, i64 m.lo, i64 m.st, .slice cb cn cc]) := by
  obtain ⟨a1, a2⟩ := h
  refine ⟨by simp [a1]; omega, fun i m' hm' => ?_⟩
  by_cases hi : i < ms.length
  · rw [List.getElem?_append_left hi] at hm'
    obtain ⟨pb', pn', pc', cb', cn', cc', g1, g2, g3, g4, g5⟩ := a2 i m' hm'
    refine ⟨pb', pn', pc', cb', cn', cc', ?_, ?_, ?_, ?_, g5⟩
    all_goals (rw [List.getElem?_append_left (by omega)]; assumption)
  · have hi2 : i = ms.length := by
      have := (List.getElem?_eq_some_iff.1 hm').1
      simp at this; omega
    subst hi2
    simp at hm'; subst hm'
    obtain ⟨q0, q1, q2, q3⟩ := vals_at (v0 := .slice pb pn pc) (v1 := i64 m.lo) (v2 := i64 m.st) (v3 := .slice cb cn cc) a1
    exact ⟨pb, pn, pc, cb, cn, cc, q0, q1, q2, q3, h1, h2, h3, h4, h5, h6, h7⟩
def cutM (m : Me) : Me := ⟨m.params, m.lo, m.st, m.code.take 40⟩
def fewI (x : Im) : Im := ⟨x.cls.take 40, (x.ms.take 40).map cutM⟩
structure SNF where
  j : Nat
  h : Heap
  b : Option Addr
  c : Nat
  vals : List Value
theorem few_calls (J : Heap) (x : Im) (v : Value) (hx : ImIn J x v) :
    SL.T Tryd.prog 6 [v] [J] fun e o => ∃ (h : Heap) (w : Value), e = .returned w ∧ o = [J, h] ∧ (∃ a b c d e f, w = .agg ⟨[.slice a b c, .slice d e f]⟩) ∧ ∀ L, hle J L → hle h L → ImIn L (fewI x) w := by
  obtain ⟨clb, cln, clc, mb, mn, mc, rfl, hc, hm, hl1, hl2⟩ := hx
  obtain ⟨mv, sm, hmv, hml, hmn, hmf⟩ := hm
  haveI := sm
  have hcln : cln ≤ 9223372036854775807 := by obtain ⟨_, _, _, _, h, _⟩ := hc; exact h
  obtain ⟨q, hq, hq2⟩ : ∃ q : Nat, min (cln : Int) 40 = (q : Int) ∧ q = min cln 40 := ⟨min cln 40, by omega, rfl⟩
  refine t_of_body Tryd.func6 rfl (Nat.le_of_ble_eq_true rfl) fun F => ?_
  refine swp_emp ?_
  repeat' (first
    | refine sl_op rfl rfl rfl ((opv_min rfl rfl rfl rfl rfl).to (congrArg (Value.int .i64) hq)) ?_
    | refine swp_seq ?_
    | (refine gk 0 rfl ?_; first | refine sl_op rfl rfl rfl (by first | exact opv_assign rfl rfl ) ?_ )
    | (refine gk 3 rfl ?_; first | refine sl_op rfl rfl rfl (by first | exact opv_load rfl (by exact rfl) rfl (by exact rfl) | exact opv_fieldAddr rfl rfl ) ?_ )
    | (refine gk 4 rfl ?_; first | refine sl_op rfl rfl rfl (by first | exact opv_len rfl rfl rfl rfl rfl ) ?_)
    | (refine gk 5 rfl ?_; first | refine sl_op rfl rfl rfl (by first | exact opv_build rfl rfl (by exact rfl) | exact opv_sliceHi rfl rfl rfl (by omega) (by omega) ) ?_ | refine sl_box rfl rfl rfl rfl rfl rfl (fun β => ?_) | refine sl_alloc rfl rfl rfl rfl (by exact rfl) (fun β => ?_) | refine sl_store rfl rfl rfl rfl rfl rfl (by exact rfl) rfl (by exact rfl) ?_)
    | refine sl_region rfl ?_
    | refine sl_nil ?_
    | refine thn_k ?_
    | refine swp_block ?_
    )
  rename_i βx βr
  rename Nat => βo
  refine swp_loopS (fun t : SNF => [(1, ptr βx), (2, ptr βr), (3, ptr βo), (4, i64 (t.j : Int))])
    (fun t => [t.h, blk βo (.cells ⟨[.slice clb (q : Int).toNat clc, .slice t.b t.j t.c]⟩ 25 (0, 0)), blk βr (.cells ⟨[.slice none 0 0, .slice none 0 0]⟩ 25 (0, 0)), blk βx (.cells ⟨[.slice clb cln clc, .slice mb mn mc]⟩ 25 (0, 0)), J])
    (fun t => t.j ≤ mn ∧ t.j ≤ 40 ∧ OS t.h t.b t.j t.c 56 4 t.vals ∧ MsQ J ((x.ms.take t.j).map cutM) t.vals) (fun t => mn - t.j) ⟨0, emp, none, 0, []⟩ (by repeat first | exact Sub.nil _ | refine Sub.cons rfl ?_) ⟨Nat.zero_le _, Nat.zero_le _, OS.nil, MsQ.nil⟩ ?_
  rintro ⟨j, h, b, c, vals⟩ ⟨hj, hj4, os, hQ⟩
  dsimp only at hj hj4 os hQ ⊢
  by_cases hgo : j < mn ∧ j < 40
  · obtain ⟨hg1, hg2⟩ := hgo
    obtain ⟨m, hm⟩ : ∃ z, x.ms[j]? = some z := ⟨_, List.getElem?_eq_getElem (by omega)⟩
    obtain ⟨pb, pn, pc, cb, cn, cc, a1, a2, a3, a4, a5, a6, a7, a8, a9, a10, a11⟩ := hmf j m hm
    have hk : ((j : Nat) : Int).toNat * 4 < mv.length := by simp; omega
    have hx0 : mv[((j : Nat) : Int).toNat * 4]? = some (.slice pb pn pc) := by simpa using a1
    have hx1 : mv[((j : Nat) : Int).toNat * 4 + 1]? = some (i64 m.lo) := by simpa using a2
    have hx2 : mv[((j : Nat) : Int).toNat * 4 + 2]? = some (i64 m.st) := by simpa using a3
    have hx3 : mv[((j : Nat) : Int).toNat * 4 + 3]? = some (.slice cb cn cc) := by simpa using a4
    obtain ⟨r, hr, hr2⟩ : ∃ r : Nat, min (cn : Int) 40 = (r : Int) ∧ r = min cn 40 := ⟨min cn 40, by omega, rfl⟩
    repeat' (first
      | refine sl_op rfl rfl rfl ((opv_min rfl rfl rfl rfl rfl).to (congrArg (Value.int .i64) hr)) ?_
      | refine swp_seq ?_
      | (refine gk 0 rfl ?_; first | refine sl_op rfl rfl rfl (by first | exact opv_move rfl rfl | exact opv_assign rfl rfl | exact opv_pick_t rfl rfl rfl ) ?_ )
      | (refine gk 1 rfl ?_; first | refine sl_op rfl rfl rfl (by first | exact opv_add64 rfl rfl rfl (by omega) (by omega) ) ?_ )
      | (refine gk 2 rfl ?_; first | refine sl_yes rfl rfl rfl (by first | exact opv_lss rfl rfl rfl ) (by first | omega ) ?_ )
      | (refine gk 3 rfl ?_; first | refine sl_op rfl rfl rfl (by first | exact opv_load rfl (by exact rfl) rfl (by exact rfl) | exact opv_fieldAddr rfl rfl | exact opv_loadA rfl (by exact rfl) rfl (by exact rfl) (by exact rfl) | exact opv_indexAddrI rfl rfl rfl (by omega) (by omega) (by first | omega ) | exact opv_load4 rfl (by exact rfl) (by infer_instance) (by assumption) (by assumption) (by assumption) (by assumption) ) ?_ )
      | (refine gk 4 rfl ?_; first | refine sl_op rfl rfl rfl (by first | exact opv_len rfl rfl rfl rfl rfl ) ?_ | refine sl_appendG rfl rfl rfl rfl rfl rfl rfl rfl rfl (by assumption) (by first | rfl ) (by decide) (by first | rfl ) (by omega) (by omega) (fun h' b' c' os' hb' => ?_))
      | (refine gk 5 rfl ?_; first | refine sl_op rfl rfl rfl (by first | exact opv_sliceHi rfl rfl rfl (by omega) (by omega) ) ?_ | refine sl_buildSlice rfl rfl rfl rfl rfl (by exact rfl) (by exact rfl) (by exact rfl) (by exact rfl) rfl (fun b => ?_) | refine sl_alloc rfl rfl rfl rfl (by exact rfl) (fun β => ?_) | refine sl_store rfl rfl rfl rfl rfl rfl (by exact rfl) rfl (by exact rfl) ?_)
      | refine sl_region rfl ?_
      | refine sl_nil ?_
      | refine thn_k ?_
      | refine swp_true rfl ?_
      | refine swp_block ?_
      | refine swp_skip ?_
      )
    refine ⟨rfl, ⟨j + 1, h', b', c', _⟩, next_ok (by repeat first | exact Sub.nil _ | refine Sub.cons rfl ?_), ⟨by dsimp only; omega, by dsimp only; omega, os', ?_⟩, by dsimp only; omega⟩
    dsimp only
    rw [List.take_add_one, hm, List.map_append]
    refine hQ.snoc a5 a6 a7 ?_ ?_ ?_ ?_
    · show Sl J cb (flatI (m.code.take 40))
      rw [flatI_take]; exact a8.take _
    · show (m.code.take 40).length = _
      rw [List.length_take]; omega
    · omega
    · omega
  · have e : x.ms.take 40 = x.ms.take j := by
      by_cases h1 : j < mn
      · obtain rfl : j = 40 := by omega
        rfl
      · rw [List.take_of_length_le (by omega), List.take_of_length_le (by omega)]
    have hfin : ∀ L, hle J L → hle h L → ImIn L (fewI x) (.agg ⟨[.slice clb (q : Int).toNat clc, .slice b j c]⟩) := by
      intro L hJ hh
      obtain ⟨cv, scv, hcv, hcl, -, hcf⟩ := hc
      refine ⟨clb, (q : Int).toNat, clc, b, j, c, rfl, ⟨cv.take 40, (scv.take 40).mono hJ, by rw [List.length_take]; omega, by rw [fewI, List.length_take]; omega, by omega, fun i f hf => ?_⟩, ⟨vals, os.sl.mono hh, os.hlen, ?_, by omega, fun i m hm => ?_⟩, by omega, os.hle⟩
      · simp only [fewI, List.getElem?_take] at hf
        split at hf
        · rename_i hi
          obtain ⟨fb, fn, fc, g1, g2, g3⟩ := hcf i f hf
          exact ⟨fb, fn, fc, by rw [List.getElem?_take, if_pos hi]; exact g1, g2.mono hJ, g3⟩
        · cases hf
      · simp only [fewI, List.length_map, List.length_take]
        have := congrArg List.length e
        simp only [List.length_take] at this
        omega
      · simp only [fewI] at hm
        rw [e] at hm
        obtain ⟨pb, pn, pc, cb, cn, cc, g1, g2, g3, g4, g5, g6, g7, g8, g9, g10, g11⟩ := hQ.2 i m hm
        exact ⟨pb, pn, pc, cb, cn, cc, g1, g2, g3, g4, g5.mono hJ, g6, g7, g8.mono hJ, g9, g10, g11⟩
    by_cases h1 : j < mn
    · repeat' (first
        | refine swp_seq ?_
        | (refine gk 0 rfl ?_; first | refine sl_op rfl rfl rfl (by first | exact opv_move rfl rfl | exact opv_pick_t rfl rfl rfl ) ?_ )
        | (refine gk 2 rfl ?_; first | refine sl_yes rfl rfl rfl (by first | exact opv_lss rfl rfl rfl ) (by first | omega ) ?_ | refine sl_no rfl rfl rfl (by first | exact opv_lss rfl rfl rfl ) (by first | omega ) ?_ )
        | (refine gk 3 rfl ?_; first | refine sl_op rfl rfl rfl (by first | exact opv_load rfl (by exact rfl) rfl (by exact rfl) | exact opv_fieldAddr rfl rfl | exact opv_loadA rfl (by exact rfl) rfl (by exact rfl) (by exact rfl) ) ?_ )
        | (refine gk 4 rfl ?_; first | refine sl_op rfl rfl rfl (by first | exact opv_len rfl rfl rfl rfl rfl ) ?_)
        | (refine gk 5 rfl ?_; first | refine sl_store rfl rfl rfl rfl rfl rfl (by exact rfl) rfl (by exact rfl) ?_)
        | refine sl_region rfl ?_
        | refine sl_nil ?_
        | refine thn_k ?_
        | refine swp_false rfl ?_
        | refine swp_ret ?_
        | refine swp_exit ?_
        )
      exact end_retZ [J, h] (resOk_one (resV_cellA rfl rfl rfl rfl)) ⟨h, _, rfl, rfl, ⟨_, _, _, _, _, _, rfl⟩, hfin⟩
    · repeat' (first
        | refine swp_seq ?_
        | (refine gk 0 rfl ?_; first | refine sl_op rfl rfl rfl (by first | exact opv_move rfl rfl | exact opv_pick_f rfl rfl rfl ) ?_ | refine sl_pass rfl rfl rfl rfl ?_)
        | (refine gk 2 rfl ?_; first | refine sl_pass rfl rfl rfl rfl ?_ | refine sl_no rfl rfl rfl (by first | exact opv_lss rfl rfl rfl ) (by first | omega ) ?_ )
        | (refine gk 3 rfl ?_; first | refine sl_op rfl rfl rfl (by first | exact opv_load rfl (by exact rfl) rfl (by exact rfl) | exact opv_fieldAddr rfl rfl | exact opv_loadA rfl (by exact rfl) rfl (by exact rfl) (by exact rfl) ) ?_ )
        | (refine gk 4 rfl ?_; first | refine sl_op rfl rfl rfl (by first | exact opv_len rfl rfl rfl rfl rfl ) ?_)
        | (refine gk 5 rfl ?_; first | refine sl_store rfl rfl rfl rfl rfl rfl (by exact rfl) rfl (by exact rfl) ?_)
        | refine sl_region rfl ?_
        | refine sl_nil ?_
        | refine thn_k ?_
        | refine swp_false rfl ?_
        | refine swp_ret ?_
        | refine swp_exit ?_
        )
      exact end_retZ [J, h] (resOk_one (resV_cellA rfl rfl rfl rfl)) ⟨h, _, rfl, rfl, ⟨_, _, _, _, _, _, rfl⟩, hfin⟩
end Go.Proofs.YtjdjkcebflablaaDoor
