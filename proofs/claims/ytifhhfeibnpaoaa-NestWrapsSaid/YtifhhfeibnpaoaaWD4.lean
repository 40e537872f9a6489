/- Methods that are drawn: Method, walked. -/
import Derived.Test.YtifhhfeibnpaoaaWD3
namespace Go.Proofs.Ytifhhfeibnpaoaa
open Go.SL
set_option maxRecDepth 100000
set_option maxHeartbeats 16000000
set_option linter.unusedVariables false
def opsL : List Int := [2, 12, 13, 3, 14, 20, 6, 7, 0, 15]
/-- The code that is drawn. -/
def drawF (B : List Int) : List Ins := joinF 0 [(pieceF B (1 + nextV B 0 % 4).toNat 1 0).1, [(0, 0, 0)], [(20, 0, 0)]]
/-- One thing is otherwise in it. -/
def oddF (l : List Ins) (at8 x0 x1 : Int) : List Ins := l.set (at8 % l.length).toNat (opsL.getD (x0 % 10).toNat 0, x1 % max 4 (l.length : Int), 0)
def methF (B : List Int) (odd : Bool) (at8 x0 x1 : Int) : List Ins := if odd then oddF (drawF B) at8 x0 x1 else drawF B
theorem drawF_len (B : List Int) : (drawF B).length = (pieceF B (1 + nextV B 0 % 4).toNat 1 0).1.length + 2 := by
  unfold drawF; rw [joinF_length]; simp
theorem methF_len (B : List Int) (odd : Bool) (at8 x0 x1 : Int) : (methF B odd at8 x0 x1).length = (drawF B).length := by
  unfold methF oddF; split <;> simp
theorem deepF {B : List Int} (hB : ∀ x ∈ B, 0 ≤ x ∧ x ≤ 255) : 1 ≤ 1 + nextV B 0 % 4 ∧ 1 + nextV B 0 % 4 ≤ 4 := by
  have := nextV_byte hB 0; omega
theorem mostL_mono : ∀ {a b : Nat}, a ≤ b → mostL a ≤ mostL b
  | 0, b, _ => mostL_ge b
  | a + 1, 0, h => absurd h (by omega)
  | a + 1, b + 1, h => by have := mostL_mono (Nat.le_of_succ_le_succ h); simp only [mostL]; omega
theorem mostN_mono : ∀ {a b : Nat}, a ≤ b → mostN a ≤ mostN b
  | 0, b, _ => mostN_ge b
  | a + 1, 0, h => absurd h (by omega)
  | a + 1, b + 1, h => by have := mostN_mono (Nat.le_of_succ_le_succ h); simp only [mostN]; omega
theorem drawF_lt {B : List Int} (hB : ∀ x ∈ B, 0 ≤ x ∧ x ≤ 255) : (drawF B).length ≤ 102 := by
  have hd := deepF hB
  have hm : mostL (1 + nextV B 0 % 4).toNat ≤ 100 := Nat.le_trans (mostL_mono (b := 4) (by omega)) (by decide)
  have := (pieceF_fit2 hB _ 1 0 hm (by omega) (by omega)).len
  rw [drawF_len]; omega
theorem set_ins {l : List Ins} {k j : Nat} {o a b : Int} (e : k = j * 3) (hk : j < l.length) : (flatI l).take k ++ [i64 o, i64 a, i64 b] ++ (flatI l).drop (k + 3) = flatI (l.set j (o, a, b)) := by
  subst e
  induction l generalizing j with
  | nil => exact absurd hk (Nat.not_lt_zero _)
  | cons y r ih =>
    obtain ⟨y0, y1, y2⟩ := y
    cases j with
    | zero => simp [flatI]
    | succ j =>
      have := ih (j := j) (Nat.lt_of_succ_lt_succ hk)
      simp only [Nat.succ_mul, flatI, List.set_cons_succ] at this ⊢
      simpa using this
/-- What a method is left as. -/
def MQ (J : Heap) (βd : Nat) (bb : Option Addr) (bl bc : Nat) (odd at8 x0 x1 : Value) (l : List Ins) (e : Ending) (o : List Heap) : Prop :=
  ∃ hP b c a, o = [dBlk βd bb bl bc odd at8 x0 x1 a, J, hP] ∧ e = .returned (mth (.slice none 0 0) 8 8 b l.length c) ∧ OS hP b l.length c 29 3 (flatI l)
attribute [local irreducible] SL.T PFn OpV SOL SWP HOp ChU
section
variable (J : Heap) (βd : Nat) (bb : Option Addr) (bl bc : Nat) (B : List Int) [Sl J bb (B.map u8)] (hl : B.length = bl) (hB : ∀ x ∈ B, 0 ≤ x ∧ x ≤ 255)
include hl hB
theorem Method_even (at8 x0 x1 : Value) (v0 : Int) :
    SL.T Try.prog 7 [.pointer (some ⟨βd, 0, none⟩)] [dBlk βd bb bl bc (.bool false) at8 x0 x1 v0, J] (MQ J βd bb bl bc (.bool false) at8 x0 x1 (drawF B)) := by
  have hb0 := nextV_byte hB 0
  have hd := deepF hB
  have hm : mostL (1 + nextV B 0 % 4).toNat ≤ 100 := Nat.le_trans (mostL_mono (b := 4) (by omega)) (Nat.le_of_ble_eq_true rfl)
  have hmn : mostN (1 + nextV B 0 % 4).toNat ≤ mostN 4 := mostN_mono (by omega)
  have hmn4 : mostN 4 = 93 := rfl
  have hcall := piece_calls J βd bb bl bc (.bool false) at8 x0 x1 B hl hB (1 + nextV B 0 % 4).toNat (1 + nextV B 0 % 4) (0 + 1) 0 (by omega) hm (by omega) (by omega) (by omega) (by omega)
  have hfit := pieceF_fit2 hB (1 + nextV B 0 % 4).toNat (0 + 1) 0 hm (by omega) (by omega)
  have hdl := drawF_lt hB
  obtain ⟨p, hp⟩ : ∃ p, p = pieceF B (1 + nextV B 0 % 4).toNat (0 + 1) 0 := ⟨_, rfl⟩
  have hdr : drawF B = joinF 0 [p.1, [(0, 0, 0)], [(20, 0, 0)]] := by unfold drawF; rw [hp]; rfl
  rw [← hp] at hcall
  rw [← hp] at hfit
  rw [hdr] at hdl ⊢
  obtain ⟨p, v⟩ := p
  dsimp only at hcall hfit hdl ⊢
  obtain ⟨hF1, hF2⟩ := okA (ls := [p, [(0, 0, 0)], [(20, 0, 0)]]) (by
    intro l hl
    simp only [List.mem_cons, List.not_mem_nil, or_false] at hl
    rcases hl with rfl | rfl | rfl <;> first | exact hfit | exact fit1 (by omega)) (by simp)
  refine t_of_body Try.func7 rfl (Nat.le_of_ble_eq_true rfl) fun F => ?_
  repeat' (first
    | refine sl_op rfl rfl rfl (opv_remE rfl rfl rfl (by omega) (by omega)) ?_
    | refine swp_seq ?_
    | (refine gk 0 rfl ?_; first | refine sl_op rfl rfl rfl (by first | exact opv_move rfl rfl | exact opv_assign rfl rfl | exact opv_pick_f rfl rfl rfl ) ?_ | refine sl_pass rfl rfl rfl rfl ?_)
    | (refine gk 1 rfl ?_; first | refine sl_op rfl rfl rfl (by first | exact opv_add64 rfl rfl rfl (by omega) (by omega) ) ?_ )
    | (refine gk 2 rfl ?_; first | refine sl_pass rfl rfl rfl rfl ?_ )
    | (refine gk 3 rfl ?_; first | refine sl_op rfl rfl rfl (by first | exact opv_load rfl (by exact rfl) rfl (by exact rfl) | exact opv_fieldAddr rfl rfl ) ?_ )
    | (refine gk 4 rfl ?_; first | refine sl_pass rfl rfl rfl rfl ?_ | (refine sl_callT rfl rfl rfl rfl rfl rfl rfl rfl (next_calls J βd bb bl bc (.bool false) at8 x0 x1 0 B hl hB (by omega) (by omega)) ?_; rintro _ _ ⟨rfl, rfl⟩; refine ⟨_, _, rfl, rfl, ?_⟩) | (refine sl_callT rfl rfl rfl rfl rfl rfl rfl rfl (hcall) ?_; rintro _ _ ⟨hP, bP, cP, rfl, rfl, osP⟩; haveI := osP.sl; refine ⟨_, _, rfl, rfl, ?_⟩) | (refine sl_callT rfl rfl rfl rfl rfl rfl rfl rfl (one_calls _ _) ?_; rintro _ _ ⟨hO, bO, rfl, rfl, slO⟩; haveI := slO.sl; refine ⟨_, _, rfl, rfl, ?_⟩) | (refine sl_callW rfl rfl rfl rfl rfl rfl rfl rfl (join_W _ _ _ _ _ [p, [(0, 0, 0)], [(20, 0, 0)]] (by repeat (first | exact PVs.nil | refine PVs.cons ⟨_, _, rfl, inferInstance⟩ ?_)) rfl (by simp) (Nat.le_trans hF1 (Nat.le_of_ble_eq_true rfl)) hF2) ?_; rintro _ _ ⟨hJ, bJ, cJ, rfl, rfl, osJ⟩; clear hcall; refine ⟨_, _, rfl, rfl, ?_⟩))
    | (refine gk 5 rfl ?_; first | refine sl_op rfl rfl rfl (by first | exact opv_nilCheck rfl rfl | exact opv_build rfl rfl (by exact rfl) ) ?_ | refine sl_buildSlice rfl rfl rfl rfl rfl (by exact rfl) (by exact rfl) (by exact rfl) (by exact rfl) rfl (fun b => ?_) | refine sl_alloc rfl rfl rfl rfl (by exact rfl) (fun β => ?_) | refine sl_store rfl rfl rfl rfl rfl rfl (by exact rfl) rfl (by exact rfl) ?_)
    | refine sl_region rfl ?_
    | refine sl_nil ?_
    | refine thn_k ?_
    | refine swp_false rfl ?_
    | refine swp_ret ?_
    | refine swp_skip ?_
    )
  exact end_retL [dBlk βd bb bl bc (.bool false) at8 x0 x1 v, J, hJ] (resOk_one (resV_cellA rfl rfl rfl rfl)) ⟨hJ, bJ, cJ, v, rfl, rfl, osJ⟩
theorem Method_odd (at8 x0 x1 v0 : Int) (ha : 0 ≤ at8 ∧ at8 ≤ 255) (hx0 : 0 ≤ x0 ∧ x0 ≤ 255) (hx1 : 0 ≤ x1 ∧ x1 ≤ 255) :
    SL.T Try.prog 7 [.pointer (some ⟨βd, 0, none⟩)] [dBlk βd bb bl bc (.bool true) (u8 at8) (u8 x0) (u8 x1) v0, J] (MQ J βd bb bl bc (.bool true) (u8 at8) (u8 x0) (u8 x1) (oddF (drawF B) at8 x0 x1)) := by
  have hb0 := nextV_byte hB 0
  have hd := deepF hB
  have hm : mostL (1 + nextV B 0 % 4).toNat ≤ 100 := Nat.le_trans (mostL_mono (b := 4) (by omega)) (Nat.le_of_ble_eq_true rfl)
  have hmn : mostN (1 + nextV B 0 % 4).toNat ≤ mostN 4 := mostN_mono (by omega)
  have hmn4 : mostN 4 = 93 := rfl
  have hcall := piece_calls J βd bb bl bc (.bool true) (u8 at8) (u8 x0) (u8 x1) B hl hB (1 + nextV B 0 % 4).toNat (1 + nextV B 0 % 4) (0 + 1) 0 (by omega) hm (by omega) (by omega) (by omega) (by omega)
  have hfit := pieceF_fit2 hB (1 + nextV B 0 % 4).toNat (0 + 1) 0 hm (by omega) (by omega)
  have hdl := drawF_lt hB
  obtain ⟨p, hp⟩ : ∃ p, p = pieceF B (1 + nextV B 0 % 4).toNat (0 + 1) 0 := ⟨_, rfl⟩
  have hdr : drawF B = joinF 0 [p.1, [(0, 0, 0)], [(20, 0, 0)]] := by unfold drawF; rw [hp]; rfl
  rw [← hp] at hcall
  rw [← hp] at hfit
  have hdl0 := drawF_len B
  rw [hdr] at hdl hdl0 ⊢
  obtain ⟨p, v⟩ := p
  dsimp only at hcall hfit hdl hdl0 ⊢
  obtain ⟨hF1, hF2⟩ := okA (ls := [p, [(0, 0, 0)], [(20, 0, 0)]]) (by
    intro l hl
    simp only [List.mem_cons, List.not_mem_nil, or_false] at hl
    rcases hl with rfl | rfl | rfl <;> first | exact hfit | exact fit1 (by omega)) (by simp)
  obtain ⟨L, hL⟩ : ∃ L, L = joinF 0 [p, [(0, 0, 0)], [(20, 0, 0)]] := ⟨_, rfl⟩
  have hjw := join_W
  refine t_of_body Try.func7 rfl (Nat.le_of_ble_eq_true rfl) fun F => ?_
  repeat' (first
    | first | refine sl_op rfl rfl rfl (opv_convert8 rfl rfl (by omega) (by omega)) ?_ | refine sl_op rfl rfl rfl (opv_remE rfl rfl rfl (by omega) (by omega)) ?_
    | refine swp_seq ?_
    | (refine gk 0 rfl ?_; first | refine sl_op rfl rfl rfl (by first | exact opv_move rfl rfl | exact opv_assign rfl rfl | exact opv_pick_t rfl rfl rfl ) ?_ )
    | (refine gk 1 rfl ?_; first | refine sl_op rfl rfl rfl (by first | exact opv_add64 rfl rfl rfl (by omega) (by omega) ) ?_ )
    | (refine gk 2 rfl ?_; first | refine sl_yes rfl rfl rfl (by first | exact opv_gtr rfl rfl rfl ) (by first | omega ) ?_ )
    | (refine gk 3 rfl ?_; first | refine sl_op rfl rfl rfl (by first | exact opv_load rfl (by exact rfl) rfl (by exact rfl) | exact opv_fieldAddr rfl rfl ) ?_ )
    | (refine gk 4 rfl ?_; first | refine sl_op rfl rfl rfl (by first | exact opv_len rfl rfl rfl rfl rfl ) ?_ | (refine sl_callT rfl rfl rfl rfl rfl rfl rfl rfl (next_calls J βd bb bl bc (.bool true) (u8 at8) (u8 x0) (u8 x1) 0 B hl hB (by omega) (by omega)) ?_; rintro _ _ ⟨rfl, rfl⟩; refine ⟨_, _, rfl, rfl, ?_⟩) | (refine sl_callT rfl rfl rfl rfl rfl rfl rfl rfl (hcall) ?_; rintro _ _ ⟨hP, bP, cP, rfl, rfl, osP⟩; haveI := osP.sl; refine ⟨_, _, rfl, rfl, ?_⟩) | (refine sl_callT rfl rfl rfl rfl rfl rfl rfl rfl (one_calls _ _) ?_; rintro _ _ ⟨hO, bO, rfl, rfl, slO⟩; haveI := slO.sl; refine ⟨_, _, rfl, rfl, ?_⟩) | (refine sl_callW rfl rfl rfl rfl rfl rfl rfl rfl (join_W _ _ _ _ _ [p, [(0, 0, 0)], [(20, 0, 0)]] (by repeat (first | exact PVs.nil | refine PVs.cons ⟨_, _, rfl, inferInstance⟩ ?_)) rfl (by simp) (Nat.le_trans hF1 (Nat.le_of_ble_eq_true rfl)) hF2) ?_; rintro _ _ ⟨hJ, bJ, cJ, rfl, rfl, osJ⟩; (clear hcall hjw; rw [← hL] at hdl hdl0 ⊢; rw [← hL] at osJ); refine ⟨_, _, rfl, rfl, ?_⟩))
    | (refine gk 5 rfl ?_; first | refine sl_op rfl rfl rfl (by first | exact opv_nilCheck rfl rfl ) ?_ | refine sl_buildSlice rfl rfl rfl rfl rfl (by exact rfl) (by exact rfl) (by exact rfl) (by exact rfl) rfl (fun b => ?_) | refine sl_alloc rfl rfl rfl rfl (by exact rfl) (fun β => ?_) | refine sl_store rfl rfl rfl rfl rfl rfl (by exact rfl) rfl (by exact rfl) ?_)
    | refine sl_region rfl ?_
    | refine chu_nil ?_
    | refine chu_q rfl ?_
    | refine chu_f rfl ?_
    | refine chu_r rfl ?_
    | refine chu_new rfl rfl (by first | exact new_alloc rfl (by exact rfl) ) ?_
    | refine chu_rv rfl rfl rfl (fun β => ?_)
    | refine chu_pass rfl rfl rfl rfl ?_
    | refine chu_store rfl rfl rfl rfl rfl rfl (by exact rfl) rfl (by exact rfl) (by exact rfl) ?_
    | (refine chu_T rfl rfl rfl rfl rfl rfl rfl rfl (next_calls J βd bb bl bc (.bool true) (u8 at8) (u8 x0) (u8 x1) 0 B hl hB (by omega) (by omega)) (by rintro _ _ ⟨rfl, rfl⟩; exact ⟨_, rfl⟩) ?_; rintro _ _ ⟨rfl, rfl⟩; refine ⟨_, _, rfl, rfl, ?_⟩)
    | (refine chu_T rfl rfl rfl rfl rfl rfl rfl rfl (hcall) (by rintro _ _ ⟨hP, bP, cP, rfl, rfl, osP⟩; exact ⟨_, rfl⟩) ?_; rintro _ _ ⟨hP, bP, cP, rfl, rfl, osP⟩; haveI := osP.sl; refine ⟨_, _, rfl, rfl, ?_⟩)
    | (refine chu_T rfl rfl rfl rfl rfl rfl rfl rfl (one_calls _ _) (by rintro _ _ ⟨hO, bO, rfl, rfl, slO⟩; exact ⟨_, rfl⟩) ?_; rintro _ _ ⟨hO, bO, rfl, rfl, slO⟩; haveI := slO.sl; refine ⟨_, _, rfl, rfl, ?_⟩)
    | (refine chu_callW rfl rfl rfl rfl rfl rfl rfl rfl (join_W _ _ _ _ _ [p, [(0, 0, 0)], [(20, 0, 0)]] (by repeat (first | exact PVs.nil )) rfl (by simp) (Nat.le_trans hF1 (Nat.le_of_ble_eq_true rfl)) hF2) ?_; rintro _ _ ⟨hJ, bJ, cJ, rfl, rfl, osJ⟩; (clear hcall hjw; rw [← hL] at hdl hdl0 ⊢; rw [← hL] at osJ); refine ⟨_, _, rfl, rfl, ?_⟩)
    | refine sl_nil ?_
    | refine thn_k ?_
    | refine swp_true rfl ?_
    | refine swp_false rfl ?_
    | refine swp_block ?_
    | refine swp_ret ?_
    | refine swp_exit ?_
    | refine swp_skip ?_
    | refine thn_ret ?_
    | refine inb_ret ?_
    | refine inb_k ?_
    | refine thn_exit ?_
    | refine inb_exit ?_
    | refine inb_out rfl ?_)
  have hLp : 0 < L.length := by omega
  have k0 := Int.emod_nonneg at8 (show (L.length : Int) ≠ 0 by omega)
  have k1 := Int.emod_lt_of_pos at8 (show (0 : Int) < L.length by omega)
  obtain ⟨k, hk⟩ := Int.eq_ofNat_of_zero_le k0
  rw [hk] at k1 ⊢
  have g0 := Int.emod_nonneg x0 (show (10 : Int) ≠ 0 by omega)
  have g1 := Int.emod_lt_of_pos x0 (show (0 : Int) < 10 by omega)
  obtain ⟨g, hg⟩ := Int.eq_ofNat_of_zero_le g0
  have hop : ([Value.int IntKind.i64 2, Value.int IntKind.i64 12, Value.int IntKind.i64 13, Value.int IntKind.i64 3, Value.int IntKind.i64 14, Value.int IntKind.i64 20, Value.int IntKind.i64 6, Value.int IntKind.i64 7, Value.int IntKind.i64 0, Value.int IntKind.i64 15] : List Value)[(x0 % 10).toNat * 1]? = some (i64 (opsL.getD (x0 % 10).toNat 0)) := by
    rw [hg]
    rcases (by omega : g = 0 ∨ g = 1 ∨ g = 2 ∨ g = 3 ∨ g = 4 ∨ g = 5 ∨ g = 6 ∨ g = 7 ∨ g = 8 ∨ g = 9) with h | h | h | h | h | h | h | h | h | h <;> subst h <;> rfl
  have hmx : 0 < max 4 (L.length : Int) := by omega
  have hlen := flatI_length L
  haveI slJ := osJ.sl
  have hq : ((k : Nat) : Int).toNat * 3 < (flatI L).length := by omega
  refine sl_drawC [.q [0, 1, 2, 3, 4, 5, 6, 7, 8, 9, 10, 11, 12, 13, 14, 15, 16, 17, 18, 19, 20, 21, 22, 23, 24, 25], .h true 26] [] (by kernel_rfl) (by kernel_rfl) (by kernel_rfl) (by kernel_rfl) ?_
  repeat' (first
    | first | refine sl_op rfl rfl rfl (opv_convert8 rfl rfl (by omega) (by omega)) ?_ | refine sl_op rfl rfl rfl (opv_remE rfl rfl rfl (by omega) (by omega)) ?_ | refine sl_op rfl rfl rfl (opv_max rfl rfl rfl rfl rfl) ?_
    | refine swp_seq ?_
    | (refine gk 0 rfl ?_; first | refine sl_op rfl rfl rfl (by first | exact opv_move rfl rfl ) ?_ )
    | (refine gk 1 rfl ?_; first | refine sl_op rfl rfl rfl (by first | exact opv_add64 rfl rfl rfl (by omega) (by omega) ) ?_ )
    | (refine gk 2 rfl ?_; first | refine sl_pass rfl rfl rfl rfl ?_ )
    | (refine gk 3 rfl ?_; first | refine sl_op rfl rfl rfl (by first | exact opv_load rfl (by exact rfl) rfl (by exact rfl) | exact opv_fieldAddr rfl rfl | exact opv_indexAddrI rfl rfl rfl (by omega) (by omega) (by first | omega | (simp only [List.length_cons, List.length_nil]; omega)) | exact opv_indexAddrR rfl rfl rfl (by omega) (by omega) | exact opv_loadEx rfl (by exact rfl) (by infer_instance) (by first | assumption ) ) ?_ )
    | (refine gk 4 rfl ?_; first | refine sl_op rfl rfl rfl (by first | exact opv_len rfl rfl rfl rfl rfl ) ?_)
    | (refine gk 5 rfl ?_; first | refine sl_op rfl rfl rfl (by first | exact opv_nilCheck rfl rfl | exact opv_build rfl rfl (by exact rfl) ) ?_ | refine sl_store rfl rfl rfl rfl rfl rfl (by exact rfl) rfl (by exact rfl) ?_)
    | refine sl_region rfl ?_
    | refine chu_nil ?_
    | refine chu_q rfl ?_
    | refine chu_f rfl ?_
    | refine chu_r rfl ?_
    | refine chu_new rfl rfl (by first | exact new_alloc rfl (by exact rfl) ) ?_
    | refine chu_rv rfl rfl rfl (fun β => ?_)
    | refine chu_pass rfl rfl rfl rfl ?_
    | refine chu_store rfl rfl rfl rfl rfl rfl (by exact rfl) rfl (by exact rfl) (by exact rfl) ?_
    | refine chu_storeE rfl rfl rfl rfl rfl rfl osJ rfl rfl rfl (by exact Nat.succ_pos _) (by simp; omega) (set_ins (j := k) (by simp) (by omega)) (fun h1 os1 => ?_)
    | refine sl_nil ?_
    | refine thn_k ?_
    | refine swp_true rfl ?_
    | refine swp_false rfl ?_
    | refine swp_block ?_
    | refine swp_ret ?_
    | refine swp_exit ?_
    | refine swp_skip ?_
    | refine thn_ret ?_
    | refine inb_ret ?_
    | refine inb_k ?_
    | refine thn_exit ?_
    | refine inb_exit ?_
    | refine inb_out rfl ?_)
  have e1 : oddF L at8 x0 x1 = L.set k (opsL.getD (x0 % 10).toNat 0, x1 % max 4 (L.length : Int), 0) := by
    unfold oddF; rw [hk]; rfl
  rw [e1]
  have e2 : (L.set k (opsL.getD (x0 % 10).toNat 0, x1 % max 4 (L.length : Int), 0)).length = L.length := List.length_set ..
  exact end_retL [dBlk βd bb bl bc (.bool true) (u8 at8) (u8 x0) (u8 x1) v, J, h1] (resOk_one (resV_cellA rfl rfl rfl rfl)) ⟨h1, bJ, cJ, v, rfl, by rw [e2], by rw [e2]; exact os1⟩
theorem Method_calls (odd : Bool) (at8 x0 x1 v0 : Int) (ha : 0 ≤ at8 ∧ at8 ≤ 255) (hx0 : 0 ≤ x0 ∧ x0 ≤ 255) (hx1 : 0 ≤ x1 ∧ x1 ≤ 255) :
    SL.T Try.prog 7 [.pointer (some ⟨βd, 0, none⟩)] [dBlk βd bb bl bc (.bool odd) (u8 at8) (u8 x0) (u8 x1) v0, J] (MQ J βd bb bl bc (.bool odd) (u8 at8) (u8 x0) (u8 x1) (methF B odd at8 x0 x1)) := by
  cases odd
  · exact Method_even J βd bb bl bc B hl hB _ _ _ v0
  · exact Method_odd J βd bb bl bc B hl hB at8 x0 x1 v0 ha hx0 hx1
end
end Go.Proofs.Ytifhhfeibnpaoaa
