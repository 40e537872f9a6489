/- The law CodeTells, walked. -/
import Derived.Test.YtjdjkcebflablaaDoorWT1
import Derived.Test.YtjdjkcebflablaaDoorWN3
import Derived.Test.YtjdjkcebflablaaDoorWF3
import Derived.Test.YtjdjkcebflablaaDoorSlGa
set_option linter.unusedVariables false
set_option linter.unusedSimpArgs false
set_option linter.unusedSectionVars false
namespace Go.Proofs.YtjdjkcebflablaaDoor
open Go.SL
set_option maxRecDepth 100000
set_option maxHeartbeats 16000000
/-- An image, in whatever holds all that one has. -/
def ImAll (own : List Heap) (x : Im) (v : Value) : Prop := ∀ L, (∀ k ∈ own, hle k L) → ImIn L x v
theorem Encode_A {own : List Heap} (x : Im) (v : Value) (hx : ImAll own x v) : PFn Tryd.prog 8 [v] own (if mayF x then .tuple ⟨[str (imB x), i64 0]⟩ else .tuple ⟨[str [], i64 12]⟩) :=
  P_whole fun J hJ => Encode_calls J x v (hx J hJ)
theorem rEncode_A {own : List Heap} (x : Im) (v : Value) (hx : ImAll own x v) : PFn Tryd.prog 9 [v] own (if mayF x then .tuple ⟨[str (imB x), i64 0]⟩ else .tuple ⟨[str [], i64 12]⟩) :=
  P_whole fun J hJ => rEncode_calls J x v (hx J hJ)
theorem u8_some (c : Int) : ∃ b : UInt8, IntKind.u8.wrap c = (b.toNat : Int) := by
  have : 0 ≤ IntKind.u8.wrap c ∧ IntKind.u8.wrap c < 256 := by
    simp only [IntKind.wrap, IntKind.bits, IntKind.signed, Bool.false_and, Bool.false_eq_true, if_false]
    omega
  refine ⟨UInt8.ofNat (IntKind.u8.wrap c).toNat, ?_⟩
  rw [UInt8.toNat_ofNat']
  omega
theorem u8s_set (l : List UInt8) (k : Nat) (b : UInt8) : (u8s l).set k (.int .u8 (b.toNat : Int)) = u8s (l.set k b) := by
  simp [u8s, List.map_set]
attribute [local irreducible] SL.T PFn OpV SOL SWP HOp ChU DZ.ChU
-- ALIAS Tryd
theorem CodeTells_calls (J : Heap) [sg : Ges J] (x : Im) (v : Value) (s : List UInt8) (k0 k1 k2 : Int) (hx : ImIn J x v) (hI : AllI x) (hk0 : 0 ≤ k0 ∧ k0 ≤ 65535) (hk1 : 0 ≤ k1 ∧ k1 ≤ 65535) (hk2 : 0 ≤ k2 ∧ k2 ≤ 65535) (hs : s.length ≤ 9223372036854775807) :
    PFn Tryd.prog 3 [v, .agg ⟨[.int .u16 k0, .int .u16 k1, .int .u16 k2]⟩, str s] [J] (.bool true) := by
  have cF := few_calls J x v hx
  have cN := near_calls J x v hx
  obtain ⟨tf, ef, hf⟩ : ∃ t e, (if mayF (fewI x) then Value.tuple ⟨[str (imB (fewI x)), i64 0]⟩ else .tuple ⟨[str [], i64 12]⟩) = .tuple ⟨[str t, i64 e]⟩ := by
    split
    · exact ⟨_, _, rfl⟩
    · exact ⟨_, _, rfl⟩
  obtain ⟨a, ha⟩ : ∃ a, a = imB (nearI x) := ⟨_, rfl⟩
  have hal : 5 ≤ a.length ∧ a.length ≤ 170000 := by rw [ha]; exact ⟨imB_pos _, imB_length (near_ok hI)⟩
  have pF : ∀ {own : List Heap} (w : Value), ImAll own (fewI x) w → PFn Tryd.prog 8 [w] own (.tuple ⟨[str tf, i64 ef]⟩) := fun w h => by
    have := Encode_A (fewI x) w h
    rwa [hf] at this
  have rF : ∀ {own : List Heap} (w : Value), ImAll own (fewI x) w → PFn Tryd.prog 9 [w] own (.tuple ⟨[str tf, i64 ef]⟩) := fun w h => by
    have := rEncode_A (fewI x) w h
    rwa [hf] at this
  have pN : ∀ {own : List Heap} (w : Value), ImAll own (nearI x) w → PFn Tryd.prog 8 [w] own (.tuple ⟨[str a, i64 0]⟩) := fun w h => by
    have := Encode_A (nearI x) w h
    rwa [if_pos (near_may hI), ← ha] at this
  have rN : ∀ {own : List Heap} (w : Value), ImAll own (nearI x) w → PFn Tryd.prog 9 [w] own (.tuple ⟨[str a, i64 0]⟩) := fun w h => by
    have := rEncode_A (nearI x) w h
    rwa [if_pos (near_may hI), ← ha] at this
  obtain ⟨a1, a2, a3, a4, a5, a6, rfl⟩ := hx.shape
  clear hf
  refine pure_of_body Tryd.func3 rfl (Nat.le_of_ble_eq_true rfl) fun F => ?_
  repeat' (first
    | refine swp_seq ?_
    | (refine gk 0 rfl ?_; first | refine sl_op rfl rfl rfl (by first | exact opv_assign rfl rfl ) ?_ )
    | (refine gk 5 rfl ?_; first | refine sl_box rfl rfl rfl rfl rfl rfl (fun β => ?_) )
    | refine sl_region rfl ?_
    | refine sl_nil ?_
    )
  refine sl_drawC [.q [0, 2, 5], .h false 1, .h false 3, .q [4]] [] (by kernel_rfl) (by kernel_rfl) (by kernel_rfl) (by kernel_rfl) ?_
  repeat' (first
    | (refine gk 0 rfl ?_; first | refine sl_op rfl rfl rfl (by first | exact opv_move rfl rfl ) ?_ )
    | (refine gk 3 rfl ?_; first | refine sl_op rfl rfl rfl (by first | exact opv_loadA rfl (by exact rfl) rfl (by exact rfl) (by exact rfl) ) ?_ )
    | (refine gk 5 rfl ?_; first | refine sl_op rfl rfl rfl (by first | exact opv_build rfl rfl (by exact rfl) ) ?_ )
    | refine chu_nil ?_
    | refine chu_q rfl ?_
    | (refine chu_T rfl rfl rfl rfl rfl rfl rfl rfl (cF) (by rintro _ _ ⟨hF, wF, rfl, rfl, ⟨f1, f2, f3, f4, f5, f6, rfl⟩, hFA⟩; exact ⟨_, rfl⟩) ?_; rintro _ _ ⟨hF, wF, rfl, rfl, ⟨f1, f2, f3, f4, f5, f6, rfl⟩, hFA⟩; refine ⟨_, _, rfl, rfl, ?_⟩)
    | (refine chu_T rfl rfl rfl rfl rfl rfl rfl rfl (cN) (by rintro _ _ ⟨hN, wN, rfl, hNI, rfl⟩; exact ⟨_, rfl⟩) ?_; rintro _ _ ⟨hN, wN, rfl, hNI, rfl⟩; obtain ⟨n1, n2, n3, n4, n5, n6, rfl⟩ := hNI.shape; refine ⟨_, _, rfl, rfl, ?_⟩)
    | refine sl_nil ?_
    | refine thn_k ?_
    | refine swp_block ?_
    )
  rename_i βx
  obtain ⟨βc, hβc⟩ : ∃ y, y = β := ⟨_, rfl⟩
  rw [← hβc]
  clear hβc
  refine swp_rounds 3 (srounds ?_)
  repeat' (first
    | refine sl_ff rfl rfl rfl (opv_neqStr rfl rfl rfl) (by simp) ?_
    | refine sl_toBytes rfl rfl rfl rfl rfl (fun bB cap mm hm1 hm2 => ?_)
    | refine swp_seq ?_
    | (refine gk 0 rfl ?_; first | refine sl_op rfl rfl rfl (by first | exact opv_move rfl rfl | exact opv_assign rfl rfl | exact opv_pick_f rfl rfl rfl | exact opv_extract rfl rfl rfl ) ?_ )
    | (refine gk 1 rfl ?_; first | refine sl_op rfl rfl rfl (by first | exact opv_add64 rfl rfl rfl (by omega) (by omega) ) ?_ )
    | (refine gk 2 rfl ?_; first | refine sl_yes rfl rfl rfl (by first | exact opv_lss rfl rfl rfl | exact opv_eql rfl rfl rfl | exact opv_neq rfl rfl rfl) (by first | omega ) ?_ | refine sl_no rfl rfl rfl (by first | exact opv_lss rfl rfl rfl | exact opv_eql rfl rfl rfl | exact opv_neq rfl rfl rfl) (by first | omega ) ?_ )
    | (refine gk 3 rfl ?_; first | refine sl_op rfl rfl rfl (by first | exact opv_loadA rfl (by exact rfl) rfl (by exact rfl) (by exact rfl) | exact opv_indexA rfl rfl rfl (by omega) (by omega) (by first | exact rfl) ) ?_ )
    | (refine gk 4 rfl ?_; first | refine sl_op rfl rfl rfl (by first | exact opv_len rfl rfl rfl rfl rfl ) ?_ | refine sl_op rfl rfl rfl (opv_callW rfl rfl rfl rfl rfl (pF _ (fun L hL => hFA L (hL _ (by simp)) (hL _ (by simp))))) ?_ | refine sl_op rfl rfl rfl (opv_callW rfl rfl rfl rfl rfl (pN _ (fun L hL => hNI.mono (hL _ (by simp))))) ?_ | refine sl_op rfl rfl rfl (opv_callW rfl rfl rfl rfl rfl (rF _ (fun L hL => hFA L (hL _ (by simp)) (hL _ (by simp))))) ?_ | refine sl_op rfl rfl rfl (opv_callW rfl rfl rfl rfl rfl (rN _ (fun L hL => hNI.mono (hL _ (by simp))))) ?_ | (refine sl_callT rfl rfl rfl rfl rfl rfl rfl rfl (cN) ?_; rintro _ _ ⟨hN2, wN2, rfl, hNI2, rfl⟩; obtain ⟨m1, m2, m3, m4, m5, m6, rfl⟩ := hNI2.shape; refine ⟨_, _, rfl, rfl, ?_⟩) | refine sl_op rfl rfl rfl (opv_callW rfl rfl rfl rfl rfl (rN _ (fun L hL => hNI2.mono (hL _ (by simp))))) ?_)
    | (refine gk 5 rfl ?_; first | refine sl_alloc rfl rfl rfl rfl (by exact rfl) (fun β => ?_) | refine sl_store rfl rfl rfl rfl rfl rfl (by exact rfl) rfl (by exact rfl) ?_)
    | refine sl_region rfl ?_
    | refine sl_nil ?_
    | refine thn_k ?_
    | refine swp_true rfl ?_
    | refine swp_false rfl ?_
    | refine swp_block ?_
    | refine swp_exit ?_
    | refine swp_skip ?_
    )
  obtain ⟨b1, hb1⟩ := u8_some k1
  obtain ⟨m60, hm60, hm61⟩ : ∃ r : Nat, min (a.length : Int) 60 = (r : Int) ∧ r = min a.length 60 := ⟨min a.length 60, by omega, rfl⟩
  have hw0 : IntKind.i64.wrap k0 = k0 := wrap64_id (by omega) (by omega)
  have hw2 : IntKind.i64.wrap k2 = k2 := wrap64_id (by omega) (by omega)
  obtain ⟨r, hr, hr2⟩ : ∃ r : Nat, k0.tmod (m60 : Int) = (r : Int) ∧ r < m60 := by
    rw [Int.tmod_eq_emod_of_nonneg hk0.1]
    have h1 := Int.emod_nonneg k0 (show (m60 : Int) ≠ 0 by omega)
    have h2 := Int.emod_lt_of_pos k0 (show 0 < (m60 : Int) by omega)
    exact ⟨(k0 % (m60 : Int)).toNat, by omega, by omega⟩
  obtain ⟨r2, hq, hq2⟩ : ∃ r : Nat, k2.tmod (a.length : Int) = (r : Int) ∧ r < a.length := by
    rw [Int.tmod_eq_emod_of_nonneg hk2.1]
    have h1 := Int.emod_nonneg k2 (show (a.length : Int) ≠ 0 by omega)
    have h2 := Int.emod_lt_of_pos k2 (show 0 < (a.length : Int) by omega)
    exact ⟨(k2 % (a.length : Int)).toNat, by omega, by omega⟩
  obtain ⟨n3, hn3, hn32⟩ : ∃ r : Nat, min (s.length : Int) 300 = (r : Int) ∧ r = min s.length 300 := ⟨min s.length 300, by omega, rfl⟩
  have hfl : (u8s a ++ List.replicate mm (Value.int .u8 0)).length = cap := by simp [u8s]; omega
  refine sl_drawC [.q [0, 1, 2, 3, 4, 5, 6, 7, 8, 9, 10, 11], .h true 12] [blk βc (.cells ⟨[.int .u16 k0, .int .u16 k1, .int .u16 k2]⟩ 27 (0, 0))] (by kernel_rfl) (by kernel_rfl) (by kernel_rfl) (by kernel_rfl) ?_
  repeat' (first
    | refine sl_op rfl rfl rfl ((opv_convert rfl rfl).to (congrArg (Value.int .i64) hw0)) ?_
    | refine sl_op rfl rfl rfl ((opv_convert rfl rfl).to (congrArg (Value.int .u8) hb1)) ?_
    | refine sl_op rfl rfl rfl ((opv_min rfl rfl rfl rfl rfl).to (congrArg (Value.int .i64) hm60)) ?_
    | refine sl_op rfl rfl rfl ((opv_rem rfl rfl rfl (by omega)).to (congrArg (Value.int .i64) hr)) ?_
    | refine swp_seq ?_
    | (refine gk 0 rfl ?_; first | refine sl_op rfl rfl rfl (by first | exact opv_move rfl rfl ) ?_ )
    | (refine gk 3 rfl ?_; first | refine sl_op rfl rfl rfl (by first | exact opv_load rfl (by exact rfl) rfl (by exact rfl) | exact opv_indexAddrI rfl rfl rfl (by omega) (by omega) (by first | omega ) | exact opv_indexAddrR rfl rfl rfl (by omega) (by omega) ) ?_ )
    | (refine gk 4 rfl ?_; first | refine sl_op rfl rfl rfl (by first | exact opv_len rfl rfl rfl rfl rfl ) ?_)
    | refine sl_region rfl ?_
    | refine chu_nil ?_
    | refine chu_q rfl ?_
    | refine chu_storeM rfl (by decide +kernel) rfl rfl rfl rfl rfl rfl rfl rfl (by omega) (by dsimp only; omega) (by exact rfl) ?_
    | refine sl_nil ?_
    )
  have slB : Sl (blk bB (.cells ⟨(u8s a ++ List.replicate mm (Value.int .u8 0)).set ((r : Int).toNat * 1) (.int .u8 (b1.toNat : Int))⟩ 5 (cap, cap + 1))) (some ⟨bB, 0, none⟩) (u8s (a.set r b1)) := by
    have h := (Sl.blk (b := bB) (cs := (u8s a ++ List.replicate mm (Value.int .u8 0)).set ((r : Int).toNat * 1) (.int .u8 (b1.toNat : Int))) (T := 5) (fz := (cap, cap + 1))).take a.length
    have e : ((u8s a ++ List.replicate mm (Value.int .u8 0)).set ((r : Int).toNat * 1) (.int .u8 (b1.toNat : Int))).take a.length = u8s (a.set r b1) := by
      have hl : (u8s a).length = a.length := by simp [u8s]
      rw [show ((r : Int).toNat * 1) = r by simp, List.set_append_left _ _ (by omega), ← u8s_set, List.take_append_of_le_length (by simp [u8s]), List.take_of_length_le (by simp [u8s])]
    rw [e] at h
    exact h
  have hl2 : (a.set r b1).length = a.length := List.length_set
  have hl3 : (a.take (r2 : Int).toNat).length ≤ 170000 := by rw [List.length_take]; omega
  repeat' (first
    | refine sl_op rfl rfl rfl (opv_toStr (e := 5) (l := a.set r b1) rfl rfl ⟨_, by simp, slB⟩ hl2) ?_
    | refine sl_op rfl rfl rfl (opv_toStr (e := 5) (l := [b1]) rfl rfl (by infer_instance) rfl) ?_
    | refine sl_op rfl rfl rfl ((opv_convert rfl rfl).to (congrArg (Value.int .i64) hw2)) ?_
    | refine sl_op rfl rfl rfl ((opv_convert rfl rfl).to (congrArg (Value.int .u8) hb1)) ?_
    | refine sl_op rfl rfl rfl (opv_lenS rfl rfl rfl rfl rfl) ?_
    | refine sl_op rfl rfl rfl ((opv_min rfl rfl rfl rfl rfl).to (congrArg (Value.int .i64) hn3)) ?_
    | refine sl_op rfl rfl rfl ((opv_rem rfl rfl rfl (by omega)).to (congrArg (Value.int .i64) hq)) ?_
    | refine sl_op rfl rfl rfl (opv_sliceSHi rfl rfl rfl (by omega) (by omega)) ?_
    | refine sl_op rfl rfl rfl (opv_addS rfl rfl rfl (by first | (simp only [List.length_take, List.length_append, List.length_set, List.length_cons, List.length_nil]; omega))) ?_
    | (refine gk 0 rfl ?_; first | refine sl_op rfl rfl rfl (by first | exact opv_move rfl rfl | exact opv_assign rfl rfl | exact opv_pick_t rfl rfl rfl ) ?_ )
    | (refine gk 3 rfl ?_; first | refine sl_op rfl rfl rfl (by first | exact opv_load rfl (by exact rfl) rfl (by exact rfl) | exact opv_indexAddrR rfl rfl rfl (by omega) (by omega) ) ?_ )
    | (refine gk 4 rfl ?_; first | refine sl_op rfl rfl rfl (opv_call rfl rfl rfl rfl rfl (works_calls (G := J))) ?_ | refine sl_op rfl rfl rfl (opv_call rfl rfl rfl rfl rfl (decodes_calls (G := J) _ (by first | omega | (simp only [List.length_take, List.length_append, List.length_set, List.length_cons, List.length_nil]; omega)))) ?_)
    | (refine gk 5 rfl ?_; first | refine sl_buildSlice rfl rfl rfl rfl rfl (by exact rfl) (by exact rfl) (by exact rfl) (by exact rfl) rfl (fun b => ?_) )
    | refine sl_nil ?_
    | refine thn_k ?_
    | refine swp_ret ?_
    )
  refine end_pure (resOk_one (resV_tmp rfl)) ?_
  rfl
end Go.Proofs.YtjdjkcebflablaaDoor
