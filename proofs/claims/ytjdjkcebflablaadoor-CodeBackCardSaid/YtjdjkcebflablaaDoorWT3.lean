/- The law CodeBack, walked. -/
import Derived.Test.YtjdjkcebflablaaDoorWT1
import Derived.Test.YtjdjkcebflablaaDoorWN3
set_option linter.unusedVariables false
set_option linter.unusedSimpArgs false
set_option linter.unusedSectionVars false
namespace Go.Proofs.YtjdjkcebflablaaDoor
open Go.SL
set_option maxRecDepth 100000
set_option maxHeartbeats 16000000
/-- What is decoded is laid as just these bytes, or nothing is decoded. -/
theorem back_dec (u : List UInt8) : (∃ q, decF u = .error q) ∨ ∃ z, decF u = .ok z ∧ imB z = u ∧ mayF z = true := by
  cases h : decF u with
  | error q => exact .inl ⟨q, rfl⟩
  | ok z =>
    obtain ⟨h1, h2⟩ := dec_un h
    exact .inr ⟨z, rfl, h1, (mayF_iff_ok h2.all).2 h2⟩
theorem wrong_more {x : Im} (h : ImOk x) : wrongF (imB x ++ [0]) (imB x).length = true := by
  unfold wrongF
  rw [dec_more h (by simp)]
  simp
attribute [local irreducible] SL.T PFn OpV SOL SWP HOp ChU DZ.ChU
-- ALIAS Tryd
theorem CodeBack_calls (J : Heap) [sg : Ges J] (x : Im) (v : Value) (s : List UInt8) (k : Int) (hx : ImIn J x v) (hI : AllI x) (hk0 : 0 ≤ k ∧ k ≤ 65535) (hs : s.length ≤ 9223372036854775807) :
    PFn Tryd.prog 4 [v, str s, .int .u16 k] [J] (.bool true) := by
  have cN := near_calls J x v hx
  have hok := near_ok hI
  obtain ⟨a, ha⟩ : ∃ a, a = imB (nearI x) := ⟨_, rfl⟩
  have hal : 5 ≤ a.length ∧ a.length ≤ 170000 := by rw [ha]; exact ⟨imB_pos _, imB_length hok⟩
  have pN : ∀ {own : List Heap} (w : Value), ImAt own (nearI x) w → PFn Tryd.prog 8 [w] own (.tuple ⟨[str a, i64 0]⟩) := fun w h => by
    have := Encode_W (nearI x) w h
    rwa [if_pos (near_may hI), ← ha] at this
  have hw : IntKind.i64.wrap k = k := wrap64_id (by omega) (by omega)
  obtain ⟨r, hr, hr2⟩ : ∃ r : Nat, k.tmod (a.length : Int) = (r : Int) ∧ r < a.length := by
    rw [Int.tmod_eq_emod_of_nonneg hk0.1]
    have h1 := Int.emod_nonneg k (show (a.length : Int) ≠ 0 by omega)
    have h2 := Int.emod_lt_of_pos k (show 0 < (a.length : Int) by omega)
    exact ⟨(k % (a.length : Int)).toNat, by omega, by omega⟩
  have kd := Decode_calls a (by omega)
  rw [show decF a = .ok (nearI x) by rw [ha]; exact dec_lay hok] at kd
  unfold DQ at kd
  dsimp only at kd
  obtain ⟨q, hcut, hql⟩ := dec_cut hok (k := r) (by rw [← ha]; exact hr2)
  rw [← ha] at hcut
  have kc := Decode_calls (a.take (r : Int).toNat) (by rw [List.length_take]; omega)
  rw [show decF (a.take (r : Int).toNat) = .error q from hcut] at kc
  unfold DQ at kc
  dsimp only at kc
  have kw := wrong_calls (G := J) (a ++ [0]) (a.length : Int) (by simp; omega)
  rw [show wrongF (a ++ [0]) (a.length : Int) = true by rw [ha]; exact wrong_more hok] at kw
  obtain ⟨n4, hn4, hn42⟩ : ∃ r : Nat, min (s.length : Int) 400 = (r : Int) ∧ r = min s.length 400 := ⟨min s.length 400, by omega, rfl⟩
  obtain ⟨a1, a2, a3, a4, a5, a6, rfl⟩ := hx.shape
  have hl3 : (a.take (r : Int).toNat).length ≤ 170000 := by rw [List.length_take]; omega
  have hl4 : (s.take (n4 : Int).toNat).length ≤ 400 := by rw [List.length_take]; omega
  have kno : ∀ {own : List Heap}, ImAt own noIm zIm → PFn Tryd.prog 8 [zIm] own (.tuple ⟨[str [], i64 12]⟩) := fun h => by
    have := Encode_W noIm zIm h
    rwa [if_neg (by decide)] at this
  obtain ⟨u1, hu1⟩ : ∃ u, u = s.take (n4 : Int).toNat := ⟨_, rfl⟩
  obtain ⟨u2, hu2⟩ : ∃ u, u = a.take (r : Int).toNat ++ u1 := ⟨_, rfl⟩
  have hul : u1.length ≤ 200000 ∧ u2.length ≤ 200000 := by rw [hu2, List.length_append, hu1]; omega
  refine pure_of_body Tryd.func4 rfl (Nat.le_of_ble_eq_true rfl) fun F => ?_
  repeat' (first
    | refine sl_op rfl rfl rfl (opv_ifNilN rfl rfl) ?_
    | refine sl_op rfl rfl rfl ((opv_convert rfl rfl).to (congrArg (Value.int .i64) hw)) ?_
    | refine sl_op rfl rfl rfl (opv_lenS rfl rfl rfl rfl rfl) ?_
    | refine sl_op rfl rfl rfl ((opv_rem rfl rfl rfl (by omega)).to (congrArg (Value.int .i64) hr)) ?_
    | refine sl_op rfl rfl rfl (opv_sliceSHi rfl rfl rfl (by omega) (by omega)) ?_
    | refine sl_op rfl rfl rfl (opv_ifSome rfl rfl) ?_
    | refine sl_op rfl rfl rfl (opv_addS rfl rfl rfl (by first | (simp only [List.length_cons, List.length_nil]; omega))) ?_
    | refine sl_op rfl rfl rfl (opv_field rfl rfl rfl rfl rfl rfl) ?_
    | refine swp_seq ?_
    | (refine gk 0 rfl ?_; first | refine sl_op rfl rfl rfl (by first | exact opv_move rfl rfl | exact opv_assign rfl rfl | exact opv_pick_f rfl rfl rfl | exact opv_not_t rfl rfl | exact opv_extract rfl rfl rfl ) ?_ )
    | (refine gk 2 rfl ?_; first | refine sl_no rfl rfl rfl (by first | exact opv_gtr rfl rfl rfl | exact opv_neq rfl rfl rfl) (by first | omega ) ?_ )
    | (refine gk 3 rfl ?_; first | refine sl_op rfl rfl rfl (by first | exact opv_loadA rfl (by exact rfl) rfl (by exact rfl) (by exact rfl) ) ?_ )
    | (refine gk 4 rfl ?_; first | refine sl_op rfl rfl rfl (opv_call rfl rfl rfl rfl rfl (works_calls (G := J))) ?_ | (refine sl_callT rfl rfl rfl rfl rfl rfl rfl rfl (cN) ?_; rintro _ _ ⟨hN, wN, rfl, hNI, rfl⟩; obtain ⟨n1, n2, n3, m4, n5, n6, rfl⟩ := hNI.shape; refine ⟨_, _, rfl, rfl, ?_⟩) | refine sl_op rfl rfl rfl (opv_callW rfl rfl rfl rfl rfl (pN _ ⟨_, by simp, hNI⟩)) ?_ | (refine sl_callT rfl rfl rfl rfl rfl rfl rfl rfl (kd) ?_; rintro _ _ ⟨K1, w1, rfl, hK1, rfl⟩; obtain ⟨d1, d2, d3, d4, d5, d6, rfl⟩ := hK1.shape; refine ⟨_, _, rfl, rfl, ?_⟩) | refine sl_op rfl rfl rfl (opv_callW rfl rfl rfl rfl rfl (Same_eq (nearI x) _ _ ⟨_, by simp, hNI⟩ ⟨_, by simp, hK1⟩)) ?_ | refine sl_op rfl rfl rfl (opv_callW rfl rfl rfl rfl rfl (Same_eq (nearI x) _ _ ⟨_, by simp, hK1⟩ ⟨_, by simp, hNI⟩)) ?_ | (refine sl_callT rfl rfl rfl rfl rfl rfl rfl rfl (kc) ?_; rintro _ _ ⟨βe, rfl, rfl⟩; refine ⟨_, _, rfl, rfl, ?_⟩) | refine sl_op rfl rfl rfl (opv_call rfl rfl rfl rfl rfl (told_calls (G := J) βe (q : Int))) ?_ | refine sl_op rfl rfl rfl (opv_call rfl rfl rfl rfl rfl (kw)) ?_)
    | (refine gk 5 rfl ?_; first | refine sl_box rfl rfl rfl rfl rfl rfl (fun β => ?_) | refine sl_alloc rfl rfl rfl rfl (by exact rfl) (fun β => ?_) | refine sl_store rfl rfl rfl rfl rfl rfl (by exact rfl) rfl (by exact rfl) ?_)
    | refine sl_region rfl ?_
    | refine sl_nil ?_
    | refine thn_k ?_
    | refine swp_false rfl ?_
    | refine swp_skip ?_
    )
  refine sl_draw (by kernel_rfl) (by kernel_rfl) rfl ?_
  repeat' (first
    | refine sl_op rfl rfl rfl (opv_lenS rfl rfl rfl rfl rfl) ?_
    | refine sl_op rfl rfl rfl ((opv_min rfl rfl rfl rfl rfl).to (congrArg (Value.int .i64) hn4)) ?_
    | refine sl_op rfl rfl rfl (opv_sliceSHi rfl rfl rfl (by omega) (by omega)) ?_
    | refine sl_op rfl rfl rfl (opv_addS rfl rfl rfl (by omega)) ?_
    | (refine gk 0 rfl ?_; first | refine sl_op rfl rfl rfl (by first | exact opv_move rfl rfl ) ?_ )
    | (refine gk 5 rfl ?_; first | refine sl_op rfl rfl rfl (by first | exact opv_build rfl rfl (by exact rfl) ) ?_ )
    | refine sl_nil ?_
    | refine thn_k ?_
    | refine swp_block ?_
    )
  rw [← hu1, ← hu2]
  refine swp_loopS (fun j : Nat => [(95, .agg ⟨[str u1, str u2]⟩), (96, i64 (j : Int))]) (fun _ => [J]) (fun j => j ≤ 2) (fun j => 2 - j) 0 (by repeat first | exact Sub.nil _ | refine Sub.cons rfl ?_) (Nat.zero_le _) ?_
  intro j hj
  by_cases hj2 : j < 2
  · obtain ⟨u, hu, hl⟩ : ∃ u : List UInt8, ([str u1, str u2] : List Value)[((j : Nat) : Int).toNat * 1]? = some (str u) ∧ u.length ≤ 200000 := by
      match j, hj2 with
      | 0, _ => exact ⟨u1, rfl, hul.1⟩
      | 1, _ => exact ⟨u2, rfl, hul.2⟩
    have hd := Decode_calls u (by omega)
    rcases back_dec u with ⟨q2, hq2⟩ | ⟨z, hz, hzu, hzm⟩
    · rw [hq2] at hd
      unfold DQ at hd
      dsimp only at hd
      repeat' (first
        | refine sl_op rfl rfl rfl (opv_ifSome rfl rfl) ?_
        | refine swp_seq ?_
        | (refine gk 0 rfl ?_; first | refine sl_op rfl rfl rfl (by first | exact opv_move rfl rfl | exact opv_assign rfl rfl | exact opv_pick_f rfl rfl rfl | exact opv_extract rfl rfl rfl ) ?_ | refine sl_pass rfl rfl rfl rfl ?_)
        | (refine gk 1 rfl ?_; first | refine sl_op rfl rfl rfl (by first | exact opv_add64 rfl rfl rfl (by omega) (by omega) ) ?_ )
        | (refine gk 2 rfl ?_; first | refine sl_pass rfl rfl rfl rfl ?_ | refine sl_yes rfl rfl rfl (by first | exact opv_lss rfl rfl rfl ) (by first | omega ) ?_ )
        | (refine gk 3 rfl ?_; first | refine sl_op rfl rfl rfl (by first | exact opv_loadA rfl (by exact rfl) rfl (by exact rfl) (by exact rfl) | exact opv_index rfl rfl rfl (by omega) (by omega) (by first | assumption ) ) ?_ )
        | (refine gk 4 rfl ?_; first | (refine sl_callT rfl rfl rfl rfl rfl rfl rfl rfl (hd) ?_; rintro _ _ ⟨βf, rfl, rfl⟩; refine ⟨_, _, rfl, rfl, ?_⟩) | refine sl_op rfl rfl rfl (opv_callW rfl rfl rfl rfl rfl (kno ⟨J, by simp, ImIn.no J⟩)) ?_)
        | (refine gk 5 rfl ?_; first | refine sl_alloc rfl rfl rfl rfl (by exact rfl) (fun β => ?_) | refine sl_store rfl rfl rfl rfl rfl rfl (by exact rfl) rfl (by exact rfl) ?_)
        | refine sl_region rfl ?_
        | refine sl_nil ?_
        | refine thn_k ?_
        | refine swp_true rfl ?_
        | refine swp_false rfl ?_
        | refine swp_block ?_
        | refine swp_skip ?_
        )
      exact ⟨rfl, j + 1, next_ok (by repeat first | exact Sub.nil _ | refine Sub.cons rfl ?_), by omega, by omega⟩
    · rw [hz] at hd
      unfold DQ at hd
      dsimp only at hd
      have ke : ∀ {own : List Heap} (w : Value), ImAt own z w → PFn Tryd.prog 8 [w] own (.tuple ⟨[str u, i64 0]⟩) := fun w h => by
        have := Encode_W z w h
        rwa [if_pos hzm, hzu] at this
      repeat' (first
        | refine sl_op rfl rfl rfl (opv_ifNil rfl rfl) ?_
        | refine sl_ff rfl rfl rfl (opv_neqStr rfl rfl rfl) (by simp) ?_
        | refine swp_seq ?_
        | (refine gk 0 rfl ?_; first | refine sl_op rfl rfl rfl (by first | exact opv_move rfl rfl | exact opv_assign rfl rfl | exact opv_pick_t rfl rfl rfl | exact opv_pick_f rfl rfl rfl | exact opv_extract rfl rfl rfl ) ?_ )
        | (refine gk 1 rfl ?_; first | refine sl_op rfl rfl rfl (by first | exact opv_add64 rfl rfl rfl (by omega) (by omega) ) ?_ )
        | (refine gk 2 rfl ?_; first | refine sl_yes rfl rfl rfl (by first | exact opv_lss rfl rfl rfl | exact opv_neq rfl rfl rfl) (by first | omega ) ?_ | refine sl_no rfl rfl rfl (by first | exact opv_neq rfl rfl rfl) (by first | omega ) ?_ )
        | (refine gk 3 rfl ?_; first | refine sl_op rfl rfl rfl (by first | exact opv_loadA rfl (by exact rfl) rfl (by exact rfl) (by exact rfl) | exact opv_index rfl rfl rfl (by omega) (by omega) (by first | assumption ) ) ?_ )
        | (refine gk 4 rfl ?_; first | (refine sl_callT rfl rfl rfl rfl rfl rfl rfl rfl (hd) ?_; rintro _ _ ⟨K2, w2, rfl, hK2, rfl⟩; obtain ⟨e1, e2, e3, e4, e5, e6, rfl⟩ := hK2.shape; refine ⟨_, _, rfl, rfl, ?_⟩) | refine sl_op rfl rfl rfl (opv_callW rfl rfl rfl rfl rfl (ke _ ⟨_, by simp, hK2⟩)) ?_)
        | (refine gk 5 rfl ?_; first | refine sl_alloc rfl rfl rfl rfl (by exact rfl) (fun β => ?_) | refine sl_store rfl rfl rfl rfl rfl rfl (by exact rfl) rfl (by exact rfl) ?_)
        | refine sl_region rfl ?_
        | refine sl_nil ?_
        | refine thn_k ?_
        | refine swp_true rfl ?_
        | refine swp_false rfl ?_
        | refine swp_block ?_
        | refine swp_skip ?_
        )
      exact ⟨rfl, j + 1, next_ok (by repeat first | exact Sub.nil _ | refine Sub.cons rfl ?_), by omega, by omega⟩
  · repeat' (first
      | refine swp_seq ?_
      | (refine gk 0 rfl ?_; first | refine sl_op rfl rfl rfl (by first | exact opv_assign rfl rfl ) ?_ )
      | (refine gk 2 rfl ?_; first | refine sl_no rfl rfl rfl (by first | exact opv_lss rfl rfl rfl ) (by first | omega ) ?_ )
      | refine sl_region rfl ?_
      | refine sl_nil ?_
      | refine thn_k ?_
      | refine swp_false rfl ?_
      | refine swp_ret ?_
      | refine swp_exit ?_
      )
    refine end_pure (resOk_one (resV_tmp rfl)) ?_
    rfl
end Go.Proofs.YtjdjkcebflablaaDoor
