/- What is decoded, against the document; a fault at a place: walked. -/
import Derived.Test.YtjdjkcebflablaaDoorWI5
import Derived.Test.YtjdjkcebflablaaDoorWJ
import Derived.Test.YtjdjkcebflablaaDoorWH9
import Derived.Test.YtjdjkcebflablaaDoorWS2
import Derived.Test.YtjdjkcebflablaaDoorWE3
import Derived.Test.YtjdjkcebflablaaDoorWK2
set_option linter.unusedVariables false
set_option linter.unusedSimpArgs false
set_option linter.unusedSectionVars false
namespace Go.Proofs.YtjdjkcebflablaaDoor
open Go.SL
set_option maxRecDepth 100000
set_option maxHeartbeats 16000000
theorem ImIn.no (J : Heap) : ImIn J noIm zIm :=
  ⟨none, 0, 0, none, 0, 0, rfl, ⟨[], ⟨fun j v h => by simp at h⟩, rfl, rfl, by decide, fun i f h => by simp [noIm] at h⟩, ⟨[], ⟨fun j v h => by simp at h⟩, rfl, rfl, by decide, fun i f h => by simp [noIm] at h⟩, Nat.le_refl _, Nat.le_refl _⟩
theorem ImIn.shape {K : Heap} {x : Im} {v : Value} (h : ImIn K x v) : ∃ a b c d e f, v = .agg ⟨[.slice a b c, .slice d e f]⟩ := by
  obtain ⟨a, b, c, d, e, f, h, -⟩ := h; exact ⟨a, b, c, d, e, f, h⟩
/-- What the document's Decode answers. -/
def DQ2 (r : Except Nat Im) (e : Ending) (o : List Heap) : Prop := match r with
  | .ok x => ∃ K v, o = [K] ∧ ImIn K x v ∧ e = .returned (.tuple ⟨[v, i64 (-1)]⟩)
  | .error q => ∃ K, o = [K] ∧ e = .returned (.tuple ⟨[zIm, i64 (q : Int)]⟩)
theorem rDecode_calls (s : List UInt8) (hs : s.length ≤ 9223372036854775807) : SL.T Tryd.prog 23 [str s] [] (DQ2 (decF s)) := by
  by_cases hp : s.take 3 = [68, 75, 1]
  · have h := rDecode_yes s hs hp
    have hd := rdec_decF s
    unfold DQ2
    cases hq : decF s with
    | error q =>
      rw [hq] at hd
      dsimp only at hd ⊢
      refine (T_joinP (R := fun e A N => A = [] ∧ N = [] ∧ e = .returned (.tuple ⟨[zIm, i64 (q : Int)]⟩)) (T.mono h ?_)).mono ?_
      · rintro e o (⟨h1, h2, h3, h4⟩ | ⟨h1, h2⟩)
        · exact ⟨[], [], by subst h4; simp, rfl, rfl, by rw [h3, hd]⟩
        · rw [hd] at h1; dsimp only at h1; omega
      · rintro e o ⟨A, N, L, rfl, hL, rfl, rfl, h⟩
        exact ⟨L, rfl, h⟩
    | ok x =>
      rw [hq] at hd
      dsimp only at hd ⊢
      refine (T_joinP (R := fun e A N => A = [] ∧ ∃ K hC K2 hM clb cc mb mc cv mv, e = .returned (.tuple ⟨[.agg ⟨[.slice clb x.cls.length cc, .slice mb x.ms.length mc]⟩, i64 (-1)]⟩) ∧ OS hC clb x.cls.length cc 53 1 cv ∧ ClsP K x.cls cv ∧ OS hM mb x.ms.length mc 56 4 mv ∧ MsP K2 x.ms mv ∧ x.cls.length ≤ 1000 ∧ x.ms.length ≤ 1000 ∧ N = [K, hC, K2, hM]) (T.mono h ?_)).mono ?_
      · rintro e o (⟨h1, h2, h3, h4⟩ | ⟨h1, h2⟩)
        · rw [hd] at h2; dsimp only at h2; omega
        · rw [hd] at h2
          obtain ⟨K, hC, K2, hM, clb, cc, mb, mc, cv, mv, h1, h2, h3, h4, h5, h6, h7, rfl⟩ := h2
          exact ⟨[], [K, hC, K2, hM], by simp, rfl, K, hC, K2, hM, clb, cc, mb, mc, cv, mv, h1, h2, h3, h4, h5, h6, h7, rfl⟩
      · rintro e o ⟨A, N, L, rfl, hL, rfl, K, hC, K2, hM, clb, cc, mb, mc, cv, mv, rfl, h2, h3, h4, h5, h6, h7, rfl⟩
        refine ⟨L, _, rfl, ⟨clb, x.cls.length, cc, mb, x.ms.length, mc, rfl, ⟨cv, h2.sl.mono (hL hC (by simp)), by have := h2.hlen; omega, rfl, by omega, fun i f hf => ?_⟩, ⟨mv, h4.sl.mono (hL hM (by simp)), h4.hlen, rfl, by omega, fun i m hm => ?_⟩, h2.hle, h4.hle⟩, rfl⟩
        · obtain ⟨fb, fn, fc, g1, g2, g3, g4⟩ := h3.2 i f hf
          exact ⟨fb, fn, fc, g1, g2.mono (hL K (by simp)), g3, by omega⟩
        · obtain ⟨pb, pc, cb, cc', g1, g2, g3, g4, g5, g6, g7, g8, g9⟩ := h5.2 i m hm
          exact ⟨pb, _, pc, cb, _, cc', g1, g2, g3, g4, g5.mono (hL K2 (by simp)), rfl, by omega, g7.mono (hL K2 (by simp)), rfl, g8, by omega⟩
  · have hd : decF s = .error 0 := by unfold decF; rw [if_neg hp]
    rw [hd]
    refine (T_joinP (R := fun e A N => A = [] ∧ N = [] ∧ e = .returned (.tuple ⟨[zIm, i64 0]⟩)) (T.mono (rDecode_no s hs hp) ?_)).mono ?_
    · rintro e o ⟨rfl, rfl⟩
      exact ⟨[], [], by simp, rfl, rfl, rfl⟩
    · rintro e o ⟨A, N, L, rfl, hL, rfl, rfl, h⟩
      exact ⟨L, rfl, h⟩
/-- An image somewhere in what one has. -/
def ImAt (own : List Heap) (x : Im) (v : Value) : Prop := ∃ k ∈ own, ImIn k x v
theorem rSame_W {own : List Heap} (x y : Im) (v w : Value) (hx : ImAt own x v) (hy : ImAt own y w) : PFn Tryd.prog 24 [v, w] own (.bool (eqIm x y)) :=
  P_whole fun J hJ => by
    obtain ⟨k, hk, h1⟩ := hx
    obtain ⟨l, hl, h2⟩ := hy
    exact rSame_calls J x y v w (h1.mono (hJ k hk)) (h2.mono (hJ l hl))
theorem Same_W {own : List Heap} (x y : Im) (v w : Value) (hx : ImAt own x v) (hy : ImAt own y w) : PFn Tryd.prog 13 [v, w] own (.bool (eqIm x y)) :=
  P_whole fun J hJ => by
    obtain ⟨k, hk, h1⟩ := hx
    obtain ⟨l, hl, h2⟩ := hy
    exact Same_calls J x y v w (h1.mono (hJ k hk)) (h2.mono (hJ l hl))
theorem Encode_W {own : List Heap} (x : Im) (v : Value) (hx : ImAt own x v) : PFn Tryd.prog 8 [v] own (if mayF x then .tuple ⟨[str (imB x), i64 0]⟩ else .tuple ⟨[str [], i64 12]⟩) :=
  P_whole fun J hJ => by
    obtain ⟨k, hk, h1⟩ := hx
    exact Encode_calls J x v (h1.mono (hJ k hk))
theorem Same_eq {own : List Heap} (x : Im) (v w : Value) (hx : ImAt own x v) (hy : ImAt own x w) : PFn Tryd.prog 13 [v, w] own (.bool true) := by
  have := Same_W x x v w hx hy
  rwa [eqIm_iff.2 rfl] at this
/-- Is there an error at that place? -/
def wrongF (s : List UInt8) (p : Int) : Bool := match decF s with | .ok _ => false | .error q => decide ((q : Int) = p)
attribute [local irreducible] SL.T PFn OpV SOL SWP HOp ChU DZ.ChU
-- ALIAS Tryd
theorem decodes_calls {G : Heap} [sg : Ges G] (s : List UInt8) (hs : s.length ≤ 9223372036854775807) : PFn Tryd.prog 10 [str s] [G] (.bool true) := by
  have k1 := Decode_calls s hs
  have k2 := rDecode_calls s hs
  unfold DQ at k1
  unfold DQ2 at k2
  refine pure_of_body Tryd.func10 rfl (Nat.le_of_ble_eq_true rfl) fun F => ?_
  cases hd : decF s with
  | ok x =>
    rw [hd] at k1 k2
    dsimp only at k1 k2
    have hx : eqIm x x = true := eqIm_iff.2 rfl
    repeat' (first
      | refine sl_op rfl rfl rfl (opv_ifNil rfl rfl) ?_
      | refine swp_seq ?_
      | (refine gk 0 rfl ?_; first | refine sl_op rfl rfl rfl (by first | exact opv_move rfl rfl | exact opv_assign rfl rfl | exact opv_pick_t rfl rfl rfl | exact opv_extract rfl rfl rfl ) ?_ )
      | (refine gk 2 rfl ?_; first | refine sl_yes rfl rfl rfl (by first | exact opv_lss rfl rfl rfl ) (by first | omega ) ?_ )
      | (refine gk 3 rfl ?_; first | refine sl_op rfl rfl rfl (by first | exact opv_loadA rfl (by exact rfl) rfl (by exact rfl) (by exact rfl) ) ?_ )
      | (refine gk 4 rfl ?_; first | (refine sl_callT rfl rfl rfl rfl rfl rfl rfl rfl (k1) ?_; rintro _ _ ⟨K1, v, rfl, hK1, rfl⟩; obtain ⟨a1, a2, a3, a4, a5, a6, rfl⟩ := hK1.shape; refine ⟨_, _, rfl, rfl, ?_⟩) | (refine sl_callT rfl rfl rfl rfl rfl rfl rfl rfl (k2) ?_; rintro _ _ ⟨K2, w, rfl, hK2, rfl⟩; obtain ⟨d1, d2, d3, d4, d5, d6, rfl⟩ := hK2.shape; refine ⟨_, _, rfl, rfl, ?_⟩) | refine sl_op rfl rfl rfl (opv_callW rfl rfl rfl rfl rfl (rSame_W x x _ _ ⟨_, by simp, hK1⟩ ⟨_, by simp, hK2⟩)) ?_)
      | (refine gk 5 rfl ?_; first | refine sl_alloc rfl rfl rfl rfl (by exact rfl) (fun β => ?_) | refine sl_store rfl rfl rfl rfl rfl rfl (by exact rfl) rfl (by exact rfl) ?_)
      | refine sl_region rfl ?_
      | refine sl_nil ?_
      | refine thn_k ?_
      | refine swp_true rfl ?_
      | refine swp_ret ?_
      | refine thn_ret ?_
      )
    refine end_pure (resOk_one (resV_tmp rfl)) ?_
    rw [hx]
  | error q =>
    rw [hd] at k1 k2
    dsimp only at k1 k2
    have kn := rSame_calls G noIm noIm zIm zIm (ImIn.no G) (ImIn.no G)
    rw [eqIm_iff.2 rfl] at kn
    repeat' (first
      | refine sl_op rfl rfl rfl (opv_ifSomeN rfl rfl) ?_
      | refine sl_tt rfl rfl rfl (opv_eqlS rfl rfl rfl rfl) (by simp) ?_
      | refine swp_seq ?_
      | (refine gk 0 rfl ?_; first | refine sl_op rfl rfl rfl (by first | exact opv_move rfl rfl | exact opv_assign rfl rfl | exact opv_pick_t rfl rfl rfl | exact opv_extract rfl rfl rfl ) ?_ )
      | (refine gk 2 rfl ?_; first | refine sl_no rfl rfl rfl (by first | exact opv_lss rfl rfl rfl ) (by first | omega ) ?_ )
      | (refine gk 3 rfl ?_; first | refine sl_op rfl rfl rfl (by first | exact opv_loadA rfl (by exact rfl) rfl (by exact rfl) (by exact rfl) ) ?_ )
      | (refine gk 4 rfl ?_; first | (refine sl_callT rfl rfl rfl rfl rfl rfl rfl rfl (k1) ?_; rintro _ _ ⟨βe, rfl, rfl⟩; refine ⟨_, _, rfl, rfl, ?_⟩) | (refine sl_callT rfl rfl rfl rfl rfl rfl rfl rfl (k2) ?_; rintro _ _ ⟨K2, rfl, rfl⟩; refine ⟨_, _, rfl, rfl, ?_⟩) | refine sl_op rfl rfl rfl (opv_call rfl rfl rfl rfl rfl (told_calls (G := G) βe (q : Int))) ?_ | refine sl_op rfl rfl rfl (opv_call rfl rfl rfl rfl rfl (kn)) ?_)
      | (refine gk 5 rfl ?_; first | refine sl_op rfl rfl rfl (by first | exact opv_build rfl rfl (by exact rfl) ) ?_ | refine sl_alloc rfl rfl rfl rfl (by exact rfl) (fun β => ?_) | refine sl_store rfl rfl rfl rfl rfl rfl (by exact rfl) rfl (by exact rfl) ?_)
      | refine sl_region rfl ?_
      | refine sl_nil ?_
      | refine thn_k ?_
      | refine swp_false rfl ?_
      | refine swp_ret ?_
      | refine swp_skip ?_
      )
    refine end_pure (resOk_one (resV_tmp rfl)) ?_
    rfl
theorem wrong_calls {G : Heap} [sg : Ges G] (s : List UInt8) (p : Int) (hs : s.length ≤ 9223372036854775807) : PFn Tryd.prog 15 [str s, i64 p] [G] (.bool (wrongF s p)) := by
  have k1 := Decode_calls s hs
  unfold DQ at k1
  unfold wrongF
  refine pure_of_body Tryd.func15 rfl (Nat.le_of_ble_eq_true rfl) fun F => ?_
  cases hd : decF s with
  | ok x =>
    rw [hd] at k1
    dsimp only at k1
    repeat' (first
      | refine sl_op rfl rfl rfl (opv_ifNilN rfl rfl) ?_
      | refine swp_seq ?_
      | (refine gk 0 rfl ?_; first | refine sl_op rfl rfl rfl (by first | exact opv_move rfl rfl | exact opv_assign rfl rfl | exact opv_pick_f rfl rfl rfl | exact opv_extract rfl rfl rfl ) ?_ | refine sl_pass rfl rfl rfl rfl ?_)
      | (refine gk 2 rfl ?_; first | refine sl_pass rfl rfl rfl rfl ?_ )
      | (refine gk 4 rfl ?_; first | refine sl_pass rfl rfl rfl rfl ?_ | (refine sl_callT rfl rfl rfl rfl rfl rfl rfl rfl (k1) ?_; rintro _ _ ⟨K1, v, rfl, hK1, rfl⟩; obtain ⟨a1, a2, a3, a4, a5, a6, rfl⟩ := hK1.shape; refine ⟨_, _, rfl, rfl, ?_⟩))
      | (refine gk 5 rfl ?_; first | refine sl_pass rfl rfl rfl rfl ?_ | refine sl_alloc rfl rfl rfl rfl (by exact rfl) (fun β => ?_) | refine sl_store rfl rfl rfl rfl rfl rfl (by exact rfl) rfl (by exact rfl) ?_)
      | refine sl_region rfl ?_
      | refine sl_nil ?_
      | refine thn_k ?_
      | refine swp_ret ?_
      )
    refine end_pure (resOk_one (resV_tmp rfl)) ?_
    rfl
  | error q =>
    rw [hd] at k1
    dsimp only at k1 ⊢
    by_cases hq : (q : Int) = p
    · rw [decide_eq_true hq]
      repeat' (first
        | refine sl_op rfl rfl rfl (opv_ifSomeN rfl rfl) ?_
        | refine sl_tt rfl rfl rfl (opv_eqlS rfl rfl rfl rfl) (by simp [hq]) ?_
        | refine swp_seq ?_
        | (refine gk 0 rfl ?_; first | refine sl_op rfl rfl rfl (by first | exact opv_move rfl rfl | exact opv_assign rfl rfl | exact opv_pick_t rfl rfl rfl | exact opv_extract rfl rfl rfl ) ?_ )
        | (refine gk 4 rfl ?_; first | (refine sl_callT rfl rfl rfl rfl rfl rfl rfl rfl (k1) ?_; rintro _ _ ⟨βe, rfl, rfl⟩; refine ⟨_, _, rfl, rfl, ?_⟩) | refine sl_op rfl rfl rfl (opv_call rfl rfl rfl rfl rfl (told_calls (G := G) βe (q : Int))) ?_)
        | (refine gk 5 rfl ?_; first | refine sl_op rfl rfl rfl (by first | exact opv_build rfl rfl (by exact rfl) ) ?_ | refine sl_alloc rfl rfl rfl rfl (by exact rfl) (fun β => ?_) | refine sl_store rfl rfl rfl rfl rfl rfl (by exact rfl) rfl (by exact rfl) ?_)
        | refine sl_region rfl ?_
        | refine sl_nil ?_
        | refine thn_k ?_
        | refine swp_ret ?_
        )
      refine end_pure (resOk_one (resV_tmp rfl)) ?_
      rfl
    · rw [decide_eq_false hq]
      repeat' (first
        | refine sl_op rfl rfl rfl (opv_ifSomeN rfl rfl) ?_
        | refine sl_ff rfl rfl rfl (opv_eqlS rfl rfl rfl rfl) (by simp [hq]) ?_
        | refine swp_seq ?_
        | (refine gk 0 rfl ?_; first | refine sl_op rfl rfl rfl (by first | exact opv_move rfl rfl | exact opv_assign rfl rfl | exact opv_pick_t rfl rfl rfl | exact opv_extract rfl rfl rfl ) ?_ )
        | (refine gk 4 rfl ?_; first | (refine sl_callT rfl rfl rfl rfl rfl rfl rfl rfl (k1) ?_; rintro _ _ ⟨βe, rfl, rfl⟩; refine ⟨_, _, rfl, rfl, ?_⟩) | refine sl_op rfl rfl rfl (opv_call rfl rfl rfl rfl rfl (told_calls (G := G) βe (q : Int))) ?_)
        | (refine gk 5 rfl ?_; first | refine sl_op rfl rfl rfl (by first | exact opv_build rfl rfl (by exact rfl) ) ?_ | refine sl_alloc rfl rfl rfl rfl (by exact rfl) (fun β => ?_) | refine sl_store rfl rfl rfl rfl rfl rfl (by exact rfl) rfl (by exact rfl) ?_)
        | refine sl_region rfl ?_
        | refine sl_nil ?_
        | refine thn_k ?_
        | refine swp_ret ?_
        )
      refine end_pure (resOk_one (resV_tmp rfl)) ?_
      rfl
/-! The chapter's examples. -/
def leastI : Im := ⟨[], [⟨[], 0, 0, [⟨20, 0, 0⟩]⟩]⟩
def leastB : List UInt8 := [68, 75, 1, 0, 1, 0, 0, 0, 1, 0, 20, 0, 0, 0, 0, 0, 0, 0, 0, 0, 0, 0, 0, 0, 0, 0, 0]
theorem least_bytes : imB leastI = leastB := by decide +kernel
theorem least_may : mayF leastI = true := by decide +kernel
theorem least_ok : ImOk leastI := (mayF_iff_ok (fun m hm y hy => by simp [leastI] at hm; subst hm; simp at hy; subst hy; unfold I64; dsimp only; omega)).1 least_may
theorem least_dec : decF leastB = .ok leastI := by rw [← least_bytes]; exact dec_lay least_ok
theorem least_w1 : wrongF (leastB.take 9) 8 = true := by decide +kernel
theorem least_w2 : wrongF (leastB.take 4 ++ [0] ++ leastB.drop 5) 4 = true := by decide +kernel
theorem least_calls : SL.T Tryd.prog 16 [] [] fun e o => ∃ K v, o = [K] ∧ ImIn K leastI v ∧ e = .returned (.tuple ⟨[v, str leastB]⟩) := by
  refine (T_joinP (R := fun e A N => A = [] ∧ ∃ b1 b2 : Nat, N = [blk b1 (.cells ⟨[i64 20, i64 0, i64 0]⟩ 58 (0, 0)), blk b2 (.cells ⟨[.slice none 0 0, i64 0, i64 0, .slice (some ⟨b1, 0, none⟩) 1 1]⟩ 56 (0, 0))] ∧ e = .returned (.tuple ⟨[.agg ⟨[.slice none 0 0, .slice (some ⟨b2, 0, none⟩) 1 1]⟩, str leastB]⟩)) ?_).mono ?_
  · refine t_of_body Tryd.func16 rfl (Nat.le_of_ble_eq_true rfl) fun F => ?_
    repeat' (first
      | refine swp_seq ?_
      | (refine gk 0 rfl ?_; first | refine sl_op rfl rfl rfl (by first | exact opv_assign rfl rfl ) ?_ )
      | (refine gk 5 rfl ?_; first | refine sl_op rfl rfl rfl (by first | exact opv_build rfl rfl (by exact rfl) ) ?_ | refine sl_buildSlice rfl rfl rfl rfl rfl (by exact rfl) (by exact rfl) (by exact rfl) (by exact rfl) rfl (fun b => ?_) | refine sl_alloc rfl rfl rfl rfl (by exact rfl) (fun β => ?_) | refine sl_store rfl rfl rfl rfl rfl rfl (by exact rfl) rfl (by exact rfl) ?_)
      | refine sl_region rfl ?_
      | refine sl_nil ?_
      | refine thn_k ?_
      | refine swp_ret ?_
      )
    rename_i b1
    exact end_retZ [blk b1 (.cells ⟨[i64 20, i64 0, i64 0]⟩ 58 (0, 0)), blk b (.cells ⟨[.slice none 0 0, i64 0, i64 0, .slice (some ⟨b1, 0, none⟩) 1 1]⟩ 56 (0, 0))] (resOk_two (resV_cellA rfl rfl rfl rfl) (resV_tmp rfl)) ⟨[], _, by simp, rfl, b1, b, rfl, rfl⟩
  · rintro e o ⟨A, N, L, rfl, hL, rfl, b1, b2, rfl, rfl⟩
    refine ⟨L, _, rfl, ⟨none, 0, 0, some ⟨b2, 0, none⟩, 1, 1, rfl, ⟨[], ⟨fun j v h => by simp at h⟩, rfl, rfl, by decide, fun i f h => by simp [leastI] at h⟩, ⟨[.slice none 0 0, i64 0, i64 0, .slice (some ⟨b1, 0, none⟩) 1 1], Sl.blk.mono (hL _ (List.mem_cons_of_mem _ (List.mem_cons_self ..))), rfl, rfl, by decide, fun i m hm => ?_⟩, Nat.le_refl _, Nat.le_refl _⟩, rfl⟩
    have hi : i = 0 := by
      have := (List.getElem?_eq_some_iff.1 hm).1
      simp [leastI] at this; exact this
    subst hi
    simp only [leastI, List.getElem?_cons_zero, Option.some.injEq] at hm
    subst hm
    exact ⟨none, 0, 0, some ⟨b1, 0, none⟩, 1, 1, rfl, rfl, rfl, rfl, ⟨fun j v h => by simp at h⟩, rfl, by decide, Sl.blk.mono (hL _ (List.mem_cons_self ..)), rfl, by decide, by decide⟩
theorem works_calls {G : Heap} [sg : Ges G] : PFn Tryd.prog 11 [] [G] (.bool true) := by
  have k1 := Decode_calls leastB (by decide)
  rw [least_dec] at k1
  unfold DQ at k1
  dsimp only at k1
  have w1 := wrong_calls (G := G) (leastB.take (9 : Int).toNat) 8 (by decide)
  have w2 := wrong_calls (G := G) (leastB.take (4 : Int).toNat ++ [0] ++ leastB.drop (5 : Int).toNat) 4 (by decide)
  rw [show wrongF (leastB.take (9 : Int).toNat) 8 = true from least_w1] at w1
  rw [show wrongF (leastB.take (4 : Int).toNat ++ [0] ++ leastB.drop (5 : Int).toNat) 4 = true from least_w2] at w2
  have k8 : ∀ {own : List Heap} (v : Value), ImAt own leastI v → PFn Tryd.prog 8 [v] own (.tuple ⟨[str leastB, i64 0]⟩) := fun v h => by
    have := Encode_W leastI v h
    rwa [if_pos least_may, least_bytes] at this
  have hl : leastB.length = 27 := rfl
  refine pure_of_body Tryd.func11 rfl (Nat.le_of_ble_eq_true rfl) fun F => ?_
  repeat' (first
    | refine sl_op rfl rfl rfl (opv_ifNil rfl rfl) ?_
    | refine sl_tt rfl rfl rfl (opv_eqlStr rfl rfl rfl) (by simp) ?_
    | refine sl_op rfl rfl rfl (opv_sliceSHi rfl rfl rfl (by omega) (by omega)) ?_
    | refine sl_op rfl rfl rfl (opv_sliceSLo rfl rfl rfl (by omega) (by omega)) ?_
    | refine sl_op rfl rfl rfl (opv_addS rfl rfl rfl (by decide)) ?_
    | refine swp_seq ?_
    | (refine gk 0 rfl ?_; first | refine sl_op rfl rfl rfl (by first | exact opv_move rfl rfl | exact opv_assign rfl rfl | exact opv_pick_t rfl rfl rfl | exact opv_extract rfl rfl rfl ) ?_ )
    | (refine gk 2 rfl ?_; first | refine sl_yes rfl rfl rfl (by first | exact opv_eql rfl rfl rfl ) (by first | omega ) ?_ )
    | (refine gk 3 rfl ?_; first | refine sl_op rfl rfl rfl (by first | exact opv_loadA rfl (by exact rfl) rfl (by exact rfl) (by exact rfl) ) ?_ )
    | (refine gk 4 rfl ?_; first | (refine sl_callT rfl rfl rfl rfl rfl rfl rfl rfl (least_calls) ?_; rintro _ _ ⟨K0, v, rfl, hK0, rfl⟩; obtain ⟨a1, a2, a3, a4, a5, a6, rfl⟩ := hK0.shape; refine ⟨_, _, rfl, rfl, ?_⟩) | (refine sl_callT rfl rfl rfl rfl rfl rfl rfl rfl (k1) ?_; rintro _ _ ⟨K1, w, rfl, hK1, rfl⟩; obtain ⟨d1, d2, d3, d4, d5, d6, rfl⟩ := hK1.shape; refine ⟨_, _, rfl, rfl, ?_⟩) | refine sl_op rfl rfl rfl (opv_callW rfl rfl rfl rfl rfl (k8 _ ⟨_, by simp, hK0⟩)) ?_ | refine sl_op rfl rfl rfl (opv_callW rfl rfl rfl rfl rfl (Same_eq leastI _ _ ⟨_, by simp, hK0⟩ ⟨_, by simp, hK1⟩)) ?_ | refine sl_op rfl rfl rfl (opv_call rfl rfl rfl rfl rfl (w1)) ?_ | refine sl_op rfl rfl rfl (opv_call rfl rfl rfl rfl rfl (w2)) ?_)
    | (refine gk 5 rfl ?_; first | refine sl_alloc rfl rfl rfl rfl (by exact rfl) (fun β => ?_) | refine sl_store rfl rfl rfl rfl rfl rfl (by exact rfl) rfl (by exact rfl) ?_)
    | refine sl_region rfl ?_
    | refine sl_draw (by kernel_rfl) (by kernel_rfl) rfl ?_
    | refine sl_nil ?_
    | refine thn_k ?_
    | refine swp_ret ?_
    )
  refine end_pure (resOk_one (resV_tmp rfl)) ?_
  rfl
end Go.Proofs.YtjdjkcebflablaaDoor
