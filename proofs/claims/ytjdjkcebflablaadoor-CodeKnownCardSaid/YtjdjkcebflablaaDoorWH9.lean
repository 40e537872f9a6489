/- The program's decoder: Decode, walked; its deferred function. -/
import Derived.Test.YtjdjkcebflablaaDoorWH8
set_option linter.unusedVariables false
set_option linter.unusedSimpArgs false
set_option linter.unusedSectionVars false
namespace Go.Proofs.YtjdjkcebflablaaDoor
open Go.SL
set_option maxRecDepth 100000
set_option maxHeartbeats 16000000
theorem sub_permX {own hs rest : List Heap} [t : TakeL own hs rest] : ∀ (X : List Heap) w, Sat (own ++ X) w → Sat (hs ++ X) w :=
  fun X w s => (s.perm (t.perm.append_right X)).sub (List.Sublist.append (List.sublist_append_left hs rest) (List.Sublist.refl X))
attribute [local irreducible] SL.T PFn OpV SOL SWP HOp ChU DZ.ChU
-- ALIAS Tryd
abbrev zIm : Value := .agg ⟨[.slice none 0 0, .slice none 0 0]⟩
theorem dec1_ret (b2 b3 : Nat) : TD Tryd.prog 25 [ptr b2, ptr b3] [] .returning fun e m own => m = .returning ∧ (e = .returned (.tuple #[]) ∧ own = []) := by
  refine td_recover (v := .nilIface) (fun c₀ cs hu => .inr ⟨by simp [recoverD, hu], rfl, rfl⟩) Tryd.func25 rfl (Nat.le_of_ble_eq_true rfl) rfl rfl rfl rfl rfl rfl rfl rfl rfl rfl rfl (fun F => ?_)
  repeat' (first
    | refine sl_op rfl rfl rfl (opv_ifNilN rfl rfl) ?_
    | refine swp_seq ?_
    | (refine gk 0 rfl ?_; first | refine sl_op rfl rfl rfl (by first | exact opv_move rfl rfl ) ?_ )
    | refine sl_region rfl ?_
    | refine sl_nil ?_
    | refine thn_k ?_
    | refine swp_false rfl ?_
    | refine swp_skip ?_
    )
  exact ⟨rfl, _, [], resOk_nil, fun _ _ s => s, rfl, rfl⟩
theorem dec1_pan (b2 b3 βe : Nat) (c1 c2 c3 : Value) : TD Tryd.prog 25 [ptr b2, ptr b3] [blk b2 (.cells ⟨[c1, c2]⟩ 25 (0, 0)), blk b3 (.cells ⟨[c3]⟩ 38 (0, 0))] (.panicking [{ v := errV βe, recovered := false }])
    fun e m own => m = .panicking [{ v := errV βe, recovered := true }] ∧ (e = .returned (.tuple #[]) ∧ own = [blk b2 (.cells ⟨[.slice none 0 0, .slice none 0 0]⟩ 25 (0, 0)), blk b3 (.cells ⟨[errV βe]⟩ 38 (0, 0))]) := by
  refine td_recover (v := errV βe) (fun c₀ cs hu => .inl (by simp [recoverD, hu])) Tryd.func25 rfl (Nat.le_of_ble_eq_true rfl) rfl rfl rfl rfl rfl rfl rfl rfl rfl rfl rfl (fun F => ?_)
  repeat' (first
    | refine sl_op rfl rfl rfl (opv_ifSomeN rfl rfl) ?_
    | refine sl_op rfl rfl rfl (opv_assertYes rfl rfl rfl) ?_
    | refine swp_seq ?_
    | (refine gk 0 rfl ?_; first | refine sl_op rfl rfl rfl (by first | exact opv_move rfl rfl | exact opv_assign rfl rfl | exact opv_not_t rfl rfl | exact opv_extract rfl rfl rfl ) ?_ )
    | (refine gk 5 rfl ?_; first | refine sl_alloc rfl rfl rfl rfl (by exact rfl) (fun β => ?_) | refine sl_store rfl rfl rfl rfl rfl rfl (by exact rfl) rfl (by exact rfl) ?_)
    | refine sl_region rfl ?_
    | refine sl_nil ?_
    | refine thn_k ?_
    | refine swp_true rfl ?_
    | refine swp_false rfl ?_
    | refine swp_skip ?_
    )
  refine sl_drawC [.q [0], .r [1, 2], .h true 3, .h true 4] [blk β (.cells ⟨[ptr βe]⟩ 74 (0, 0))] (by kernel_rfl) (by kernel_rfl) (by kernel_rfl) (by kernel_rfl) ?_
  repeat' (first
    | refine sl_op rfl rfl rfl (opv_makeInterface rfl rfl rfl) ?_
    | (refine gk 3 rfl ?_; first | refine sl_op rfl rfl rfl (by first | exact opv_loadA rfl (by exact rfl) rfl (by exact rfl) (by exact rfl) ) ?_ )
    | (refine gk 5 rfl ?_; first | refine sl_op rfl rfl rfl (by first | exact opv_build rfl rfl (by exact rfl) ) ?_ )
    | refine chu_nil ?_
    | refine chu_q rfl ?_
    | refine chu_r rfl ?_
    | refine chu_store rfl rfl rfl rfl rfl rfl (by exact rfl) rfl (by exact rfl) (by exact rfl) ?_
    | refine sl_nil ?_
    )
  exact ⟨rfl, _, _, resOk_nil, sub_permX, rfl, rfl⟩
/-- What Decode answers. -/
def DQ (r : Except Nat Im) (e : Ending) (o : List Heap) : Prop := match r with
  | .ok x => ∃ K v, o = [K] ∧ ImIn K x v ∧ e = .returned (.tuple ⟨[v, .nilIface]⟩)
  | .error q => ∃ β, o = [faultB β (q : Int)] ∧ e = .returned (.tuple ⟨[zIm, errV β]⟩)
theorem Decode_pre (s : List UInt8) (hs : s.length ≤ 9223372036854775807) :
    SL.T Tryd.prog 12 [str s] [] fun e o => match decF s with
      | .ok x => ∃ K hC K2 hM clb cc mb mc cv mv, e = .returned (.tuple ⟨[.agg ⟨[.slice clb x.cls.length cc, .slice mb x.ms.length mc]⟩, .nilIface]⟩) ∧ OS hC clb x.cls.length cc 53 1 cv ∧ ClsP K x.cls cv ∧ OS hM mb x.ms.length mc 56 4 mv ∧ MsP K2 x.ms mv ∧ x.cls.length ≤ 1000 ∧ x.ms.length ≤ 1000 ∧ o = [K, hC, K2, hM]
      | .error q => ∃ β, o = [faultB β (q : Int)] ∧ e = .returned (.tuple ⟨[zIm, errV β]⟩) := by
  have g := fun βr => image_calls βr s hs
  cases h : decF s with
  | ok x =>
    rw [h] at g
    refine t_of_bodyD Tryd.func12 rfl (Nat.le_of_ble_eq_true rfl) fun F => ?_
    repeat' (first
      | refine sl_defer rfl rfl rfl rfl rfl rfl ?_
      | refine swp_seq ?_
      | (refine gk 0 rfl ?_; first | refine sl_op rfl rfl rfl (by first | exact opv_move rfl rfl | exact opv_assign rfl rfl | exact opv_makeFunc rfl rfl rfl) ?_ )
      | (refine gk 4 rfl ?_; first | (refine sl_callT rfl rfl rfl rfl rfl rfl rfl rfl (g _) ?_; rintro _ _ ⟨K, hC, K2, hM, clb, cc, mb, mc, cv, mv, rfl, osC, hP, osM, hPM, hl1, hl2, rfl⟩; refine ⟨_, _, rfl, rfl, ?_⟩))
      | (refine gk 5 rfl ?_; first | refine sl_op rfl rfl rfl (by first | exact opv_build rfl rfl (by exact rfl) ) ?_ | refine sl_box rfl rfl rfl rfl rfl rfl (fun β => ?_) | refine sl_alloc rfl rfl rfl rfl (by exact rfl) (fun β => ?_) | refine sl_store rfl rfl rfl rfl rfl rfl (by exact rfl) rfl (by exact rfl) ?_)
      | refine sl_region rfl ?_
      | refine sl_nil ?_
      | refine thn_k ?_
      | refine swp_ret ?_
      )
    refine lvd_one (dargs := []) (hs := []) (by simp) rfl (dec1_ret _ _) ?_
    rintro _ _ _ ⟨rfl, rfl, rfl⟩
    simp only [List.nil_append]
    exact ⟨⟨_, rfl⟩, rfl, _, [K, hC, K2, hM], resOk_two (resV_cellA rfl rfl rfl rfl) (resV_cell rfl rfl rfl), sub_permX, K, hC, K2, hM, clb, cc, mb, mc, cv, mv, rfl, osC, hP, osM, hPM, hl1, hl2, rfl⟩
  | error q =>
    rw [h] at g
    refine t_of_bodyD Tryd.func12 rfl (Nat.le_of_ble_eq_true rfl) fun F => ?_
    repeat' (first
      | refine sl_defer rfl rfl rfl rfl rfl rfl ?_
      | refine swp_seq ?_
      | (refine gk 0 rfl ?_; first | refine sl_op rfl rfl rfl (by first | exact opv_move rfl rfl | exact opv_assign rfl rfl | exact opv_makeFunc rfl rfl rfl) ?_ )
      | (refine gk 4 rfl ?_; first | (refine sl_call rfl rfl rfl rfl rfl rfl rfl rfl (g _) ?_; rintro _ _ ⟨βf, rfl, rfl⟩; refine .inr ⟨_, rfl, ?_⟩; repeat (first | refine thn_panic ?_ )))
      | (refine gk 5 rfl ?_; first | refine sl_op rfl rfl rfl (by first | exact opv_build rfl rfl (by exact rfl) ) ?_ | refine sl_box rfl rfl rfl rfl rfl rfl (fun β => ?_) | refine sl_alloc rfl rfl rfl rfl (by exact rfl) (fun β => ?_) )
      | refine sl_region rfl ?_
      | refine sl_nil ?_
      )
    simp only [List.cons_append, List.nil_append]
    refine lvd_one (dargs := []) (by simp) rfl (dec1_pan _ _ _ (.slice none 0 0) (.slice none 0 0) .nilIface) ?_
    rintro _ _ _ ⟨rfl, rfl, rfl⟩
    simp only [List.cons_append, List.nil_append]
    exact ⟨⟨_, rfl⟩, rfl, _, [faultB βf q], resOk_two (resV_cellA rfl rfl rfl rfl) (resV_cell rfl rfl rfl), (fun X w s => s.tail.tail), βf, rfl, rfl⟩
theorem Decode_calls (s : List UInt8) (hs : s.length ≤ 9223372036854775807) : SL.T Tryd.prog 12 [str s] [] (DQ (decF s)) := by
  have h := Decode_pre s hs
  unfold DQ
  cases hd : decF s with
  | error q => rw [hd] at h; exact h
  | ok x =>
    rw [hd] at h
    refine (T_joinP (R := fun e A N => A = [] ∧ ∃ K hC K2 hM clb cc mb mc cv mv, e = .returned (.tuple ⟨[.agg ⟨[.slice clb x.cls.length cc, .slice mb x.ms.length mc]⟩, .nilIface]⟩) ∧ OS hC clb x.cls.length cc 53 1 cv ∧ ClsP K x.cls cv ∧ OS hM mb x.ms.length mc 56 4 mv ∧ MsP K2 x.ms mv ∧ x.cls.length ≤ 1000 ∧ x.ms.length ≤ 1000 ∧ N = [K, hC, K2, hM]) (T.mono h ?_)).mono ?_
    · rintro e o ⟨K, hC, K2, hM, clb, cc, mb, mc, cv, mv, h1, h2, h3, h4, h5, h6, h7, rfl⟩
      exact ⟨[], [K, hC, K2, hM], by simp, rfl, K, hC, K2, hM, clb, cc, mb, mc, cv, mv, h1, h2, h3, h4, h5, h6, h7, rfl⟩
    · rintro e o ⟨A, N, L, rfl, hL, rfl, K, hC, K2, hM, clb, cc, mb, mc, cv, mv, rfl, h2, h3, h4, h5, h6, h7, rfl⟩
      refine ⟨L, _, rfl, ⟨clb, x.cls.length, cc, mb, x.ms.length, mc, rfl, ⟨cv, h2.sl.mono (hL hC (by simp)), by have := h2.hlen; omega, rfl, by omega, fun i f hf => ?_⟩, ⟨mv, h4.sl.mono (hL hM (by simp)), h4.hlen, rfl, by omega, fun i m hm => ?_⟩, h2.hle, h4.hle⟩, rfl⟩
      · obtain ⟨fb, fn, fc, g1, g2, g3, g4⟩ := h3.2 i f hf
        exact ⟨fb, fn, fc, g1, g2.mono (hL K (by simp)), g3, by omega⟩
      · obtain ⟨pb, pc, cb, cc', g1, g2, g3, g4, g5, g6, g7, g8, g9⟩ := h5.2 i m hm
        exact ⟨pb, _, pc, cb, _, cc', g1, g2, g3, g4, g5.mono (hL K2 (by simp)), rfl, by omega, g7.mono (hL K2 (by simp)), rfl, g8, by omega⟩
end Go.Proofs.YtjdjkcebflablaaDoor
