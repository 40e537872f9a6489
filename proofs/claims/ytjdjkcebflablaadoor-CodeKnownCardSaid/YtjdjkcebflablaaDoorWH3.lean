/- The program's decoder: rows of kinds, walked. -/
import Derived.Test.YtjdjkcebflablaaDoorWH2
set_option linter.unusedVariables false
set_option linter.unusedSimpArgs false
set_option linter.unusedSectionVars false
namespace Go.Proofs.YtjdjkcebflablaaDoor
open Go.SL
set_option maxRecDepth 100000
set_option maxHeartbeats 16000000
theorem end_retZ {P : Program} {n : Nat} {fn : Func} {env : Env} {own own1 : List Heap} {ds : List Deferred} {v : Value} {Q : Ending → List Heap → Prop} (hs : List Heap) {rest : List Heap} [m : Marks ds own own1] [t : TakeL own1 hs rest] (hr : ResOk P fn.results.toList own1 env n v)
    (hq : Q (.returned v) hs) : bodyQ P fn n Q .ret env own ds := ⟨v, own1, hs, m, hr, sub_perm, hq⟩
attribute [local irreducible] SL.T PFn OpV SOL SWP HOp ChU DZ.ChU
-- ALIAS Tryd
-- CHANGES 46 65 67 50 68
theorem kindsR_calls (βr : Nat) (s : List UInt8) (a : Nat) (most cl : Int) (hs : s.length ≤ 9223372036854775807) (ha : a ≤ s.length) (hm : most ≤ 1000) :
    SL.T Tryd.prog 50 [ptr βr, i64 most, i64 cl] [rdr βr s a]
      (RQ (kindsR s most cl a) fun l b e o => ∃ h base cap, e = .returned (.slice base l.length cap) ∧ OS h base l.length cap 50 1 (l.map i64) ∧ b ≤ s.length ∧ l.length ≤ 1000 ∧ o = [h, rdr βr s b]) := by
  have g1 := fun b1 b2 => getf_calls βr s a 1 b1 b2 0 most hs ha (by decide)
  unfold kindsR
  cases h1 : num s 1 (fun z => wi z 0 most) a with
  | error q =>
    rw [h1] at g1
    refine t_of_body Tryd.func50 rfl (Nat.le_of_ble_eq_true rfl) fun F => ?_
    repeat' (first
      | refine swp_seq ?_
      | (refine gk 0 rfl ?_; first | refine sl_op rfl rfl rfl (by first | exact opv_assign rfl rfl ) ?_ )
      | (refine gk 5 rfl ?_; first | refine sl_box rfl rfl rfl rfl rfl rfl (fun β => ?_) )
      | refine sl_region rfl ?_
      | refine sl_nil ?_
      )
    refine DZ.sl_drawC [.q [0, 1], .f [4], .h false 2, .h true 3, .h true 5, .q [6]] [] (by kernel_rfl) (by kernel_rfl) (by kernel_rfl) (by kernel_rfl) ?_
    repeat' (first
      | (refine gk 0 rfl ?_; first | refine sl_op rfl rfl rfl (by first | exact opv_move rfl rfl | exact opv_makeFunc rfl rfl rfl) ?_ )
      | (refine gk 3 rfl ?_; first | refine sl_op rfl rfl rfl (by first | exact opv_load rfl (by exact rfl) rfl (by exact rfl) ) ?_ )
      | refine DZ.chu_q rfl ?_
      | refine DZ.chu_f rfl ?_
      | (refine DZ.chu_T rfl rfl rfl rfl rfl rfl rfl rfl (from_calls 0 most) (by rintro _ _ ⟨b1, b2, rfl, rfl⟩; exact ⟨_, rfl⟩) ?_; rintro _ _ ⟨b1, b2, rfl, rfl⟩; refine ⟨_, _, rfl, rfl, ?_⟩)
      | (refine DZ.chu_Z rfl rfl rfl rfl rfl rfl rfl rfl (g1 _ _) (fun h => by cases h) (fun _ => .inl ⟨_, List.Perm.refl _⟩) ?_; rintro _ _ ⟨βf, rfl, rfl⟩; refine .inr ⟨_, _, rfl, rfl, ?_⟩; repeat (first | refine thn_panic ?_ ))
      | refine sl_nil ?_
      )
    exact pan_end ⟨_, rfl, rfl⟩
  | ok r1 =>
    obtain ⟨n1, y⟩ := r1
    rw [h1] at g1
    obtain ⟨hw, -, hy⟩ := num_ok h1
    have hn1 : 0 ≤ n1 ∧ n1 ≤ most := by unfold wi at hw; simpa using hw
    obtain ⟨n, rfl⟩ := Int.eq_ofNat_of_zero_le hn1.1
    have g2 := fun βp β2 => someK_calls n βp βr β2 s y cl hs hy (by omega)
    dsimp only
    rw [Int.toNat_natCast]
    cases h2 : rep (num s 1 fun z => wi z 0 cl) n y with
    | error q =>
      rw [h2] at g2
      refine t_of_body Tryd.func50 rfl (Nat.le_of_ble_eq_true rfl) fun F => ?_
      repeat' (first
        | refine swp_seq ?_
        | (refine gk 0 rfl ?_; first | refine sl_op rfl rfl rfl (by first | exact opv_assign rfl rfl ) ?_ )
        | (refine gk 5 rfl ?_; first | refine sl_box rfl rfl rfl rfl rfl rfl (fun β => ?_) )
        | refine sl_region rfl ?_
        | refine sl_nil ?_
        )
      refine DZ.sl_drawC [.q [0, 1], .f [4], .h false 2, .h true 3, .h true 5, .q [6]] [] (by kernel_rfl) (by kernel_rfl) (by kernel_rfl) (by kernel_rfl) ?_
      repeat' (first
        | (refine gk 0 rfl ?_; first | refine sl_op rfl rfl rfl (by first | exact opv_move rfl rfl | exact opv_makeFunc rfl rfl rfl) ?_ )
        | (refine gk 3 rfl ?_; first | refine sl_op rfl rfl rfl (by first | exact opv_load rfl (by exact rfl) rfl (by exact rfl) ) ?_ )
        | refine DZ.chu_q rfl ?_
        | refine DZ.chu_f rfl ?_
        | (refine DZ.chu_T rfl rfl rfl rfl rfl rfl rfl rfl (from_calls 0 most) (by rintro _ _ ⟨b1, b2, rfl, rfl⟩; exact ⟨_, rfl⟩) ?_; rintro _ _ ⟨b1, b2, rfl, rfl⟩; refine ⟨_, _, rfl, rfl, ?_⟩)
        | (refine DZ.chu_Tc rfl rfl rfl rfl rfl rfl rfl rfl (g1 _ _) ?_; rintro _ _ ⟨rfl, rfl⟩; refine ⟨_, _, rfl, rfl, ?_⟩)
        | (refine DZ.chu_Z rfl rfl rfl rfl rfl rfl rfl rfl (g2 _ _) (fun h => by cases h) (fun _ => .inl ⟨_, List.Perm.refl _⟩) ?_; rintro _ _ ⟨βf, rfl, rfl⟩; refine .inr ⟨_, _, rfl, rfl, ?_⟩; repeat (first | refine thn_panic ?_ ))
        | refine sl_nil ?_
        )
      exact pan_end ⟨_, rfl, rfl⟩
    | ok r2 =>
      obtain ⟨l, x⟩ := r2
      rw [h2] at g2
      refine t_of_body Tryd.func50 rfl (Nat.le_of_ble_eq_true rfl) fun F => ?_
      repeat' (first
        | refine swp_seq ?_
        | (refine gk 0 rfl ?_; first | refine sl_op rfl rfl rfl (by first | exact opv_assign rfl rfl ) ?_ )
        | (refine gk 5 rfl ?_; first | refine sl_box rfl rfl rfl rfl rfl rfl (fun β => ?_) )
        | refine sl_region rfl ?_
        | refine sl_nil ?_
        )
      refine DZ.sl_drawC [.q [0, 1], .f [4], .h false 2, .h true 3, .h true 5, .q [6]] [] (by kernel_rfl) (by kernel_rfl) (by kernel_rfl) (by kernel_rfl) ?_
      repeat' (first
        | (refine gk 0 rfl ?_; first | refine sl_op rfl rfl rfl (by first | exact opv_move rfl rfl | exact opv_assign rfl rfl | exact opv_makeFunc rfl rfl rfl) ?_ )
        | (refine gk 3 rfl ?_; first | refine sl_op rfl rfl rfl (by first | exact opv_load rfl (by exact rfl) rfl (by exact rfl) ) ?_ )
        | refine DZ.chu_nil ?_
        | refine DZ.chu_q rfl ?_
        | refine DZ.chu_f rfl ?_
        | (refine DZ.chu_T rfl rfl rfl rfl rfl rfl rfl rfl (from_calls 0 most) (by rintro _ _ ⟨b1, b2, rfl, rfl⟩; exact ⟨_, rfl⟩) ?_; rintro _ _ ⟨b1, b2, rfl, rfl⟩; refine ⟨_, _, rfl, rfl, ?_⟩)
        | (refine DZ.chu_Tc rfl rfl rfl rfl rfl rfl rfl rfl (g1 _ _) ?_; rintro _ _ ⟨rfl, rfl⟩; refine ⟨_, _, rfl, rfl, ?_⟩)
        | (refine DZ.chu_Tc rfl rfl rfl rfl rfl rfl rfl rfl (g2 _ _) ?_; rintro _ _ ⟨h, base, cap, rfl, os, hx, hl, rfl⟩; refine ⟨_, _, rfl, rfl, ?_⟩)
        | refine sl_nil ?_
        | refine thn_k ?_
        | refine swp_ret ?_
        )
      subst hl
      exact end_retZ [h, rdr βr s x] (resOk_one (resV_tmp rfl)) ⟨h, base, cap, rfl, os, hx, by omega, rfl⟩
end Go.Proofs.YtjdjkcebflablaaDoor
