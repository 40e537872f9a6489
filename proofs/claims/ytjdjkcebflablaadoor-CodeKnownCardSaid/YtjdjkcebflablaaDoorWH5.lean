/- The program's decoder: a method, walked (printed by h5.py). -/
import Derived.Test.YtjdjkcebflablaaDoorWH4
set_option linter.unusedVariables false
set_option linter.unusedSimpArgs false
set_option linter.unusedSectionVars false
namespace Go.Proofs.YtjdjkcebflablaaDoor
open Go.SL
set_option maxRecDepth 100000
set_option maxHeartbeats 16000000
theorem rep_le {α : Type} {r : Rd α} {s : List UInt8} (hr : ∀ {a b : Nat} {x : α}, a ≤ s.length → r a = .ok (x, b) → b ≤ s.length) : ∀ {n a b : Nat} {l : List α}, a ≤ s.length → rep r n a = .ok (l, b) → b ≤ s.length := by
  intro n
  induction n with
  | zero => intro a b l ha h; simp only [rep] at h; cases h; exact ha
  | succ n ih =>
    intro a b l ha h
    simp only [rep] at h
    split at h
    · rename_i h1
      split at h
      · rename_i h2
        cases h
        exact hr (ih ha h1) h2
      · cases h
    · cases h
theorem kindsR_ok {s : List UInt8} {a b : Nat} {most cl : Int} {l : List Int} (ha : a ≤ s.length) (h : kindsR s most cl a = .ok (l, b)) : b ≤ s.length := by
  unfold kindsR at h
  split at h
  · rename_i h1
    exact rep_le (fun _ h => (num_ok h).2.2) (num_ok h1).2.2 h
  · cases h
attribute [local irreducible] SL.T PFn OpV SOL SWP HOp ChU DZ.ChU
-- ALIAS Tryd
-- CHANGES 46 65 67 50 68
theorem methodR_calls (βr : Nat) (s : List UInt8) (a : Nat) (most cl : Int) (hs : s.length ≤ 9223372036854775807) (ha : a ≤ s.length) (hm : most ≤ 1000) :
    SL.T Tryd.prog 53 [ptr βr, i64 most, i64 cl] [rdr βr s a]
      (RQ (methodR s most cl a) fun m b e o => ∃ hp pb pc hc cb cc, e = .returned (.agg ⟨[.slice pb m.params.length pc, i64 m.lo, i64 m.st, .slice cb m.code.length cc]⟩) ∧ OS hp pb m.params.length pc 50 1 (m.params.map i64) ∧ OS hc cb m.code.length cc 58 3 (flatI m.code) ∧ m.params.length ≤ 1000 ∧ m.code.length ≤ 1000 ∧ b ≤ s.length ∧ o = [hp, hc, rdr βr s b]) := by
  unfold methodR
  have g0 := kindsR_calls βr s a most cl hs ha hm
  cases h0 : kindsR s most cl a with
  | error q =>
    rw [h0] at g0
    refine t_of_body Tryd.func53 rfl (Nat.le_of_ble_eq_true rfl) fun F => ?_
    repeat' (first
      | refine swp_seq ?_
      | (refine gk 0 rfl ?_; first | refine sl_op rfl rfl rfl (by first | exact opv_move rfl rfl ) ?_ )
      | (refine gk 4 rfl ?_; first | (refine sl_call rfl rfl rfl rfl rfl rfl rfl rfl (g0) ?_; rintro _ _ ⟨βf, rfl, rfl⟩; refine .inr ⟨_, rfl, ?_⟩; repeat (first | refine thn_panic ?_ )))
      | (refine gk 5 rfl ?_; first | refine sl_alloc rfl rfl rfl rfl (by exact rfl) (fun β => ?_) )
      | refine sl_region rfl ?_
      | refine sl_nil ?_
      )
    exact pan_end ⟨_, rfl, rfl⟩
  | ok r0 =>
    obtain ⟨ps, x0⟩ := r0
    rw [h0] at g0
    have hx0 : x0 ≤ s.length := kindsR_ok ha h0
    dsimp only
    have g1 := fun b1 b2 => getf_calls βr s x0 1 b1 b2 ps.length 16 hs hx0 (by decide)
    cases h1 : num s 1 (fun z => wi z ps.length 16) x0 with
    | error q =>
      rw [h1] at g1
      refine t_of_body Tryd.func53 rfl (Nat.le_of_ble_eq_true rfl) fun F => ?_
      repeat' (first
        | refine swp_seq ?_
        | (refine gk 0 rfl ?_; first | refine sl_op rfl rfl rfl (by first | exact opv_move rfl rfl ) ?_ )
        | (refine gk 3 rfl ?_; first | refine sl_op rfl rfl rfl (by first | exact opv_load rfl (by exact rfl) rfl (by exact rfl) | exact opv_fieldAddr rfl rfl ) ?_ )
        | (refine gk 4 rfl ?_; first | refine sl_op rfl rfl rfl (by first | exact opv_len rfl rfl rfl rfl rfl ) ?_ | (refine sl_callT rfl rfl rfl rfl rfl rfl rfl rfl (from_calls ps.length 16) ?_; rintro _ _ ⟨b1, b2, rfl, rfl⟩; refine ⟨_, _, rfl, rfl, ?_⟩) | (refine sl_callT rfl rfl rfl rfl rfl rfl rfl rfl (g0) ?_; rintro _ _ ⟨hp, pb, pc, rfl, osp, hx0, hpl, rfl⟩; refine ⟨_, _, rfl, rfl, ?_⟩) | (refine sl_call rfl rfl rfl rfl rfl rfl rfl rfl (g1 _ _) ?_; rintro _ _ ⟨βf, rfl, rfl⟩; refine .inr ⟨_, rfl, ?_⟩; repeat (first | refine thn_panic ?_ )))
        | (refine gk 5 rfl ?_; first | refine sl_op rfl rfl rfl (by first | exact opv_build rfl rfl (by exact rfl) ) ?_ | refine sl_alloc rfl rfl rfl rfl (by exact rfl) (fun β => ?_) | refine sl_store rfl rfl rfl rfl rfl rfl (by exact rfl) rfl (by exact rfl) ?_)
        | refine sl_region rfl ?_
        | refine sl_nil ?_
        )
      exact pan_end ⟨_, rfl, rfl⟩
    | ok r1 =>
      obtain ⟨lo, x1⟩ := r1
      rw [h1] at g1
      have hx1 : x1 ≤ s.length := (num_ok h1).2.2
      dsimp only
      have g2 := fun b1 b2 => getf_calls βr s x1 1 b1 b2 0 32 hs hx1 (by decide)
      cases h2 : num s 1 (fun z => wi z 0 32) x1 with
      | error q =>
        rw [h2] at g2
        refine t_of_body Tryd.func53 rfl (Nat.le_of_ble_eq_true rfl) fun F => ?_
        repeat' (first
          | refine swp_seq ?_
          | (refine gk 0 rfl ?_; first | refine sl_op rfl rfl rfl (by first | exact opv_move rfl rfl ) ?_ )
          | (refine gk 3 rfl ?_; first | refine sl_op rfl rfl rfl (by first | exact opv_load rfl (by exact rfl) rfl (by exact rfl) | exact opv_fieldAddr rfl rfl ) ?_ )
          | (refine gk 4 rfl ?_; first | refine sl_op rfl rfl rfl (by first | exact opv_len rfl rfl rfl rfl rfl ) ?_ | (refine sl_callT rfl rfl rfl rfl rfl rfl rfl rfl (from_calls ps.length 16) ?_; rintro _ _ ⟨b1, b2, rfl, rfl⟩; refine ⟨_, _, rfl, rfl, ?_⟩) | (refine sl_callT rfl rfl rfl rfl rfl rfl rfl rfl (from_calls 0 32) ?_; rintro _ _ ⟨b3, b4, rfl, rfl⟩; refine ⟨_, _, rfl, rfl, ?_⟩) | (refine sl_callT rfl rfl rfl rfl rfl rfl rfl rfl (g0) ?_; rintro _ _ ⟨hp, pb, pc, rfl, osp, hx0, hpl, rfl⟩; refine ⟨_, _, rfl, rfl, ?_⟩) | (refine sl_callT rfl rfl rfl rfl rfl rfl rfl rfl (g1 _ _) ?_; rintro _ _ ⟨rfl, rfl⟩; refine ⟨_, _, rfl, rfl, ?_⟩) | (refine sl_call rfl rfl rfl rfl rfl rfl rfl rfl (g2 _ _) ?_; rintro _ _ ⟨βf, rfl, rfl⟩; refine .inr ⟨_, rfl, ?_⟩; repeat (first | refine thn_panic ?_ )))
          | (refine gk 5 rfl ?_; first | refine sl_op rfl rfl rfl (by first | exact opv_build rfl rfl (by exact rfl) ) ?_ | refine sl_alloc rfl rfl rfl rfl (by exact rfl) (fun β => ?_) | refine sl_store rfl rfl rfl rfl rfl rfl (by exact rfl) rfl (by exact rfl) ?_)
          | refine sl_region rfl ?_
          | refine sl_nil ?_
          )
        exact pan_end ⟨_, rfl, rfl⟩
      | ok r2 =>
        obtain ⟨st, x2⟩ := r2
        rw [h2] at g2
        have hx2 : x2 ≤ s.length := (num_ok h2).2.2
        dsimp only
        have g3 := fun b1 b2 => getf_calls βr s x2 2 b1 b2 1 256 hs hx2 (by decide)
        cases h3 : num s 2 (fun z => wi z 1 256) x2 with
        | error q =>
          rw [h3] at g3
          refine t_of_body Tryd.func53 rfl (Nat.le_of_ble_eq_true rfl) fun F => ?_
          repeat' (first
            | refine swp_seq ?_
            | (refine gk 0 rfl ?_; first | refine sl_op rfl rfl rfl (by first | exact opv_move rfl rfl ) ?_ )
            | (refine gk 3 rfl ?_; first | refine sl_op rfl rfl rfl (by first | exact opv_load rfl (by exact rfl) rfl (by exact rfl) | exact opv_fieldAddr rfl rfl ) ?_ )
            | (refine gk 4 rfl ?_; first | refine sl_op rfl rfl rfl (by first | exact opv_len rfl rfl rfl rfl rfl ) ?_ | (refine sl_callT rfl rfl rfl rfl rfl rfl rfl rfl (from_calls ps.length 16) ?_; rintro _ _ ⟨b1, b2, rfl, rfl⟩; refine ⟨_, _, rfl, rfl, ?_⟩) | (refine sl_callT rfl rfl rfl rfl rfl rfl rfl rfl (from_calls 0 32) ?_; rintro _ _ ⟨b3, b4, rfl, rfl⟩; refine ⟨_, _, rfl, rfl, ?_⟩) | (refine sl_callT rfl rfl rfl rfl rfl rfl rfl rfl (from_calls 1 256) ?_; rintro _ _ ⟨b5, b6, rfl, rfl⟩; refine ⟨_, _, rfl, rfl, ?_⟩) | (refine sl_callT rfl rfl rfl rfl rfl rfl rfl rfl (g0) ?_; rintro _ _ ⟨hp, pb, pc, rfl, osp, hx0, hpl, rfl⟩; refine ⟨_, _, rfl, rfl, ?_⟩) | (refine sl_callT rfl rfl rfl rfl rfl rfl rfl rfl (g1 _ _) ?_; rintro _ _ ⟨rfl, rfl⟩; refine ⟨_, _, rfl, rfl, ?_⟩) | (refine sl_callT rfl rfl rfl rfl rfl rfl rfl rfl (g2 _ _) ?_; rintro _ _ ⟨rfl, rfl⟩; refine ⟨_, _, rfl, rfl, ?_⟩) | (refine sl_call rfl rfl rfl rfl rfl rfl rfl rfl (g3 _ _) ?_; rintro _ _ ⟨βf, rfl, rfl⟩; refine .inr ⟨_, rfl, ?_⟩; repeat (first | refine thn_panic ?_ )))
            | (refine gk 5 rfl ?_; first | refine sl_op rfl rfl rfl (by first | exact opv_build rfl rfl (by exact rfl) ) ?_ | refine sl_alloc rfl rfl rfl rfl (by exact rfl) (fun β => ?_) | refine sl_store rfl rfl rfl rfl rfl rfl (by exact rfl) rfl (by exact rfl) ?_)
            | refine sl_region rfl ?_
            | refine sl_nil ?_
            )
          exact pan_end ⟨_, rfl, rfl⟩
        | ok r3 =>
          obtain ⟨n, x3⟩ := r3
          rw [h3] at g3
          obtain ⟨hw, -, hx3⟩ := num_ok h3
          have hn1 : 1 ≤ n ∧ n ≤ 256 := by unfold wi at hw; simpa using hw
          obtain ⟨n, rfl⟩ := Int.eq_ofNat_of_zero_le (show 0 ≤ n by omega)
          dsimp only
          rw [Int.toNat_natCast]
          have g4 := someI_calls n βr s x3 hs hx3 (by omega)
          cases h4 : rep (insR s) n x3 with
          | error q =>
            rw [h4] at g4
            refine t_of_body Tryd.func53 rfl (Nat.le_of_ble_eq_true rfl) fun F => ?_
            repeat' (first
              | refine swp_seq ?_
              | (refine gk 0 rfl ?_; first | refine sl_op rfl rfl rfl (by first | exact opv_move rfl rfl | exact opv_makeFunc rfl rfl rfl) ?_ )
              | (refine gk 3 rfl ?_; first | refine sl_op rfl rfl rfl (by first | exact opv_load rfl (by exact rfl) rfl (by exact rfl) | exact opv_fieldAddr rfl rfl ) ?_ )
              | (refine gk 4 rfl ?_; first | refine sl_op rfl rfl rfl (by first | exact opv_len rfl rfl rfl rfl rfl ) ?_ | (refine sl_callT rfl rfl rfl rfl rfl rfl rfl rfl (from_calls ps.length 16) ?_; rintro _ _ ⟨b1, b2, rfl, rfl⟩; refine ⟨_, _, rfl, rfl, ?_⟩) | (refine sl_callT rfl rfl rfl rfl rfl rfl rfl rfl (from_calls 0 32) ?_; rintro _ _ ⟨b3, b4, rfl, rfl⟩; refine ⟨_, _, rfl, rfl, ?_⟩) | (refine sl_callT rfl rfl rfl rfl rfl rfl rfl rfl (from_calls 1 256) ?_; rintro _ _ ⟨b5, b6, rfl, rfl⟩; refine ⟨_, _, rfl, rfl, ?_⟩) | (refine sl_callT rfl rfl rfl rfl rfl rfl rfl rfl (g0) ?_; rintro _ _ ⟨hp, pb, pc, rfl, osp, hx0, hpl, rfl⟩; refine ⟨_, _, rfl, rfl, ?_⟩) | (refine sl_callT rfl rfl rfl rfl rfl rfl rfl rfl (g1 _ _) ?_; rintro _ _ ⟨rfl, rfl⟩; refine ⟨_, _, rfl, rfl, ?_⟩) | (refine sl_callT rfl rfl rfl rfl rfl rfl rfl rfl (g2 _ _) ?_; rintro _ _ ⟨rfl, rfl⟩; refine ⟨_, _, rfl, rfl, ?_⟩) | (refine sl_callT rfl rfl rfl rfl rfl rfl rfl rfl (g3 _ _) ?_; rintro _ _ ⟨rfl, rfl⟩; refine ⟨_, _, rfl, rfl, ?_⟩) | (refine sl_call rfl rfl rfl rfl rfl rfl rfl rfl (g4) ?_; rintro _ _ ⟨βf, rfl, rfl⟩; refine .inr ⟨_, rfl, ?_⟩; repeat (first | refine thn_panic ?_ )))
              | (refine gk 5 rfl ?_; first | refine sl_op rfl rfl rfl (by first | exact opv_build rfl rfl (by exact rfl) ) ?_ | refine sl_alloc rfl rfl rfl rfl (by exact rfl) (fun β => ?_) | refine sl_store rfl rfl rfl rfl rfl rfl (by exact rfl) rfl (by exact rfl) ?_)
              | refine sl_region rfl ?_
              | refine sl_nil ?_
              )
            exact pan_end ⟨_, rfl, rfl⟩
          | ok r4 =>
            obtain ⟨code, x4⟩ := r4
            rw [h4] at g4
            refine t_of_body Tryd.func53 rfl (Nat.le_of_ble_eq_true rfl) fun F => ?_
            repeat' (first
              | refine swp_seq ?_
              | (refine gk 0 rfl ?_; first | refine sl_op rfl rfl rfl (by first | exact opv_move rfl rfl | exact opv_makeFunc rfl rfl rfl) ?_ )
              | (refine gk 3 rfl ?_; first | refine sl_op rfl rfl rfl (by first | exact opv_load rfl (by exact rfl) rfl (by exact rfl) | exact opv_fieldAddr rfl rfl | exact opv_loadA rfl (by exact rfl) rfl (by exact rfl) (by exact rfl) ) ?_ )
              | (refine gk 4 rfl ?_; first | refine sl_op rfl rfl rfl (by first | exact opv_len rfl rfl rfl rfl rfl ) ?_ | (refine sl_callT rfl rfl rfl rfl rfl rfl rfl rfl (from_calls ps.length 16) ?_; rintro _ _ ⟨b1, b2, rfl, rfl⟩; refine ⟨_, _, rfl, rfl, ?_⟩) | (refine sl_callT rfl rfl rfl rfl rfl rfl rfl rfl (from_calls 0 32) ?_; rintro _ _ ⟨b3, b4, rfl, rfl⟩; refine ⟨_, _, rfl, rfl, ?_⟩) | (refine sl_callT rfl rfl rfl rfl rfl rfl rfl rfl (from_calls 1 256) ?_; rintro _ _ ⟨b5, b6, rfl, rfl⟩; refine ⟨_, _, rfl, rfl, ?_⟩) | (refine sl_callT rfl rfl rfl rfl rfl rfl rfl rfl (g0) ?_; rintro _ _ ⟨hp, pb, pc, rfl, osp, hx0, hpl, rfl⟩; refine ⟨_, _, rfl, rfl, ?_⟩) | (refine sl_callT rfl rfl rfl rfl rfl rfl rfl rfl (g1 _ _) ?_; rintro _ _ ⟨rfl, rfl⟩; refine ⟨_, _, rfl, rfl, ?_⟩) | (refine sl_callT rfl rfl rfl rfl rfl rfl rfl rfl (g2 _ _) ?_; rintro _ _ ⟨rfl, rfl⟩; refine ⟨_, _, rfl, rfl, ?_⟩) | (refine sl_callT rfl rfl rfl rfl rfl rfl rfl rfl (g3 _ _) ?_; rintro _ _ ⟨rfl, rfl⟩; refine ⟨_, _, rfl, rfl, ?_⟩) | (refine sl_callT rfl rfl rfl rfl rfl rfl rfl rfl (g4) ?_; rintro _ _ ⟨hc, cb, cc, rfl, osc, hx4, hcl, rfl⟩; refine ⟨_, _, rfl, rfl, ?_⟩))
              | (refine gk 5 rfl ?_; first | refine sl_op rfl rfl rfl (by first | exact opv_build rfl rfl (by exact rfl) ) ?_ | refine sl_alloc rfl rfl rfl rfl (by exact rfl) (fun β => ?_) | refine sl_store rfl rfl rfl rfl rfl rfl (by exact rfl) rfl (by exact rfl) ?_)
              | refine sl_region rfl ?_
              | refine sl_nil ?_
              | refine thn_k ?_
              | refine swp_ret ?_
              )
            subst hcl
            exact end_retZ [hp, hc, rdr βr s x4] (resOk_one (resV_cellA rfl rfl rfl rfl)) ⟨hp, pb, pc, hc, cb, cc, rfl, osp, osc, hpl, by dsimp only; omega, hx4, rfl⟩
end Go.Proofs.YtjdjkcebflablaaDoor
