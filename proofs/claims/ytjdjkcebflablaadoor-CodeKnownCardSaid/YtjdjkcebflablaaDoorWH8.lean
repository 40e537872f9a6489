/- The program's decoder: an image, walked (printed by h8.py). -/
import Derived.Test.YtjdjkcebflablaaDoorWH7
set_option linter.unusedVariables false
set_option linter.unusedSimpArgs false
set_option linter.unusedSectionVars false
namespace Go.Proofs.YtjdjkcebflablaaDoor
open Go.SL
set_option maxRecDepth 100000
set_option maxHeartbeats 16000000
/-- What is decoded; or where the fault is. -/
def decF (s : List UInt8) : Except Nat Im :=
  if s.take 3 = [68, 75, 1] then
    match num s 1 (fun z => wi z 0 16) 3 with
    | .error e => .error e
    | .ok (n, a1) => match rep (kindsR s 8 n) n.toNat a1 with
      | .error e => .error e
      | .ok (cls, a2) => match num s 1 (fun z => wi z 1 32) a2 with
        | .error e => .error e
        | .ok (k, a3) => match msR s n k.toNat a3 with
          | .error e => .error e
          | .ok (ms, a4) => if a4 = s.length then .ok ⟨cls, ms⟩ else .error a4
  else .error 0
def RI (r : Except Nat Im) (A : Im → Ending → List Heap → Prop) (e : Ending) (o : List Heap) : Prop :=
  match r with | .ok x => A x e o | .error q => Pan q e o
attribute [local irreducible] SL.T PFn OpV SOL SWP HOp ChU DZ.ChU
-- ALIAS Tryd
-- CHANGES 45 46 48 51
theorem image_calls (βr : Nat) (s : List UInt8) (hs : s.length ≤ 9223372036854775807) :
    SL.T Tryd.prog 26 [ptr βr] [rdr βr s 0]
      (RI (decF s) fun x e o => ∃ K hC K2 hM clb cc mb mc cv mv, e = .returned (.agg ⟨[.slice clb x.cls.length cc, .slice mb x.ms.length mc]⟩) ∧ OS hC clb x.cls.length cc 53 1 cv ∧ ClsP K x.cls cv ∧ OS hM mb x.ms.length mc 56 4 mv ∧ MsP K2 x.ms mv ∧ x.cls.length ≤ 1000 ∧ x.ms.length ≤ 1000 ∧ o = [K, hC, K2, hM]) := by
  unfold decF
  have hny := need_yes βr s
  have hnn := need_no βr s
  have hL : ∀ {n : Int} {l : Nat}, (l : Int) = n → l = n.toNat := fun h => by omega
  by_cases hp : s.take 3 = [68, 75, 1]
  · rw [if_pos hp]
    have hl3 : 3 ≤ s.length := by
      have := congrArg List.length hp
      simp at this; omega
    have g1 := fun b1 b2 => getf_calls βr s 3 1 b1 b2 0 16 hs hl3 (by decide)
    cases h1 : num s 1 (fun z => wi z 0 16) 3 with
    | error q =>
      rw [h1] at g1
      refine t_of_body Tryd.func26 rfl (Nat.le_of_ble_eq_true rfl) fun F => ?_
      repeat' (first
        | refine swp_seq ?_
        | (refine gk 5 rfl ?_; first | refine sl_box rfl rfl rfl rfl rfl rfl (fun β => ?_) | refine sl_alloc rfl rfl rfl rfl (by exact rfl) (fun β => ?_) )
        | refine sl_region rfl ?_
        | refine sl_nil ?_
        )
      refine sl_draw (by kernel_rfl) (by kernel_rfl) rfl ?_
      repeat' (first
        | refine sl_op rfl rfl rfl (opv_lenS rfl rfl rfl rfl rfl) ?_
        | refine sl_op rfl rfl rfl (opv_sliceSHi rfl rfl rfl (by omega) (by omega)) ?_
        | refine sl_tt rfl rfl rfl (opv_eqlStr rfl rfl rfl) (by simpa using hp) ?_
        | refine swp_seq ?_
        | (refine gk 0 rfl ?_; first | refine sl_op rfl rfl rfl (by first | exact opv_move rfl rfl | exact opv_pick_t rfl rfl rfl ) ?_ )
        | (refine gk 2 rfl ?_; first | refine sl_yes rfl rfl rfl (by first | exact opv_geq rfl rfl rfl ) (by first | omega ) ?_ )
        | (refine gk 3 rfl ?_; first | refine sl_op rfl rfl rfl (by first | exact opv_load rfl (by exact rfl) rfl (by exact rfl) | exact opv_fieldAddr rfl rfl ) ?_ )
        | (refine gk 4 rfl ?_; first | refine sl_op rfl rfl rfl (opv_call rfl rfl rfl rfl rfl (hny 0)) ?_)
        | (refine gk 5 rfl ?_; first | refine sl_op rfl rfl rfl (by first | exact opv_nilCheck rfl rfl ) ?_ | refine sl_store rfl rfl rfl rfl rfl rfl (by exact rfl) rfl (by exact rfl) ?_)
        | refine sl_region rfl ?_
        | refine sl_nil ?_
        )
      refine DZ.sl_drawC [.q [0], .an 3, .h false 1, .h true 2, .rv 3, .h true 4] [] (by kernel_rfl) (by kernel_rfl) (by kernel_rfl) (by kernel_rfl) ?_
      repeat' (first
        | (refine gk 3 rfl ?_; first | refine sl_op rfl rfl rfl (by first | exact opv_load rfl (by exact rfl) rfl (by exact rfl) ) ?_ )
        | refine DZ.chu_q rfl ?_
        | refine DZ.chu_new rfl rfl (by first | exact new_alloc rfl (by exact rfl) ) ?_
        | (refine DZ.chu_T rfl rfl rfl rfl rfl rfl rfl rfl (from_calls 0 16) (by rintro _ _ ⟨b1, b2, rfl, rfl⟩; exact ⟨_, rfl⟩) ?_; rintro _ _ ⟨b1, b2, rfl, rfl⟩; refine ⟨_, _, rfl, rfl, ?_⟩)
        | (refine DZ.chu_Z rfl rfl rfl rfl rfl rfl rfl rfl (g1 _ _) (fun h => by cases h) (fun _ => .inl ⟨_, List.Perm.refl _⟩) ?_; rintro _ _ ⟨βf, rfl, rfl⟩; refine .inr ⟨_, _, rfl, rfl, ?_⟩; repeat (first | refine thn_panic ?_ ))
        | refine sl_nil ?_
        )
      exact pan_end ⟨_, rfl, rfl⟩
    | ok r1 =>
      obtain ⟨n0, x1⟩ := r1
      rw [h1] at g1
      obtain ⟨hw, -, hx1⟩ := num_ok h1
      have hn1 : 0 ≤ n0 ∧ n0 ≤ 16 := by unfold wi at hw; simpa using hw
      obtain ⟨n, rfl⟩ := Int.eq_ofNat_of_zero_le hn1.1
      dsimp only
      rw [Int.toNat_natCast]
      have g2 := fun βp βn => someC_calls n βp βr βn s x1 n hs hx1 (by omega)
      cases h2 : rep (kindsR s 8 n) n x1 with
      | error q =>
        rw [h2] at g2
        refine t_of_body Tryd.func26 rfl (Nat.le_of_ble_eq_true rfl) fun F => ?_
        repeat' (first
          | refine swp_seq ?_
          | (refine gk 5 rfl ?_; first | refine sl_box rfl rfl rfl rfl rfl rfl (fun β => ?_) | refine sl_alloc rfl rfl rfl rfl (by exact rfl) (fun β => ?_) )
          | refine sl_region rfl ?_
          | refine sl_nil ?_
          )
        refine sl_draw (by kernel_rfl) (by kernel_rfl) rfl ?_
        repeat' (first
          | refine sl_op rfl rfl rfl (opv_lenS rfl rfl rfl rfl rfl) ?_
          | refine sl_op rfl rfl rfl (opv_sliceSHi rfl rfl rfl (by omega) (by omega)) ?_
          | refine sl_tt rfl rfl rfl (opv_eqlStr rfl rfl rfl) (by simpa using hp) ?_
          | refine swp_seq ?_
          | (refine gk 0 rfl ?_; first | refine sl_op rfl rfl rfl (by first | exact opv_move rfl rfl | exact opv_pick_t rfl rfl rfl ) ?_ )
          | (refine gk 2 rfl ?_; first | refine sl_yes rfl rfl rfl (by first | exact opv_geq rfl rfl rfl ) (by first | omega ) ?_ )
          | (refine gk 3 rfl ?_; first | refine sl_op rfl rfl rfl (by first | exact opv_load rfl (by exact rfl) rfl (by exact rfl) | exact opv_fieldAddr rfl rfl ) ?_ )
          | (refine gk 4 rfl ?_; first | refine sl_op rfl rfl rfl (opv_call rfl rfl rfl rfl rfl (hny 0)) ?_)
          | (refine gk 5 rfl ?_; first | refine sl_op rfl rfl rfl (by first | exact opv_nilCheck rfl rfl ) ?_ | refine sl_store rfl rfl rfl rfl rfl rfl (by exact rfl) rfl (by exact rfl) ?_)
          | refine sl_region rfl ?_
          | refine sl_nil ?_
          )
        refine DZ.sl_drawC [.q [0], .an 3, .h false 1, .h true 2, .rv 3, .h true 4] [] (by kernel_rfl) (by kernel_rfl) (by kernel_rfl) (by kernel_rfl) ?_
        repeat' (first
          | refine swp_seq ?_
          | (refine gk 0 rfl ?_; first | refine sl_op rfl rfl rfl (by first | exact opv_makeFunc rfl rfl rfl) ?_ )
          | (refine gk 3 rfl ?_; first | refine sl_op rfl rfl rfl (by first | exact opv_load rfl (by exact rfl) rfl (by exact rfl) ) ?_ )
          | (refine gk 4 rfl ?_; first | (refine sl_call rfl rfl rfl rfl rfl rfl rfl rfl (g2 _ _) ?_; rintro _ _ ⟨βf, rfl, rfl⟩; refine .inr ⟨_, rfl, ?_⟩; repeat (first | refine thn_panic ?_ )))
          | refine sl_region rfl ?_
          | refine DZ.chu_nil ?_
          | refine DZ.chu_q rfl ?_
          | refine DZ.chu_new rfl rfl (by first | exact new_alloc rfl (by exact rfl) ) ?_
          | refine DZ.chu_rv rfl rfl rfl (fun β => ?_)
          | refine DZ.chu_store rfl rfl rfl rfl rfl rfl (by exact rfl) rfl (by exact rfl) (by exact rfl) ?_
          | (refine DZ.chu_T rfl rfl rfl rfl rfl rfl rfl rfl (from_calls 0 16) (by rintro _ _ ⟨b1, b2, rfl, rfl⟩; exact ⟨_, rfl⟩) ?_; rintro _ _ ⟨b1, b2, rfl, rfl⟩; refine ⟨_, _, rfl, rfl, ?_⟩)
          | (refine DZ.chu_Tc rfl rfl rfl rfl rfl rfl rfl rfl (g1 _ _) ?_; rintro _ _ ⟨rfl, rfl⟩; refine ⟨_, _, rfl, rfl, ?_⟩)
          | refine sl_nil ?_
          )
        exact pan_end ⟨_, rfl, rfl⟩
      | ok r2 =>
        obtain ⟨cls, x2⟩ := r2
        rw [h2] at g2
        have hx2 : x2 ≤ s.length := rep_le (fun h1 h2 => kindsR_ok h1 h2) hx1 h2
        have hcl := rep_len h2
        dsimp only
        have g3 := fun b1 b2 => getf_calls βr s x2 1 b1 b2 1 32 hs hx2 (by decide)
        cases h3 : num s 1 (fun z => wi z 1 32) x2 with
        | error q =>
          rw [h3] at g3
          refine t_of_body Tryd.func26 rfl (Nat.le_of_ble_eq_true rfl) fun F => ?_
          repeat' (first
            | refine swp_seq ?_
            | (refine gk 5 rfl ?_; first | refine sl_box rfl rfl rfl rfl rfl rfl (fun β => ?_) | refine sl_alloc rfl rfl rfl rfl (by exact rfl) (fun β => ?_) )
            | refine sl_region rfl ?_
            | refine sl_nil ?_
            )
          refine sl_draw (by kernel_rfl) (by kernel_rfl) rfl ?_
          repeat' (first
            | refine sl_op rfl rfl rfl (opv_lenS rfl rfl rfl rfl rfl) ?_
            | refine sl_op rfl rfl rfl (opv_sliceSHi rfl rfl rfl (by omega) (by omega)) ?_
            | refine sl_tt rfl rfl rfl (opv_eqlStr rfl rfl rfl) (by simpa using hp) ?_
            | refine swp_seq ?_
            | (refine gk 0 rfl ?_; first | refine sl_op rfl rfl rfl (by first | exact opv_move rfl rfl | exact opv_pick_t rfl rfl rfl ) ?_ )
            | (refine gk 2 rfl ?_; first | refine sl_yes rfl rfl rfl (by first | exact opv_geq rfl rfl rfl ) (by first | omega ) ?_ )
            | (refine gk 3 rfl ?_; first | refine sl_op rfl rfl rfl (by first | exact opv_load rfl (by exact rfl) rfl (by exact rfl) | exact opv_fieldAddr rfl rfl ) ?_ )
            | (refine gk 4 rfl ?_; first | refine sl_op rfl rfl rfl (opv_call rfl rfl rfl rfl rfl (hny 0)) ?_)
            | (refine gk 5 rfl ?_; first | refine sl_op rfl rfl rfl (by first | exact opv_nilCheck rfl rfl ) ?_ | refine sl_store rfl rfl rfl rfl rfl rfl (by exact rfl) rfl (by exact rfl) ?_)
            | refine sl_region rfl ?_
            | refine sl_nil ?_
            )
          refine DZ.sl_drawC [.q [0], .an 3, .h false 1, .h true 2, .rv 3, .h true 4] [] (by kernel_rfl) (by kernel_rfl) (by kernel_rfl) (by kernel_rfl) ?_
          repeat' (first
            | refine swp_seq ?_
            | (refine gk 0 rfl ?_; first | refine sl_op rfl rfl rfl (by first | exact opv_makeFunc rfl rfl rfl) ?_ )
            | (refine gk 3 rfl ?_; first | refine sl_op rfl rfl rfl (by first | exact opv_load rfl (by exact rfl) rfl (by exact rfl) | exact opv_fieldAddr rfl rfl ) ?_ )
            | (refine gk 4 rfl ?_; first | (refine sl_callT rfl rfl rfl rfl rfl rfl rfl rfl (g2 _ _) ?_; rintro _ _ ⟨K, hC, clb, cc, cv, rfl, osC, hP, hy2, hl2, rfl⟩; refine ⟨_, _, rfl, rfl, ?_⟩))
            | (refine gk 5 rfl ?_; first | refine sl_alloc rfl rfl rfl rfl (by exact rfl) (fun β => ?_) | refine sl_store rfl rfl rfl rfl rfl rfl (by exact rfl) rfl (by exact rfl) ?_)
            | refine sl_region rfl ?_
            | refine DZ.chu_nil ?_
            | refine DZ.chu_q rfl ?_
            | refine DZ.chu_new rfl rfl (by first | exact new_alloc rfl (by exact rfl) ) ?_
            | refine DZ.chu_rv rfl rfl rfl (fun β => ?_)
            | refine DZ.chu_store rfl rfl rfl rfl rfl rfl (by exact rfl) rfl (by exact rfl) (by exact rfl) ?_
            | (refine DZ.chu_T rfl rfl rfl rfl rfl rfl rfl rfl (from_calls 0 16) (by rintro _ _ ⟨b1, b2, rfl, rfl⟩; exact ⟨_, rfl⟩) ?_; rintro _ _ ⟨b1, b2, rfl, rfl⟩; refine ⟨_, _, rfl, rfl, ?_⟩)
            | (refine DZ.chu_Tc rfl rfl rfl rfl rfl rfl rfl rfl (g1 _ _) ?_; rintro _ _ ⟨rfl, rfl⟩; refine ⟨_, _, rfl, rfl, ?_⟩)
            | refine sl_nil ?_
            )
          refine DZ.sl_drawC [.q [0], .f [3], .h false 1, .h true 2, .h true 4, .q [5], .h true 6] [] (by kernel_rfl) (by kernel_rfl) (by kernel_rfl) (by kernel_rfl) ?_
          repeat' (first
            | (refine gk 0 rfl ?_; first | refine sl_op rfl rfl rfl (by first | exact opv_makeFunc rfl rfl rfl) ?_ )
            | (refine gk 3 rfl ?_; first | refine sl_op rfl rfl rfl (by first | exact opv_load rfl (by exact rfl) rfl (by exact rfl) ) ?_ )
            | refine DZ.chu_q rfl ?_
            | refine DZ.chu_f rfl ?_
            | (refine DZ.chu_T rfl rfl rfl rfl rfl rfl rfl rfl (from_calls 1 32) (by rintro _ _ ⟨b3, b4, rfl, rfl⟩; exact ⟨_, rfl⟩) ?_; rintro _ _ ⟨b3, b4, rfl, rfl⟩; refine ⟨_, _, rfl, rfl, ?_⟩)
            | (refine DZ.chu_Z rfl rfl rfl rfl rfl rfl rfl rfl (g3 _ _) (fun h => by cases h) (fun _ => .inl ⟨_, List.Perm.refl _⟩) ?_; rintro _ _ ⟨βf, rfl, rfl⟩; refine .inr ⟨_, _, rfl, rfl, ?_⟩; repeat (first | refine thn_panic ?_ ))
            | refine sl_nil ?_
            )
          exact pan_end ⟨_, rfl, rfl⟩
        | ok r3 =>
          obtain ⟨k0, x3⟩ := r3
          rw [h3] at g3
          obtain ⟨hw, -, hx3⟩ := num_ok h3
          have hk1 : 1 ≤ k0 ∧ k0 ≤ 32 := by unfold wi at hw; simpa using hw
          obtain ⟨k, rfl⟩ := Int.eq_ofNat_of_zero_le (show 0 ≤ k0 by omega)
          dsimp only
          rw [Int.toNat_natCast]
          have g4 := fun βp βm βn => someM_calls k βp βm βr βn s x3 n hs hx3 (by omega)
          cases h4 : msR s n k x3 with
          | error q =>
            rw [h4] at g4
            refine t_of_body Tryd.func26 rfl (Nat.le_of_ble_eq_true rfl) fun F => ?_
            repeat' (first
              | refine swp_seq ?_
              | (refine gk 5 rfl ?_; first | refine sl_box rfl rfl rfl rfl rfl rfl (fun β => ?_) | refine sl_alloc rfl rfl rfl rfl (by exact rfl) (fun β => ?_) )
              | refine sl_region rfl ?_
              | refine sl_nil ?_
              )
            refine sl_draw (by kernel_rfl) (by kernel_rfl) rfl ?_
            repeat' (first
              | refine sl_op rfl rfl rfl (opv_lenS rfl rfl rfl rfl rfl) ?_
              | refine sl_op rfl rfl rfl (opv_sliceSHi rfl rfl rfl (by omega) (by omega)) ?_
              | refine sl_tt rfl rfl rfl (opv_eqlStr rfl rfl rfl) (by simpa using hp) ?_
              | refine swp_seq ?_
              | (refine gk 0 rfl ?_; first | refine sl_op rfl rfl rfl (by first | exact opv_move rfl rfl | exact opv_pick_t rfl rfl rfl ) ?_ )
              | (refine gk 2 rfl ?_; first | refine sl_yes rfl rfl rfl (by first | exact opv_geq rfl rfl rfl ) (by first | omega ) ?_ )
              | (refine gk 3 rfl ?_; first | refine sl_op rfl rfl rfl (by first | exact opv_load rfl (by exact rfl) rfl (by exact rfl) | exact opv_fieldAddr rfl rfl ) ?_ )
              | (refine gk 4 rfl ?_; first | refine sl_op rfl rfl rfl (opv_call rfl rfl rfl rfl rfl (hny 0)) ?_)
              | (refine gk 5 rfl ?_; first | refine sl_op rfl rfl rfl (by first | exact opv_nilCheck rfl rfl ) ?_ | refine sl_store rfl rfl rfl rfl rfl rfl (by exact rfl) rfl (by exact rfl) ?_)
              | refine sl_region rfl ?_
              | refine sl_nil ?_
              )
            refine DZ.sl_drawC [.q [0], .an 3, .h false 1, .h true 2, .rv 3, .h true 4] [] (by kernel_rfl) (by kernel_rfl) (by kernel_rfl) (by kernel_rfl) ?_
            repeat' (first
              | refine swp_seq ?_
              | (refine gk 0 rfl ?_; first | refine sl_op rfl rfl rfl (by first | exact opv_makeFunc rfl rfl rfl) ?_ )
              | (refine gk 3 rfl ?_; first | refine sl_op rfl rfl rfl (by first | exact opv_load rfl (by exact rfl) rfl (by exact rfl) | exact opv_fieldAddr rfl rfl ) ?_ )
              | (refine gk 4 rfl ?_; first | (refine sl_callT rfl rfl rfl rfl rfl rfl rfl rfl (g2 _ _) ?_; rintro _ _ ⟨K, hC, clb, cc, cv, rfl, osC, hP, hy2, hl2, rfl⟩; refine ⟨_, _, rfl, rfl, ?_⟩))
              | (refine gk 5 rfl ?_; first | refine sl_alloc rfl rfl rfl rfl (by exact rfl) (fun β => ?_) | refine sl_store rfl rfl rfl rfl rfl rfl (by exact rfl) rfl (by exact rfl) ?_)
              | refine sl_region rfl ?_
              | refine DZ.chu_nil ?_
              | refine DZ.chu_q rfl ?_
              | refine DZ.chu_new rfl rfl (by first | exact new_alloc rfl (by exact rfl) ) ?_
              | refine DZ.chu_rv rfl rfl rfl (fun β => ?_)
              | refine DZ.chu_store rfl rfl rfl rfl rfl rfl (by exact rfl) rfl (by exact rfl) (by exact rfl) ?_
              | (refine DZ.chu_T rfl rfl rfl rfl rfl rfl rfl rfl (from_calls 0 16) (by rintro _ _ ⟨b1, b2, rfl, rfl⟩; exact ⟨_, rfl⟩) ?_; rintro _ _ ⟨b1, b2, rfl, rfl⟩; refine ⟨_, _, rfl, rfl, ?_⟩)
              | (refine DZ.chu_Tc rfl rfl rfl rfl rfl rfl rfl rfl (g1 _ _) ?_; rintro _ _ ⟨rfl, rfl⟩; refine ⟨_, _, rfl, rfl, ?_⟩)
              | refine sl_nil ?_
              )
            refine DZ.sl_drawC [.q [0], .f [3], .h false 1, .h true 2, .h true 4, .q [5], .h true 6] [] (by kernel_rfl) (by kernel_rfl) (by kernel_rfl) (by kernel_rfl) ?_
            repeat' (first
              | (refine gk 0 rfl ?_; first | refine sl_op rfl rfl rfl (by first | exact opv_makeFunc rfl rfl rfl) ?_ )
              | (refine gk 3 rfl ?_; first | refine sl_op rfl rfl rfl (by first | exact opv_load rfl (by exact rfl) rfl (by exact rfl) ) ?_ )
              | refine DZ.chu_q rfl ?_
              | refine DZ.chu_f rfl ?_
              | (refine DZ.chu_T rfl rfl rfl rfl rfl rfl rfl rfl (from_calls 1 32) (by rintro _ _ ⟨b3, b4, rfl, rfl⟩; exact ⟨_, rfl⟩) ?_; rintro _ _ ⟨b3, b4, rfl, rfl⟩; refine ⟨_, _, rfl, rfl, ?_⟩)
              | (refine DZ.chu_Tc rfl rfl rfl rfl rfl rfl rfl rfl (g3 _ _) ?_; rintro _ _ ⟨rfl, rfl⟩; refine ⟨_, _, rfl, rfl, ?_⟩)
              | (refine DZ.chu_Z rfl rfl rfl rfl rfl rfl rfl rfl (g4 _ _ _) (fun h => by cases h) (fun _ => .inl ⟨_, List.Perm.refl _⟩) ?_; rintro _ _ ⟨βf, rfl, rfl⟩; refine .inr ⟨_, _, rfl, rfl, ?_⟩; repeat (first | refine thn_panic ?_ ))
              | refine sl_nil ?_
              )
            exact pan_end ⟨_, rfl, rfl⟩
          | ok r4 =>
            obtain ⟨ms, x4⟩ := r4
            rw [h4] at g4
            have hml := msR_len h4
            dsimp only
            subst hcl hml
            by_cases h5 : x4 = s.length
            · rw [if_pos h5]
              refine t_of_body Tryd.func26 rfl (Nat.le_of_ble_eq_true rfl) fun F => ?_
              repeat' (first
                | refine swp_seq ?_
                | (refine gk 5 rfl ?_; first | refine sl_box rfl rfl rfl rfl rfl rfl (fun β => ?_) | refine sl_alloc rfl rfl rfl rfl (by exact rfl) (fun β => ?_) )
                | refine sl_region rfl ?_
                | refine sl_nil ?_
                )
              refine sl_draw (by kernel_rfl) (by kernel_rfl) rfl ?_
              repeat' (first
                | refine sl_op rfl rfl rfl (opv_lenS rfl rfl rfl rfl rfl) ?_
                | refine sl_op rfl rfl rfl (opv_sliceSHi rfl rfl rfl (by omega) (by omega)) ?_
                | refine sl_tt rfl rfl rfl (opv_eqlStr rfl rfl rfl) (by simpa using hp) ?_
                | refine swp_seq ?_
                | (refine gk 0 rfl ?_; first | refine sl_op rfl rfl rfl (by first | exact opv_move rfl rfl | exact opv_pick_t rfl rfl rfl ) ?_ )
                | (refine gk 2 rfl ?_; first | refine sl_yes rfl rfl rfl (by first | exact opv_geq rfl rfl rfl ) (by first | omega ) ?_ )
                | (refine gk 3 rfl ?_; first | refine sl_op rfl rfl rfl (by first | exact opv_load rfl (by exact rfl) rfl (by exact rfl) | exact opv_fieldAddr rfl rfl ) ?_ )
                | (refine gk 4 rfl ?_; first | refine sl_op rfl rfl rfl (opv_call rfl rfl rfl rfl rfl (hny 0)) ?_)
                | (refine gk 5 rfl ?_; first | refine sl_op rfl rfl rfl (by first | exact opv_nilCheck rfl rfl ) ?_ | refine sl_store rfl rfl rfl rfl rfl rfl (by exact rfl) rfl (by exact rfl) ?_)
                | refine sl_region rfl ?_
                | refine sl_nil ?_
                )
              refine DZ.sl_drawC [.q [0], .an 3, .h false 1, .h true 2, .rv 3, .h true 4] [] (by kernel_rfl) (by kernel_rfl) (by kernel_rfl) (by kernel_rfl) ?_
              repeat' (first
                | refine swp_seq ?_
                | (refine gk 0 rfl ?_; first | refine sl_op rfl rfl rfl (by first | exact opv_makeFunc rfl rfl rfl) ?_ )
                | (refine gk 3 rfl ?_; first | refine sl_op rfl rfl rfl (by first | exact opv_load rfl (by exact rfl) rfl (by exact rfl) | exact opv_fieldAddr rfl rfl ) ?_ )
                | (refine gk 4 rfl ?_; first | (refine sl_callT rfl rfl rfl rfl rfl rfl rfl rfl (g2 _ _) ?_; rintro _ _ ⟨K, hC, clb, cc, cv, rfl, osC, hP, hy2, hl2, rfl⟩; refine ⟨_, _, rfl, rfl, ?_⟩))
                | (refine gk 5 rfl ?_; first | refine sl_alloc rfl rfl rfl rfl (by exact rfl) (fun β => ?_) | refine sl_store rfl rfl rfl rfl rfl rfl (by exact rfl) rfl (by exact rfl) ?_)
                | refine sl_region rfl ?_
                | refine DZ.chu_nil ?_
                | refine DZ.chu_q rfl ?_
                | refine DZ.chu_new rfl rfl (by first | exact new_alloc rfl (by exact rfl) ) ?_
                | refine DZ.chu_rv rfl rfl rfl (fun β => ?_)
                | refine DZ.chu_store rfl rfl rfl rfl rfl rfl (by exact rfl) rfl (by exact rfl) (by exact rfl) ?_
                | (refine DZ.chu_T rfl rfl rfl rfl rfl rfl rfl rfl (from_calls 0 16) (by rintro _ _ ⟨b1, b2, rfl, rfl⟩; exact ⟨_, rfl⟩) ?_; rintro _ _ ⟨b1, b2, rfl, rfl⟩; refine ⟨_, _, rfl, rfl, ?_⟩)
                | (refine DZ.chu_Tc rfl rfl rfl rfl rfl rfl rfl rfl (g1 _ _) ?_; rintro _ _ ⟨rfl, rfl⟩; refine ⟨_, _, rfl, rfl, ?_⟩)
                | refine sl_nil ?_
                )
              refine DZ.sl_drawC [.q [0], .f [3], .h false 1, .h true 2, .h true 4, .q [5], .h true 6] [] (by kernel_rfl) (by kernel_rfl) (by kernel_rfl) (by kernel_rfl) ?_
              repeat' (first
                | refine swp_seq ?_
                | (refine gk 0 rfl ?_; first | refine sl_op rfl rfl rfl (by first | exact opv_makeFunc rfl rfl rfl) ?_ )
                | (refine gk 3 rfl ?_; first | refine sl_op rfl rfl rfl (by first | exact opv_load rfl (by exact rfl) rfl (by exact rfl) | exact opv_fieldAddr rfl rfl ) ?_ )
                | refine DZ.chu_nil ?_
                | refine DZ.chu_q rfl ?_
                | refine DZ.chu_f rfl ?_
                | refine DZ.chu_store rfl rfl rfl rfl rfl rfl (by exact rfl) rfl (by exact rfl) (by exact rfl) ?_
                | (refine DZ.chu_T rfl rfl rfl rfl rfl rfl rfl rfl (from_calls 1 32) (by rintro _ _ ⟨b3, b4, rfl, rfl⟩; exact ⟨_, rfl⟩) ?_; rintro _ _ ⟨b3, b4, rfl, rfl⟩; refine ⟨_, _, rfl, rfl, ?_⟩)
                | (refine DZ.chu_Tc rfl rfl rfl rfl rfl rfl rfl rfl (g3 _ _) ?_; rintro _ _ ⟨rfl, rfl⟩; refine ⟨_, _, rfl, rfl, ?_⟩)
                | (refine DZ.chu_Tc rfl rfl rfl rfl rfl rfl rfl rfl (g4 _ _ _) ?_; rintro _ _ ⟨K2, hM, mb, mc, mv, rfl, osM, hPM, hy4, hl4, rfl⟩; refine ⟨_, _, rfl, rfl, ?_⟩)
                | refine sl_nil ?_
                )
              refine sl_draw (by kernel_rfl) (by kernel_rfl) rfl ?_
              repeat' (first
                | refine sl_op rfl rfl rfl (opv_lenS rfl rfl rfl rfl rfl) ?_
                | refine swp_seq ?_
                | (refine gk 2 rfl ?_; first | refine sl_yes rfl rfl rfl (by first | exact opv_eql rfl rfl rfl ) (by first | omega ) ?_ )
                | (refine gk 3 rfl ?_; first | refine sl_op rfl rfl rfl (by first | exact opv_load rfl (by exact rfl) rfl (by exact rfl) | exact opv_fieldAddr rfl rfl | exact opv_loadA rfl (by exact rfl) rfl (by exact rfl) (by exact rfl) ) ?_ )
                | (refine gk 4 rfl ?_; first | refine sl_op rfl rfl rfl (opv_call rfl rfl rfl rfl rfl (hny x4)) ?_)
                | (refine gk 5 rfl ?_; first | refine sl_op rfl rfl rfl (by first | exact opv_nilCheck rfl rfl ) ?_ | refine sl_store rfl rfl rfl rfl rfl rfl (by exact rfl) rfl (by exact rfl) ?_)
                | refine sl_region rfl ?_
                | refine sl_nil ?_
                | refine thn_k ?_
                | refine swp_ret ?_
                )
              exact end_retZ [K, hC, K2, hM] (resOk_one (resV_cellA rfl rfl rfl rfl)) ⟨K, hC, K2, hM, clb, cc, mb, mc, cv, mv, rfl, osC, hP, osM, hPM, by dsimp only; omega, by dsimp only; omega, rfl⟩
            · rw [if_neg h5]
              refine t_of_body Tryd.func26 rfl (Nat.le_of_ble_eq_true rfl) fun F => ?_
              repeat' (first
                | refine swp_seq ?_
                | (refine gk 5 rfl ?_; first | refine sl_box rfl rfl rfl rfl rfl rfl (fun β => ?_) | refine sl_alloc rfl rfl rfl rfl (by exact rfl) (fun β => ?_) )
                | refine sl_region rfl ?_
                | refine sl_nil ?_
                )
              refine sl_draw (by kernel_rfl) (by kernel_rfl) rfl ?_
              repeat' (first
                | refine sl_op rfl rfl rfl (opv_lenS rfl rfl rfl rfl rfl) ?_
                | refine sl_op rfl rfl rfl (opv_sliceSHi rfl rfl rfl (by omega) (by omega)) ?_
                | refine sl_tt rfl rfl rfl (opv_eqlStr rfl rfl rfl) (by simpa using hp) ?_
                | refine swp_seq ?_
                | (refine gk 0 rfl ?_; first | refine sl_op rfl rfl rfl (by first | exact opv_move rfl rfl | exact opv_pick_t rfl rfl rfl ) ?_ )
                | (refine gk 2 rfl ?_; first | refine sl_yes rfl rfl rfl (by first | exact opv_geq rfl rfl rfl ) (by first | omega ) ?_ )
                | (refine gk 3 rfl ?_; first | refine sl_op rfl rfl rfl (by first | exact opv_load rfl (by exact rfl) rfl (by exact rfl) | exact opv_fieldAddr rfl rfl ) ?_ )
                | (refine gk 4 rfl ?_; first | refine sl_op rfl rfl rfl (opv_call rfl rfl rfl rfl rfl (hny 0)) ?_)
                | (refine gk 5 rfl ?_; first | refine sl_op rfl rfl rfl (by first | exact opv_nilCheck rfl rfl ) ?_ | refine sl_store rfl rfl rfl rfl rfl rfl (by exact rfl) rfl (by exact rfl) ?_)
                | refine sl_region rfl ?_
                | refine sl_nil ?_
                )
              refine DZ.sl_drawC [.q [0], .an 3, .h false 1, .h true 2, .rv 3, .h true 4] [] (by kernel_rfl) (by kernel_rfl) (by kernel_rfl) (by kernel_rfl) ?_
              repeat' (first
                | refine swp_seq ?_
                | (refine gk 0 rfl ?_; first | refine sl_op rfl rfl rfl (by first | exact opv_makeFunc rfl rfl rfl) ?_ )
                | (refine gk 3 rfl ?_; first | refine sl_op rfl rfl rfl (by first | exact opv_load rfl (by exact rfl) rfl (by exact rfl) | exact opv_fieldAddr rfl rfl ) ?_ )
                | (refine gk 4 rfl ?_; first | (refine sl_callT rfl rfl rfl rfl rfl rfl rfl rfl (g2 _ _) ?_; rintro _ _ ⟨K, hC, clb, cc, cv, rfl, osC, hP, hy2, hl2, rfl⟩; refine ⟨_, _, rfl, rfl, ?_⟩))
                | (refine gk 5 rfl ?_; first | refine sl_alloc rfl rfl rfl rfl (by exact rfl) (fun β => ?_) | refine sl_store rfl rfl rfl rfl rfl rfl (by exact rfl) rfl (by exact rfl) ?_)
                | refine sl_region rfl ?_
                | refine DZ.chu_nil ?_
                | refine DZ.chu_q rfl ?_
                | refine DZ.chu_new rfl rfl (by first | exact new_alloc rfl (by exact rfl) ) ?_
                | refine DZ.chu_rv rfl rfl rfl (fun β => ?_)
                | refine DZ.chu_store rfl rfl rfl rfl rfl rfl (by exact rfl) rfl (by exact rfl) (by exact rfl) ?_
                | (refine DZ.chu_T rfl rfl rfl rfl rfl rfl rfl rfl (from_calls 0 16) (by rintro _ _ ⟨b1, b2, rfl, rfl⟩; exact ⟨_, rfl⟩) ?_; rintro _ _ ⟨b1, b2, rfl, rfl⟩; refine ⟨_, _, rfl, rfl, ?_⟩)
                | (refine DZ.chu_Tc rfl rfl rfl rfl rfl rfl rfl rfl (g1 _ _) ?_; rintro _ _ ⟨rfl, rfl⟩; refine ⟨_, _, rfl, rfl, ?_⟩)
                | refine sl_nil ?_
                )
              refine DZ.sl_drawC [.q [0], .f [3], .h false 1, .h true 2, .h true 4, .q [5], .h true 6] [] (by kernel_rfl) (by kernel_rfl) (by kernel_rfl) (by kernel_rfl) ?_
              repeat' (first
                | refine swp_seq ?_
                | (refine gk 0 rfl ?_; first | refine sl_op rfl rfl rfl (by first | exact opv_makeFunc rfl rfl rfl) ?_ )
                | (refine gk 3 rfl ?_; first | refine sl_op rfl rfl rfl (by first | exact opv_load rfl (by exact rfl) rfl (by exact rfl) | exact opv_fieldAddr rfl rfl ) ?_ )
                | refine DZ.chu_nil ?_
                | refine DZ.chu_q rfl ?_
                | refine DZ.chu_f rfl ?_
                | refine DZ.chu_store rfl rfl rfl rfl rfl rfl (by exact rfl) rfl (by exact rfl) (by exact rfl) ?_
                | (refine DZ.chu_T rfl rfl rfl rfl rfl rfl rfl rfl (from_calls 1 32) (by rintro _ _ ⟨b3, b4, rfl, rfl⟩; exact ⟨_, rfl⟩) ?_; rintro _ _ ⟨b3, b4, rfl, rfl⟩; refine ⟨_, _, rfl, rfl, ?_⟩)
                | (refine DZ.chu_Tc rfl rfl rfl rfl rfl rfl rfl rfl (g3 _ _) ?_; rintro _ _ ⟨rfl, rfl⟩; refine ⟨_, _, rfl, rfl, ?_⟩)
                | (refine DZ.chu_Tc rfl rfl rfl rfl rfl rfl rfl rfl (g4 _ _ _) ?_; rintro _ _ ⟨K2, hM, mb, mc, mv, rfl, osM, hPM, hy4, hl4, rfl⟩; refine ⟨_, _, rfl, rfl, ?_⟩)
                | refine sl_nil ?_
                )
              refine DZ.sl_drawC [.q [0, 1, 2, 3, 4, 5, 6, 7, 8, 9, 10], .h true 11] [] (by kernel_rfl) (by kernel_rfl) (by kernel_rfl) (by kernel_rfl) ?_
              repeat' (first
                | refine sl_op rfl rfl rfl (opv_lenS rfl rfl rfl rfl rfl) ?_
                | (refine gk 2 rfl ?_; first | refine sl_no rfl rfl rfl (by first | exact opv_eql rfl rfl rfl ) (by first | omega ) ?_ )
                | (refine gk 3 rfl ?_; first | refine sl_op rfl rfl rfl (by first | exact opv_load rfl (by exact rfl) rfl (by exact rfl) | exact opv_fieldAddr rfl rfl ) ?_ )
                | (refine gk 5 rfl ?_; first | refine sl_op rfl rfl rfl (by first | exact opv_nilCheck rfl rfl ) ?_ )
                | refine DZ.chu_q rfl ?_
                | (refine DZ.chu_Z rfl rfl rfl rfl rfl rfl rfl rfl (hnn x4) (fun h => by cases h) (fun _ => .inl ⟨_, List.Perm.refl _⟩) ?_; rintro _ _ ⟨βf, rfl, rfl⟩; refine .inr ⟨_, _, rfl, rfl, ?_⟩; repeat (first | refine thn_panic ?_ ))
                | refine sl_nil ?_
                )
              exact pan_end ⟨_, rfl, rfl⟩
  · rw [if_neg hp]
    by_cases hl3 : 3 ≤ s.length
    · refine t_of_body Tryd.func26 rfl (Nat.le_of_ble_eq_true rfl) fun F => ?_
      repeat' (first
        | refine swp_seq ?_
        | (refine gk 5 rfl ?_; first | refine sl_box rfl rfl rfl rfl rfl rfl (fun β => ?_) | refine sl_alloc rfl rfl rfl rfl (by exact rfl) (fun β => ?_) )
        | refine sl_region rfl ?_
        | refine sl_nil ?_
        )
      refine DZ.sl_drawC [.q [0, 1, 2, 3, 4, 5, 6, 7, 8, 9, 10, 11, 12, 13, 14], .h true 15] [] (by kernel_rfl) (by kernel_rfl) (by kernel_rfl) (by kernel_rfl) ?_
      repeat' (first
        | refine sl_op rfl rfl rfl (opv_lenS rfl rfl rfl rfl rfl) ?_
        | refine sl_op rfl rfl rfl (opv_sliceSHi rfl rfl rfl (by omega) (by omega)) ?_
        | refine sl_ff rfl rfl rfl (opv_eqlStr rfl rfl rfl) (by simpa using hp) ?_
        | (refine gk 0 rfl ?_; first | refine sl_op rfl rfl rfl (by first | exact opv_move rfl rfl | exact opv_pick_t rfl rfl rfl ) ?_ )
        | (refine gk 2 rfl ?_; first | refine sl_yes rfl rfl rfl (by first | exact opv_geq rfl rfl rfl ) (by first | omega ) ?_ )
        | (refine gk 3 rfl ?_; first | refine sl_op rfl rfl rfl (by first | exact opv_load rfl (by exact rfl) rfl (by exact rfl) | exact opv_fieldAddr rfl rfl ) ?_ )
        | (refine gk 5 rfl ?_; first | refine sl_op rfl rfl rfl (by first | exact opv_nilCheck rfl rfl ) ?_ )
        | refine DZ.chu_q rfl ?_
        | (refine DZ.chu_Z rfl rfl rfl rfl rfl rfl rfl rfl (hnn 0) (fun h => by cases h) (fun _ => .inl ⟨_, List.Perm.refl _⟩) ?_; rintro _ _ ⟨βf, rfl, rfl⟩; refine .inr ⟨_, _, rfl, rfl, ?_⟩; repeat (first | refine thn_panic ?_ ))
        | refine sl_nil ?_
        )
      exact pan_end ⟨_, rfl, rfl⟩
    · refine t_of_body Tryd.func26 rfl (Nat.le_of_ble_eq_true rfl) fun F => ?_
      repeat' (first
        | refine swp_seq ?_
        | (refine gk 5 rfl ?_; first | refine sl_box rfl rfl rfl rfl rfl rfl (fun β => ?_) | refine sl_alloc rfl rfl rfl rfl (by exact rfl) (fun β => ?_) )
        | refine sl_region rfl ?_
        | refine sl_nil ?_
        )
      refine DZ.sl_drawC [.q [0, 1, 2, 3, 4, 5, 6, 7, 8, 9, 10, 11, 12, 13, 14], .h true 15] [] (by kernel_rfl) (by kernel_rfl) (by kernel_rfl) (by kernel_rfl) ?_
      repeat' (first
        | refine sl_op rfl rfl rfl (opv_lenS rfl rfl rfl rfl rfl) ?_
        | (refine gk 0 rfl ?_; first | refine sl_op rfl rfl rfl (by first | exact opv_move rfl rfl | exact opv_pick_f rfl rfl rfl ) ?_ )
        | (refine gk 2 rfl ?_; first | refine sl_pass rfl rfl rfl rfl ?_ | refine sl_no rfl rfl rfl (by first | exact opv_geq rfl rfl rfl ) (by first | omega ) ?_ )
        | (refine gk 3 rfl ?_; first | refine sl_op rfl rfl rfl (by first | exact opv_load rfl (by exact rfl) rfl (by exact rfl) | exact opv_fieldAddr rfl rfl ) ?_ | refine sl_pass rfl rfl rfl rfl ?_)
        | (refine gk 5 rfl ?_; first | refine sl_op rfl rfl rfl (by first | exact opv_nilCheck rfl rfl ) ?_ | refine sl_pass rfl rfl rfl rfl ?_ )
        | refine DZ.chu_q rfl ?_
        | (refine DZ.chu_Z rfl rfl rfl rfl rfl rfl rfl rfl (hnn 0) (fun h => by cases h) (fun _ => .inl ⟨_, List.Perm.refl _⟩) ?_; rintro _ _ ⟨βf, rfl, rfl⟩; refine .inr ⟨_, _, rfl, rfl, ?_⟩; repeat (first | refine thn_panic ?_ ))
        | refine sl_nil ?_
        )
      exact pan_end ⟨_, rfl, rfl⟩
end Go.Proofs.YtjdjkcebflablaaDoor
