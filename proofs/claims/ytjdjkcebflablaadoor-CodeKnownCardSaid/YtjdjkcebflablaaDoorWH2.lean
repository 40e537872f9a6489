/- The program's decoder: kinds, instructions, walked. -/
import Derived.Test.YtjdjkcebflablaaDoorWH
set_option linter.unusedVariables false
set_option linter.unusedSimpArgs false
set_option linter.unusedSectionVars false
namespace Go.Proofs.YtjdjkcebflablaaDoor
open Go.SL
set_option maxRecDepth 100000
set_option maxHeartbeats 16000000
theorem rep_err {α : Type} {r : Rd α} {a b q : Nat} {l : List α} : ∀ {j n : Nat}, j < n → rep r j a = .ok (l, b) → r b = .error q → rep r n a = .error q := by
  intro j n
  induction n with
  | zero => intro h; omega
  | succ n ih =>
    intro h h1 h2
    by_cases e : j = n
    · subst e
      simp only [rep, h1, h2]
    · simp only [rep, ih (by omega) h1 h2]
theorem rep_len {α : Type} {r : Rd α} {a b : Nat} : ∀ {n : Nat} {l : List α}, rep r n a = .ok (l, b) → l.length = n := by
  intro n
  induction n generalizing b with
  | zero => intro l h; simp only [rep] at h; cases h; rfl
  | succ n ih =>
    intro l h
    simp only [rep] at h
    split at h
    · split at h
      · cases h
        rename_i h1 _ _ _
        simp [ih h1]
      · cases h
    · cases h
theorem i64s_one (l : List Int) : (l.map i64).all (·.oneCell') = true := by
  rw [List.all_map, List.all_eq_true]; intro x _; rfl
attribute [local irreducible] SL.T PFn OpV SOL SWP HOp ChU DZ.ChU
-- ALIAS Tryd
-- CHANGES 46 65 67 50 68
theorem insn_calls (βr : Nat) (s : List UInt8) (a : Nat) (hs : s.length ≤ 9223372036854775807) (ha : a ≤ s.length) :
    SL.T Tryd.prog 68 [ptr βr] [rdr βr s a] (RQ (insR s a) fun y b e o => e = .returned (.agg ⟨[i64 y.op, i64 y.a, i64 y.b]⟩) ∧ o = [rdr βr s b]) := by
  have g1 := getr_calls βr s a 1 hs ha (by decide)
  unfold insR
  cases h1 : num s 1 (fun _ => true) a with
  | error q =>
    rw [h1] at g1
    refine t_of_body Tryd.func68 rfl (Nat.le_of_ble_eq_true rfl) fun F => ?_
    repeat' (first
      | refine swp_seq ?_
      | (refine gk 0 rfl ?_; first | refine sl_op rfl rfl rfl (by first | exact opv_move rfl rfl ) ?_ )
      | (refine gk 4 rfl ?_; first | (refine sl_call rfl rfl rfl rfl rfl rfl rfl rfl (g1) ?_; rintro _ _ ⟨βf, rfl, rfl⟩; refine .inr ⟨_, rfl, ?_⟩; repeat (first | refine thn_panic ?_ )))
      | (refine gk 5 rfl ?_; first | refine sl_alloc rfl rfl rfl rfl (by exact rfl) (fun β => ?_) )
      | refine sl_region rfl ?_
      | refine sl_nil ?_
      )
    exact pan_end ⟨_, rfl, rfl⟩
  | ok r1 =>
    obtain ⟨n1, b1⟩ := r1
    rw [h1] at g1
    have g2 := getr_calls βr s b1 8 hs (num_ok h1).2.2 (by decide)
    dsimp only
    cases h2 : num s 8 (fun _ => true) b1 with
    | error q =>
      rw [h2] at g2
      refine t_of_body Tryd.func68 rfl (Nat.le_of_ble_eq_true rfl) fun F => ?_
      repeat' (first
        | refine swp_seq ?_
        | (refine gk 0 rfl ?_; first | refine sl_op rfl rfl rfl (by first | exact opv_move rfl rfl | exact opv_assign rfl rfl ) ?_ )
        | (refine gk 4 rfl ?_; first | (refine sl_callT rfl rfl rfl rfl rfl rfl rfl rfl (g1) ?_; rintro _ _ ⟨rfl, rfl⟩; refine ⟨_, _, rfl, rfl, ?_⟩) | (refine sl_call rfl rfl rfl rfl rfl rfl rfl rfl (g2) ?_; rintro _ _ ⟨βf, rfl, rfl⟩; refine .inr ⟨_, rfl, ?_⟩; repeat (first | refine thn_panic ?_ )))
        | (refine gk 5 rfl ?_; first | refine sl_alloc rfl rfl rfl rfl (by exact rfl) (fun β => ?_) )
        | refine sl_region rfl ?_
        | refine sl_nil ?_
        )
      exact pan_end ⟨_, rfl, rfl⟩
    | ok r2 =>
      obtain ⟨n2, b2⟩ := r2
      rw [h2] at g2
      have g3 := getr_calls βr s b2 8 hs (num_ok h2).2.2 (by decide)
      dsimp only
      cases h3 : num s 8 (fun _ => true) b2 with
      | error q =>
        rw [h3] at g3
        refine t_of_body Tryd.func68 rfl (Nat.le_of_ble_eq_true rfl) fun F => ?_
        repeat' (first
          | refine swp_seq ?_
          | (refine gk 0 rfl ?_; first | refine sl_op rfl rfl rfl (by first | exact opv_move rfl rfl | exact opv_assign rfl rfl ) ?_ )
          | (refine gk 4 rfl ?_; first | (refine sl_callT rfl rfl rfl rfl rfl rfl rfl rfl (g1) ?_; rintro _ _ ⟨rfl, rfl⟩; refine ⟨_, _, rfl, rfl, ?_⟩) | (refine sl_callT rfl rfl rfl rfl rfl rfl rfl rfl (g2) ?_; rintro _ _ ⟨rfl, rfl⟩; refine ⟨_, _, rfl, rfl, ?_⟩) | (refine sl_call rfl rfl rfl rfl rfl rfl rfl rfl (g3) ?_; rintro _ _ ⟨βf, rfl, rfl⟩; refine .inr ⟨_, rfl, ?_⟩; repeat (first | refine thn_panic ?_ )))
          | (refine gk 5 rfl ?_; first | refine sl_alloc rfl rfl rfl rfl (by exact rfl) (fun β => ?_) )
          | refine sl_region rfl ?_
          | refine sl_nil ?_
          )
        exact pan_end ⟨_, rfl, rfl⟩
      | ok r3 =>
        obtain ⟨n3, b3⟩ := r3
        rw [h3] at g3
        dsimp only
        refine t_of_body Tryd.func68 rfl (Nat.le_of_ble_eq_true rfl) fun F => ?_
        repeat' (first
          | refine swp_seq ?_
          | (refine gk 0 rfl ?_; first | refine sl_op rfl rfl rfl (by first | exact opv_move rfl rfl | exact opv_assign rfl rfl ) ?_ )
          | (refine gk 4 rfl ?_; first | (refine sl_callT rfl rfl rfl rfl rfl rfl rfl rfl (g1) ?_; rintro _ _ ⟨rfl, rfl⟩; refine ⟨_, _, rfl, rfl, ?_⟩) | (refine sl_callT rfl rfl rfl rfl rfl rfl rfl rfl (g2) ?_; rintro _ _ ⟨rfl, rfl⟩; refine ⟨_, _, rfl, rfl, ?_⟩) | (refine sl_callT rfl rfl rfl rfl rfl rfl rfl rfl (g3) ?_; rintro _ _ ⟨rfl, rfl⟩; refine ⟨_, _, rfl, rfl, ?_⟩))
          | (refine gk 5 rfl ?_; first | refine sl_op rfl rfl rfl (by first | exact opv_build rfl rfl (by exact rfl) ) ?_ | refine sl_alloc rfl rfl rfl rfl (by exact rfl) (fun β => ?_) | refine sl_store rfl rfl rfl rfl rfl rfl (by exact rfl) rfl (by exact rfl) ?_)
          | refine sl_region rfl ?_
          | refine sl_nil ?_
          | refine thn_k ?_
          | refine swp_ret ?_
          )
        exact end_retW [rdr βr s b3] (resOk_one (resV_cellA rfl rfl rfl rfl)) sub_perm ⟨rfl, rfl⟩
structure SR where
  j : Nat
  a : Nat
  h : Heap
  b : Option Addr
  c : Nat
  l : List Int
theorem someK_calls (n : Nat) (βp β β2 : Nat) (s : List UInt8) (a : Nat) (cl : Int) (hs : s.length ≤ 9223372036854775807) (ha : a ≤ s.length) (hn : n ≤ 1000) :
    SL.T Tryd.prog 65 [i64 (n : Int), .func (.func 66) #[] #[ptr βp, ptr β2]] [blk βp (.cells ⟨[ptr β]⟩ 76 (0, 0)), blk β2 (.cells ⟨[i64 cl]⟩ 3 (0, 0)), rdr β s a]
      (RQ (rep (num s 1 fun z => wi z 0 cl) n a) fun l b e o => ∃ h base cap, e = .returned (.slice base n cap) ∧ OS h base n cap 50 1 (l.map i64) ∧ b ≤ s.length ∧ l.length = n ∧ o = [h, blk βp (.cells ⟨[ptr β]⟩ 76 (0, 0)), blk β2 (.cells ⟨[i64 cl]⟩ 3 (0, 0)), rdr β s b]) := by
  refine t_of_body Tryd.func65 rfl (Nat.le_of_ble_eq_true rfl) fun F => ?_
  refine swp_emp ?_
  repeat' (first
    | refine swp_seq ?_
    | (refine gk 0 rfl ?_; first | refine sl_op rfl rfl rfl (by first | exact opv_move rfl rfl | exact opv_assign rfl rfl ) ?_ )
    | refine sl_region rfl ?_
    | refine sl_nil ?_
    | refine thn_k ?_
    | refine swp_block ?_
    )
  refine swp_loopS (fun t : SR => [(1, .func (.func 66) #[] #[ptr βp, ptr β2]), (4, .slice t.b t.j t.c), (5, i64 (n : Int)), (6, i64 (t.j : Int))])
    (fun t => [t.h, blk βp (.cells ⟨[ptr β]⟩ 76 (0, 0)), blk β2 (.cells ⟨[i64 cl]⟩ 3 (0, 0)), rdr β s t.a])
    (fun t => t.j ≤ n ∧ t.a ≤ s.length ∧ rep (num s 1 fun z => wi z 0 cl) t.j a = .ok (t.l, t.a) ∧ OS t.h t.b t.j t.c 50 1 (t.l.map i64))
    (fun t => n - t.j) ⟨0, a, emp, none, 0, []⟩ (by repeat first | exact Sub.nil _ | refine Sub.cons rfl ?_) ⟨Nat.zero_le _, ha, rfl, OS.nil⟩ ?_
  rintro ⟨j, x, h, b, c, l⟩ ⟨hj, hx, hr, os⟩
  dsimp only at hj hx hr os ⊢
  by_cases hj2 : j < n
  · have hk := kind1_calls βp β β2 s x cl hs hx
    cases h1 : num s 1 (fun z => wi z 0 cl) x with
    | error q =>
      rw [h1] at hk
      repeat' (first
        | refine swp_seq ?_
        | (refine gk 0 rfl ?_; first | refine sl_op rfl rfl rfl (by first | exact opv_move rfl rfl ) ?_ )
        | (refine gk 2 rfl ?_; first | refine sl_yes rfl rfl rfl (by first | exact opv_lss rfl rfl rfl ) (by first | omega ) ?_ )
        | (refine gk 4 rfl ?_; first | (refine sl_call rfl rfl rfl rfl rfl rfl rfl rfl (hk) ?_; rintro _ _ ⟨βf, rfl, rfl⟩; refine .inr ⟨_, rfl, ?_⟩; repeat (first | refine thn_panic ?_ | refine inb_panic ?_)))
        | refine sl_region rfl ?_
        | refine sl_nil ?_
        | refine swp_true rfl ?_
        | refine swp_block ?_
        | refine swp_skip ?_
        )
      rw [rep_err hj2 hr h1]
      exact pan_end ⟨_, rfl, rfl⟩
    | ok r =>
      obtain ⟨z, y⟩ := r
      rw [h1] at hk
      repeat' (first
        | refine swp_seq ?_
        | (refine gk 0 rfl ?_; first | refine sl_op rfl rfl rfl (by first | exact opv_move rfl rfl | exact opv_assign rfl rfl ) ?_ )
        | (refine gk 1 rfl ?_; first | refine sl_op rfl rfl rfl (by first | exact opv_add64 rfl rfl rfl (by omega) (by omega) ) ?_ )
        | (refine gk 2 rfl ?_; first | refine sl_yes rfl rfl rfl (by first | exact opv_lss rfl rfl rfl ) (by first | omega ) ?_ )
        | (refine gk 4 rfl ?_; first | (refine sl_callT rfl rfl rfl rfl rfl rfl rfl rfl (hk) ?_; rintro _ _ ⟨rfl, rfl⟩; refine ⟨_, _, rfl, rfl, ?_⟩) | refine sl_appendG rfl rfl rfl rfl rfl rfl rfl rfl rfl (by assumption) (by first | rfl ) (by decide) (by first | rfl ) (by omega) (by omega) (fun h' b' c' os' hb' => ?_))
        | (refine gk 5 rfl ?_; first | refine sl_buildSlice rfl rfl rfl rfl rfl (by exact rfl) (by exact rfl) (by exact rfl) (by exact rfl) rfl (fun b => ?_) )
        | refine sl_region rfl ?_
        | refine sl_nil ?_
        | refine thn_k ?_
        | refine swp_true rfl ?_
        | refine swp_block ?_
        | refine swp_skip ?_
        )
      refine ⟨rfl, ⟨j + 1, y, h', b', c', l ++ [z]⟩, next_ok (by repeat first | exact Sub.nil _ | refine Sub.cons rfl ?_), ⟨by dsimp only; omega, (num_ok h1).2.2, by simp only [rep, hr, h1], ?_⟩, by dsimp only; omega⟩
      dsimp only
      simpa using os'
  · obtain rfl : j = n := by omega
    repeat' (first
      | refine swp_seq ?_
      | (refine gk 0 rfl ?_; first | refine sl_op rfl rfl rfl (by first | exact opv_move rfl rfl | exact opv_assign rfl rfl ) ?_ )
      | (refine gk 2 rfl ?_; first | refine sl_no rfl rfl rfl (by first | exact opv_lss rfl rfl rfl ) (by first | omega ) ?_ )
      | refine sl_region rfl ?_
      | refine sl_nil ?_
      | refine thn_k ?_
      | refine swp_false rfl ?_
      | refine swp_ret ?_
      | refine swp_exit ?_
      )
    rw [hr]
    exact end_retW [h, blk βp (.cells ⟨[ptr β]⟩ 76 (0, 0)), blk β2 (.cells ⟨[i64 cl]⟩ 3 (0, 0)), rdr β s x] (resOk_one (resV_tmp rfl)) sub_perm ⟨h, b, c, rfl, os, hx, rep_len hr, rfl⟩
end Go.Proofs.YtjdjkcebflablaaDoor
