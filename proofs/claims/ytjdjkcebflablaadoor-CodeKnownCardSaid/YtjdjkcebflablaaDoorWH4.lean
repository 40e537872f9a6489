/- The program's decoder: methods, walked. -/
import Derived.Test.YtjdjkcebflablaaDoorWH3
set_option linter.unusedVariables false
set_option linter.unusedSimpArgs false
set_option linter.unusedSectionVars false
namespace Go.Proofs.YtjdjkcebflablaaDoor
open Go.SL
set_option maxRecDepth 100000
set_option maxHeartbeats 16000000
def methodR (s : List UInt8) (most cl : Int) : Rd Me := fun a => match kindsR s most cl a with
  | .error e => .error e
  | .ok (ps, a1) => match num s 1 (fun z => wi z ps.length 16) a1 with
    | .error e => .error e
    | .ok (lo, a2) => match num s 1 (fun z => wi z 0 32) a2 with
      | .error e => .error e
      | .ok (st, a3) => match num s 2 (fun z => wi z 1 256) a3 with
        | .error e => .error e
        | .ok (n, a4) => match rep (insR s) n.toNat a4 with
          | .error e => .error e
          | .ok (code, a5) => .ok (⟨ps, lo, st, code⟩, a5)
theorem flatI_one : ∀ (l : List Ins), (flatI l).all (·.oneCell') = true
  | [] => rfl
  | x :: l => by simp only [flatI, List.all_cons, flatI_one l, Bool.and_true]; rfl
theorem insR_ok {s : List UInt8} {a b : Nat} {y : Ins} (h : insR s a = .ok (y, b)) : b ≤ s.length := by
  unfold insR at h
  split at h
  · split at h
    · split at h
      · cases h; exact (num_ok (by assumption)).2.2
      · cases h
    · cases h
  · cases h
attribute [local irreducible] SL.T PFn OpV SOL SWP HOp ChU DZ.ChU
-- ALIAS Tryd
-- CHANGES 46 65 67 50 68
structure SI where
  j : Nat
  a : Nat
  h : Heap
  b : Option Addr
  c : Nat
  l : List Ins
theorem someI_calls (n : Nat) (βr : Nat) (s : List UInt8) (a : Nat) (hs : s.length ≤ 9223372036854775807) (ha : a ≤ s.length) (hn : n ≤ 1000) :
    SL.T Tryd.prog 67 [i64 (n : Int), .func (.func 68) #[ptr βr] #[]] [rdr βr s a]
      (RQ (rep (insR s) n a) fun l b e o => ∃ h base cap, e = .returned (.slice base n cap) ∧ OS h base n cap 58 3 (flatI l) ∧ b ≤ s.length ∧ l.length = n ∧ o = [h, rdr βr s b]) := by
  refine t_of_body Tryd.func67 rfl (Nat.le_of_ble_eq_true rfl) fun F => ?_
  refine swp_emp ?_
  repeat' (first
    | refine swp_seq ?_
    | (refine gk 0 rfl ?_; first | refine sl_op rfl rfl rfl (by first | exact opv_move rfl rfl | exact opv_assign rfl rfl ) ?_ )
    | refine sl_region rfl ?_
    | refine sl_nil ?_
    | refine thn_k ?_
    | refine swp_block ?_
    )
  refine swp_loopS (fun t : SI => [(1, .func (.func 68) #[ptr βr] #[]), (4, .slice t.b t.j t.c), (5, i64 (n : Int)), (6, i64 (t.j : Int))])
    (fun t => [t.h, rdr βr s t.a])
    (fun t => t.j ≤ n ∧ t.a ≤ s.length ∧ rep (insR s) t.j a = .ok (t.l, t.a) ∧ OS t.h t.b t.j t.c 58 3 (flatI t.l))
    (fun t => n - t.j) ⟨0, a, emp, none, 0, []⟩ (by repeat first | exact Sub.nil _ | refine Sub.cons rfl ?_) ⟨Nat.zero_le _, ha, rfl, OS.nil⟩ ?_
  rintro ⟨j, x, h, b, c, l⟩ ⟨hj, hx, hr, os⟩
  dsimp only at hj hx hr os ⊢
  by_cases hj2 : j < n
  · have hk := insn_calls βr s x hs hx
    cases h1 : insR s x with
    | error q =>
      rw [h1] at hk
      repeat' (first
        | refine swp_seq ?_
        | (refine gk 0 rfl ?_; first | refine sl_op rfl rfl rfl (by first | exact opv_move rfl rfl ) ?_ )
        | (refine gk 2 rfl ?_; first | refine sl_yes rfl rfl rfl (by first | exact opv_lss rfl rfl rfl ) (by first | omega ) ?_ )
        | (refine gk 4 rfl ?_; first | (refine sl_call rfl rfl rfl rfl rfl rfl rfl rfl (hk) ?_; rintro _ _ ⟨βf, rfl, rfl⟩; refine .inr ⟨_, rfl, ?_⟩; repeat (first | refine thn_panic ?_ | refine inb_panic ?_)))
        | refine sl_region rfl ?_
        | refine sl_nil ?_
        | refine swp_true rfl ?_
        | refine swp_block ?_
        | refine swp_skip ?_
        )
      rw [rep_err hj2 hr h1]
      exact pan_end ⟨_, rfl, rfl⟩
    | ok r =>
      obtain ⟨z, y⟩ := r
      rw [h1] at hk
      repeat' (first
        | refine swp_seq ?_
        | (refine gk 0 rfl ?_; first | refine sl_op rfl rfl rfl (by first | exact opv_move rfl rfl | exact opv_assign rfl rfl ) ?_ )
        | (refine gk 1 rfl ?_; first | refine sl_op rfl rfl rfl (by first | exact opv_add64 rfl rfl rfl (by omega) (by omega) ) ?_ )
        | (refine gk 2 rfl ?_; first | refine sl_yes rfl rfl rfl (by first | exact opv_lss rfl rfl rfl ) (by first | omega ) ?_ )
        | (refine gk 4 rfl ?_; first | (refine sl_callT rfl rfl rfl rfl rfl rfl rfl rfl (hk) ?_; rintro _ _ ⟨rfl, rfl⟩; refine ⟨_, _, rfl, rfl, ?_⟩) | refine sl_appendG rfl rfl rfl rfl rfl rfl rfl rfl rfl (by assumption) (by first | rfl ) (by decide) (by first | rfl ) (by omega) (by omega) (fun h' b' c' os' hb' => ?_))
        | (refine gk 5 rfl ?_; first | refine sl_buildSlice rfl rfl rfl rfl rfl (by exact rfl) (by exact rfl) (by exact rfl) (by exact rfl) rfl (fun b => ?_) )
        | refine sl_region rfl ?_
        | refine sl_nil ?_
        | refine thn_k ?_
        | refine swp_true rfl ?_
        | refine swp_block ?_
        | refine swp_skip ?_
        )
      refine ⟨rfl, ⟨j + 1, y, h', b', c', l ++ [z]⟩, next_ok (by repeat first | exact Sub.nil _ | refine Sub.cons rfl ?_), ⟨by dsimp only; omega, insR_ok h1, by simp only [rep, hr, h1], ?_⟩, by dsimp only; omega⟩
      dsimp only
      rw [flatI_append]
      simpa [flatI] using os'
  · obtain rfl : j = n := by omega
    repeat' (first
      | refine swp_seq ?_
      | (refine gk 0 rfl ?_; first | refine sl_op rfl rfl rfl (by first | exact opv_move rfl rfl | exact opv_assign rfl rfl ) ?_ )
      | (refine gk 2 rfl ?_; first | refine sl_no rfl rfl rfl (by first | exact opv_lss rfl rfl rfl ) (by first | omega ) ?_ )
      | refine sl_region rfl ?_
      | refine sl_nil ?_
      | refine thn_k ?_
      | refine swp_false rfl ?_
      | refine swp_ret ?_
      | refine swp_exit ?_
      )
    rw [hr]
    exact end_retZ [h, rdr βr s x] (resOk_one (resV_tmp rfl)) ⟨h, b, c, rfl, os, hx, rep_len hr, rfl⟩
end Go.Proofs.YtjdjkcebflablaaDoor
