/- The program's decoder: classes, walked. -/
import Derived.Test.YtjdjkcebflablaaDoorWH5
set_option linter.unusedVariables false
set_option linter.unusedSimpArgs false
set_option linter.unusedSectionVars false
namespace Go.Proofs.YtjdjkcebflablaaDoor
open Go.SL
set_option maxRecDepth 100000
set_option maxHeartbeats 16000000
/-- Classes, laid in one heap. -/
def ClsP (K : Heap) (cls : List (List Int)) (vals : List Value) : Prop :=
  vals.length = cls.length ∧ ∀ (i : Nat) (f : List Int), cls[i]? = some f → ∃ fb fn fc, vals[i]? = some (.slice fb fn fc) ∧ Sl K fb (f.map i64) ∧ f.length = fn ∧ fn ≤ 1000
theorem ClsP.mono {K K' : Heap} {cls : List (List Int)} {vals : List Value} (h : ClsP K cls vals) (l : hle K K') : ClsP K' cls vals := by
  refine ⟨h.1, fun i f hf => ?_⟩
  obtain ⟨fb, fn, fc, g1, g2, g3⟩ := h.2 i f hf
  exact ⟨fb, fn, fc, g1, g2.mono l, g3⟩
theorem ClsP.snoc {K : Heap} {cls : List (List Int)} {vals : List Value} {f : List Int} {fb : Option Addr} {fn fc : Nat} (h : ClsP K cls vals) (h1 : Sl K fb (f.map i64)) (h2 : f.length = fn) (h3 : fn ≤ 1000) : ClsP K (cls ++ [f]) (vals ++ [.slice fb fn fc]) := by
  refine ⟨by simp [h.1], fun i g hg => ?_⟩
  by_cases hi : i < cls.length
  · rw [List.getElem?_append_left hi] at hg
    obtain ⟨gb, gn, gc, g1, g2⟩ := h.2 i g hg
    exact ⟨gb, gn, gc, by rw [List.getElem?_append_left (by rw [h.1]; exact hi)]; exact g1, g2⟩
  · have hi2 : i = cls.length := by
      have := (List.getElem?_eq_some_iff.1 hg).1
      simp at this; omega
    subst hi2
    simp at hg; subst hg
    exact ⟨fb, fn, fc, by rw [← h.1]; simp, h1, h2, h3⟩
theorem ClsP.nil {K : Heap} : ClsP K [] [] := ⟨rfl, fun i f h => by simp at h⟩
attribute [local irreducible] SL.T PFn OpV SOL SWP HOp ChU DZ.ChU
-- ALIAS Tryd
theorem class1_calls (βp βr βn : Nat) (s : List UInt8) (a : Nat) (cl : Int) (hs : s.length ≤ 9223372036854775807) (ha : a ≤ s.length) :
    SL.T Tryd.prog 49 [ptr βp, ptr βn] [blk βp (.cells ⟨[ptr βr]⟩ 76 (0, 0)), blk βn (.cells ⟨[i64 cl]⟩ 3 (0, 0)), rdr βr s a]
      (RQ (kindsR s 8 cl a) fun l b e o => ∃ h base cap, e = .returned (.agg ⟨[.slice base l.length cap]⟩) ∧ OS h base l.length cap 50 1 (l.map i64) ∧ b ≤ s.length ∧ l.length ≤ 1000 ∧ o = [h, blk βp (.cells ⟨[ptr βr]⟩ 76 (0, 0)), blk βn (.cells ⟨[i64 cl]⟩ 3 (0, 0)), rdr βr s b]) := by
  have g := kindsR_calls βr s a 8 cl hs ha (by decide)
  cases h1 : kindsR s 8 cl a with
  | error q =>
    rw [h1] at g
    refine t_of_body Tryd.func49 rfl (Nat.le_of_ble_eq_true rfl) fun F => ?_
    repeat' (first
      | refine swp_seq ?_
      | (refine gk 3 rfl ?_; first | refine sl_op rfl rfl rfl (by first | exact opv_load rfl (by exact rfl) rfl (by exact rfl) ) ?_ )
      | (refine gk 4 rfl ?_; first | (refine sl_call rfl rfl rfl rfl rfl rfl rfl rfl (g) ?_; rintro _ _ ⟨βf, rfl, rfl⟩; refine .inr ⟨_, rfl, ?_⟩; repeat (first | refine thn_panic ?_ )))
      | (refine gk 5 rfl ?_; first | refine sl_alloc rfl rfl rfl rfl (by exact rfl) (fun β => ?_) )
      | refine sl_region rfl ?_
      | refine sl_nil ?_
      )
    exact pan_end ⟨_, rfl, rfl⟩
  | ok r =>
    obtain ⟨l, b⟩ := r
    rw [h1] at g
    refine t_of_body Tryd.func49 rfl (Nat.le_of_ble_eq_true rfl) fun F => ?_
    repeat' (first
      | refine swp_seq ?_
      | (refine gk 3 rfl ?_; first | refine sl_op rfl rfl rfl (by first | exact opv_load rfl (by exact rfl) rfl (by exact rfl) ) ?_ )
      | (refine gk 4 rfl ?_; first | (refine sl_callT rfl rfl rfl rfl rfl rfl rfl rfl (g) ?_; rintro _ _ ⟨h, base, cap, rfl, os, hb, hl, rfl⟩; refine ⟨_, _, rfl, rfl, ?_⟩))
      | (refine gk 5 rfl ?_; first | refine sl_op rfl rfl rfl (by first | exact opv_build rfl rfl (by exact rfl) ) ?_ | refine sl_alloc rfl rfl rfl rfl (by exact rfl) (fun β => ?_) | refine sl_store rfl rfl rfl rfl rfl rfl (by exact rfl) rfl (by exact rfl) ?_)
      | refine sl_region rfl ?_
      | refine sl_nil ?_
      | refine thn_k ?_
      | refine swp_ret ?_
      )
    exact end_retZ [h, blk βp (.cells ⟨[ptr βr]⟩ 76 (0, 0)), blk βn (.cells ⟨[i64 cl]⟩ 3 (0, 0)), rdr βr s b] (resOk_one (resV_cellA rfl rfl rfl rfl)) ⟨h, base, cap, rfl, os, hb, hl, rfl⟩
structure SC where
  j : Nat
  a : Nat
  h : Heap
  b : Option Addr
  c : Nat
  K : Heap
  cls : List (List Int)
  vals : List Value
theorem someC_calls (n : Nat) (βp βr βn : Nat) (s : List UInt8) (a : Nat) (cl : Int) (hs : s.length ≤ 9223372036854775807) (ha : a ≤ s.length) (hn : n ≤ 1000) :
    SL.T Tryd.prog 48 [i64 (n : Int), .func (.func 49) #[] #[ptr βp, ptr βn]] [blk βp (.cells ⟨[ptr βr]⟩ 76 (0, 0)), blk βn (.cells ⟨[i64 cl]⟩ 3 (0, 0)), rdr βr s a]
      (RQ (rep (kindsR s 8 cl) n a) fun cls b e o => ∃ K h base cap vals, e = .returned (.slice base n cap) ∧ OS h base n cap 53 1 vals ∧ ClsP K cls vals ∧ b ≤ s.length ∧ cls.length = n ∧ o = [K, h, blk βp (.cells ⟨[ptr βr]⟩ 76 (0, 0)), blk βn (.cells ⟨[i64 cl]⟩ 3 (0, 0)), rdr βr s b]) := by
  refine t_of_body Tryd.func48 rfl (Nat.le_of_ble_eq_true rfl) fun F => ?_
  refine swp_emp ?_
  refine swp_emp ?_
  repeat' (first
    | refine swp_seq ?_
    | (refine gk 0 rfl ?_; first | refine sl_op rfl rfl rfl (by first | exact opv_move rfl rfl | exact opv_assign rfl rfl ) ?_ )
    | refine sl_region rfl ?_
    | refine sl_nil ?_
    | refine thn_k ?_
    | refine swp_block ?_
    )
  refine swp_loopD (fun t : SC => [(1, .func (.func 49) #[] #[ptr βp, ptr βn]), (4, .slice t.b t.j t.c), (5, i64 (n : Int)), (6, i64 (t.j : Int))])
    (fun t => [t.K, t.h, blk βp (.cells ⟨[ptr βr]⟩ 76 (0, 0)), blk βn (.cells ⟨[i64 cl]⟩ 3 (0, 0)), rdr βr s t.a])
    (fun t => t.j ≤ n ∧ t.a ≤ s.length ∧ rep (kindsR s 8 cl) t.j a = .ok (t.cls, t.a) ∧ OS t.h t.b t.j t.c 53 1 t.vals ∧ ClsP t.K t.cls t.vals)
    (fun t => n - t.j) ⟨0, a, emp, none, 0, emp, [], []⟩ (by repeat first | exact Sub.nil _ | refine Sub.cons rfl ?_) ⟨Nat.zero_le _, ha, rfl, OS.nil, ClsP.nil⟩ ?_
  rintro ⟨j, x, h, b, c, K, cls, vals⟩ ⟨hj, hx, hr, os, hP⟩
  dsimp only at hj hx hr os hP ⊢
  by_cases hj2 : j < n
  · have hk := class1_calls βp βr βn s x cl hs hx
    cases h1 : kindsR s 8 cl x with
    | error q =>
      rw [h1] at hk
      repeat' (first
        | refine swp_seq ?_
        | (refine gk 0 rfl ?_; first | refine sl_op rfl rfl rfl (by first | exact opv_move rfl rfl ) ?_ )
        | (refine gk 2 rfl ?_; first | refine sl_yes rfl rfl rfl (by first | exact opv_lss rfl rfl rfl ) (by first | omega ) ?_ )
        | (refine gk 4 rfl ?_; first | (refine sl_call rfl rfl rfl rfl rfl rfl rfl rfl (hk) ?_; rintro _ _ ⟨βf, rfl, rfl⟩; refine .inr ⟨_, rfl, ?_⟩; repeat (first | refine thn_panic ?_ | refine inb_panic ?_)))
        | refine sl_region rfl ?_
        | refine sl_nil ?_
        | refine swp_true rfl ?_
        | refine swp_block ?_
        | refine swp_skip ?_
        )
      rw [rep_err hj2 hr h1]
      exact pan_end ⟨_, rfl, rfl⟩
    | ok r =>
      obtain ⟨z, y⟩ := r
      rw [h1] at hk
      repeat' (first
        | refine swp_seq ?_
        | (refine gk 0 rfl ?_; first | refine sl_op rfl rfl rfl (by first | exact opv_move rfl rfl | exact opv_assign rfl rfl ) ?_ )
        | (refine gk 1 rfl ?_; first | refine sl_op rfl rfl rfl (by first | exact opv_add64 rfl rfl rfl (by omega) (by omega) ) ?_ )
        | (refine gk 2 rfl ?_; first | refine sl_yes rfl rfl rfl (by first | exact opv_lss rfl rfl rfl ) (by first | omega ) ?_ )
        | (refine gk 4 rfl ?_; first | (refine sl_callT rfl rfl rfl rfl rfl rfl rfl rfl (hk) ?_; rintro _ _ ⟨hz, bz, cz, rfl, osz, hy, hl, rfl⟩; refine ⟨_, _, rfl, rfl, ?_⟩) | refine sl_appendG rfl rfl rfl rfl rfl rfl rfl rfl rfl (by assumption) (by first | rfl ) (by decide) (by first | rfl ) (by omega) (by omega) (fun h' b' c' os' hb' => ?_))
        | (refine gk 5 rfl ?_; first | refine sl_buildSlice rfl rfl rfl rfl rfl (by exact rfl) (by exact rfl) (by exact rfl) (by exact rfl) rfl (fun b => ?_) )
        | refine sl_region rfl ?_
        | refine sl_nil ?_
        | refine thn_k ?_
        | refine swp_true rfl ?_
        | refine swp_block ?_
        | refine swp_skip ?_
        )
      intro hd
      have dj : Disj hz K := disj_of hd
      refine ⟨rfl, ⟨j + 1, y, h', b', c', join hz K, cls ++ [z], vals ++ [.slice bz z.length cz]⟩, next_join (h := hz) (k := K) (by repeat first | exact Sub.nil _ | refine Sub.cons rfl ?_), ⟨by dsimp only; omega, hy, by simp only [rep, hr, h1], os', ?_⟩, by dsimp only; omega⟩
      exact (hP.mono (join_right dj)).snoc (osz.sl.mono join_left) rfl hl
  · obtain rfl : j = n := by omega
    repeat' (first
      | refine swp_seq ?_
      | (refine gk 0 rfl ?_; first | refine sl_op rfl rfl rfl (by first | exact opv_move rfl rfl | exact opv_assign rfl rfl ) ?_ )
      | (refine gk 2 rfl ?_; first | refine sl_no rfl rfl rfl (by first | exact opv_lss rfl rfl rfl ) (by first | omega ) ?_ )
      | refine sl_region rfl ?_
      | refine sl_nil ?_
      | refine thn_k ?_
      | refine swp_false rfl ?_
      | refine swp_ret ?_
      | refine swp_exit ?_
      )
    rw [hr]
    exact end_retZ [K, h, blk βp (.cells ⟨[ptr βr]⟩ 76 (0, 0)), blk βn (.cells ⟨[i64 cl]⟩ 3 (0, 0)), rdr βr s x] (resOk_one (resV_tmp rfl)) ⟨K, h, b, c, vals, rfl, os, hP, hx, rep_len hr, rfl⟩
end Go.Proofs.YtjdjkcebflablaaDoor
