/- The document's reader, as a function; its number and its kinds, walked. -/
import Derived.Test.YtjdjkcebflablaaDoorWI
set_option linter.unusedVariables false
set_option linter.unusedSimpArgs false
set_option linter.unusedSectionVars false
namespace Go.Proofs.YtjdjkcebflablaaDoor
open Go.SL
set_option maxRecDepth 100000
set_option maxHeartbeats 16000000
theorem okN1 (least most : Int) : okN 1 least most = fun z => wi z least most := by funext z; simp [okN]
theorem okN2 (least most : Int) : okN 2 least most = fun z => wi z least most := by funext z; simp [okN]
theorem okN8 (least most : Int) : okN 8 least most = fun _ => true := by funext z; simp [okN]
/-- How the document's reader stands: well, or with the first place that is wrong. -/
inductive Rs
  | good (a : Nat)
  | bad (a q : Nat)
def Rs.at : Rs → Nat | .good a => a | .bad a _ => a
def Rs.bd : Rs → Int | .good _ => -1 | .bad _ q => (q : Int)
def Rs.ok : Rs → Bool | .good _ => true | .bad _ _ => false
theorem Rs.bd_ok {r : Rs} (h : r.ok = true) : r.bd = -1 := by cases r with | good a => rfl | bad a q => cases h
theorem Rs.bd_no {r : Rs} (h : r.ok = false) : 0 ≤ r.bd := by cases r with | good a => cases h | bad a q => exact Int.natCast_nonneg _
abbrev rrs (β : Nat) (s : List UInt8) (r : Rs) : Heap := rr β s r.at r.bd
def numS (s : List UInt8) (many : Nat) (least most : Int) : Rs → Int × Rs
  | .good a => (match num s many (okN many least most) a with | .ok (n, b) => (n, .good b) | .error q => (least, .bad a q))
  | .bad a q => (least, .bad a q)
theorem numS_at {s : List UInt8} {many : Nat} {least most : Int} {r : Rs} (h : r.at ≤ s.length) : (numS s many least most r).2.at ≤ s.length := by
  cases r with
  | bad a q => exact h
  | good a =>
    cases h1 : num s many (okN many least most) a with
    | ok p => simp only [numS, h1]; exact (num_ok (n := p.1) (b := p.2) h1).2.2
    | error q => simp only [numS, h1]; exact h
theorem numS_wi {s : List UInt8} {many : Nat} {least most : Int} {r : Rs} (hm : many < 8) (hl : least ≤ most) : least ≤ (numS s many least most r).1 ∧ (numS s many least most r).1 ≤ most := by
  cases r with
  | bad a q => exact ⟨Int.le_refl _, hl⟩
  | good a =>
    cases h1 : num s many (okN many least most) a with
    | ok p =>
      simp only [numS, h1]
      have := (num_ok (n := p.1) (b := p.2) h1).1
      have h8 : ¬ 8 ≤ many := by omega
      simpa [okN, wi, h8] using this
    | error q => simp only [numS, h1]; exact ⟨Int.le_refl _, hl⟩
/-- So many, one behind the other, whatever is wrong. -/
def iterS {α : Type} (f : Rs → α × Rs) : Nat → Rs → List α × Rs
  | 0, r => ([], r)
  | k + 1, r => ((iterS f k r).1 ++ [(f (iterS f k r).2).1], (f (iterS f k r).2).2)
theorem iterS_len {α : Type} {f : Rs → α × Rs} {r : Rs} : ∀ k, (iterS f k r).1.length = k
  | 0 => rfl
  | k + 1 => by simp [iterS, iterS_len k]
theorem iterS_at {α : Type} {s : List UInt8} {f : Rs → α × Rs} {r : Rs} (hf : ∀ r, r.at ≤ s.length → (f r).2.at ≤ s.length) (h : r.at ≤ s.length) : ∀ k, (iterS f k r).2.at ≤ s.length
  | 0 => h
  | k + 1 => hf _ (iterS_at hf h k)
def kindsS (s : List UInt8) (n : Nat) (cl : Int) : Rs → List Int × Rs := iterS (numS s 1 0 cl) n
theorem kindsS_at {s : List UInt8} {n : Nat} {cl : Int} {r : Rs} (h : r.at ≤ s.length) : (kindsS s n cl r).2.at ≤ s.length := iterS_at (fun _ h => numS_at h) h n
theorem kindsS_len {s : List UInt8} {n : Nat} {cl : Int} {r : Rs} : (kindsS s n cl r).1.length = n := iterS_len n
attribute [local irreducible] SL.T PFn OpV SOL SWP HOp ChU DZ.ChU
-- ALIAS Tryd
theorem number_calls (β : Nat) (s : List UInt8) (r : Rs) (many : Nat) (least most : Int) (hs : s.length ≤ 9223372036854775807) (ha : r.at ≤ s.length) (hm : many ≤ 8) :
    SL.T Tryd.prog 42 [ptr β, i64 (many : Int), i64 least, i64 most] [rrs β s r] fun e o => e = .returned (i64 (numS s many least most r).1) ∧ o = [rrs β s (numS s many least most r).2] := by
  cases r with
  | bad a q => exact number_bad β s a q many least most
  | good a =>
    refine T.mono (number_good β s a many least most hs ha hm) fun e o h => ?_
    cases h1 : num s many (okN many least most) a with
    | ok p => rw [h1] at h; simp only [numS, h1]; exact h
    | error q => rw [h1] at h; simp only [numS, h1]; exact ⟨h.1, h.2.1⟩
structure SK where
  j : Nat
  x : Rs
  h : Heap
  b : Option Addr
  c : Nat
/-- Kinds. -/
theorem rkindsR_calls (n : Nat) (β : Nat) (s : List UInt8) (r : Rs) (cl : Int) (hs : s.length ≤ 9223372036854775807) (ha : r.at ≤ s.length) (hn : n ≤ 1000) :
    SL.T Tryd.prog 43 [ptr β, i64 (n : Int), i64 cl] [rrs β s r] fun e o => ∃ (h : Heap) (base : Option Addr) (cap : Nat), e = .returned (.slice base n cap) ∧ OS h base n cap 50 1 ((kindsS s n cl r).1.map i64) ∧ o = [h, rrs β s (kindsS s n cl r).2] := by
  refine t_of_body Tryd.func43 rfl (Nat.le_of_ble_eq_true rfl) fun F => ?_
  refine swp_emp ?_
  repeat' (first
    | refine swp_seq ?_
    | (refine gk 0 rfl ?_; first | refine sl_op rfl rfl rfl (by first | exact opv_assign rfl rfl ) ?_ )
    | refine sl_region rfl ?_
    | refine sl_nil ?_
    | refine thn_k ?_
    | refine swp_block ?_
    )
  refine swp_loopS (fun t : SK => [(0, ptr β), (1, i64 (n : Int)), (2, i64 cl), (7, .slice t.b t.j t.c), (8, i64 (t.j : Int))])
    (fun t => [t.h, rrs β s t.x])
    (fun t => t.j ≤ n ∧ t.x = (kindsS s t.j cl r).2 ∧ OS t.h t.b t.j t.c 50 1 ((kindsS s t.j cl r).1.map i64))
    (fun t => n - t.j) ⟨0, r, emp, none, 0⟩ (by repeat first | exact Sub.nil _ | refine Sub.cons rfl ?_) ⟨Nat.zero_le _, rfl, OS.nil⟩ ?_
  rintro ⟨j, x, h, b, c⟩ ⟨hj, hx, os⟩
  dsimp only at hj hx os ⊢
  by_cases hj2 : j < n
  · have hk := number_calls β s x 1 0 cl hs (by rw [hx]; exact kindsS_at ha) (by decide)
    repeat' (first
      | refine swp_seq ?_
      | (refine gk 0 rfl ?_; first | refine sl_op rfl rfl rfl (by first | exact opv_move rfl rfl | exact opv_assign rfl rfl ) ?_ )
      | (refine gk 1 rfl ?_; first | refine sl_op rfl rfl rfl (by first | exact opv_add64 rfl rfl rfl (by omega) (by omega) ) ?_ )
      | (refine gk 2 rfl ?_; first | refine sl_yes rfl rfl rfl (by first | exact opv_lss rfl rfl rfl ) (by first | omega ) ?_ )
      | (refine gk 4 rfl ?_; first | (refine sl_callT rfl rfl rfl rfl rfl rfl rfl rfl (hk) ?_; rintro _ _ ⟨rfl, rfl⟩; refine ⟨_, _, rfl, rfl, ?_⟩) | refine sl_appendG rfl rfl rfl rfl rfl rfl rfl rfl rfl (by assumption) (by first | rfl ) (by decide) (by first | rfl ) (by omega) (by omega) (fun h' b' c' os' hb' => ?_))
      | (refine gk 5 rfl ?_; first | refine sl_buildSlice rfl rfl rfl rfl rfl (by exact rfl) (by exact rfl) (by exact rfl) (by exact rfl) rfl (fun b => ?_) )
      | refine sl_region rfl ?_
      | refine sl_nil ?_
      | refine thn_k ?_
      | refine swp_true rfl ?_
      | refine swp_block ?_
      | refine swp_skip ?_
      )
    refine ⟨rfl, ⟨j + 1, (numS s 1 0 cl x).2, h', b', c'⟩, next_ok (by repeat first | exact Sub.nil _ | refine Sub.cons rfl ?_), ⟨by dsimp only; omega, ?_, ?_⟩, by dsimp only; omega⟩
    · dsimp only; rw [hx]; rfl
    · subst hx
      dsimp only
      simpa [kindsS, iterS] using os'
  · obtain rfl : j = n := by omega
    repeat' (first
      | refine swp_seq ?_
      | (refine gk 0 rfl ?_; first | refine sl_op rfl rfl rfl (by first | exact opv_move rfl rfl | exact opv_assign rfl rfl ) ?_ )
      | (refine gk 2 rfl ?_; first | refine sl_no rfl rfl rfl (by first | exact opv_lss rfl rfl rfl ) (by first | omega ) ?_ )
      | refine sl_region rfl ?_
      | refine sl_nil ?_
      | refine thn_k ?_
      | refine swp_false rfl ?_
      | refine swp_ret ?_
      | refine swp_exit ?_
      )
    subst hx
    exact end_retZ [h, rrs β s (kindsS s j cl r).2] (resOk_one (resV_tmp rfl)) ⟨h, b, c, rfl, os, rfl⟩
end Go.Proofs.YtjdjkcebflablaaDoor
