/- The program's decoder: methods, one behind the other, walked. -/
import Derived.Test.YtjdjkcebflablaaDoorWH6
set_option linter.unusedVariables false
set_option linter.unusedSimpArgs false
set_option linter.unusedSectionVars false
namespace Go.Proofs.YtjdjkcebflablaaDoor
open Go.SL
set_option maxRecDepth 100000
set_option maxHeartbeats 16000000
/-- Methods, laid in one heap. -/
def MsP (K : Heap) (ms : List Me) (vals : List Value) : Prop :=
  vals.length = ms.length * 4 ∧ ∀ (i : Nat) (m : Me), ms[i]? = some m → ∃ pb pc cb cc, vals[i * 4]? = some (.slice pb m.params.length pc) ∧ vals[i * 4 + 1]? = some (i64 m.lo) ∧ vals[i * 4 + 2]? = some (i64 m.st) ∧ vals[i * 4 + 3]? = some (.slice cb m.code.length cc) ∧
    Sl K pb (m.params.map i64) ∧ m.params.length ≤ 1000 ∧ Sl K cb (flatI m.code) ∧ m.code.length ≤ cc ∧ m.code.length ≤ 1000
theorem MsP.mono {K K' : Heap} {ms : List Me} {vals : List Value} (h : MsP K ms vals) (l : hle K K') : MsP K' ms vals := by
  refine ⟨h.1, fun i m hm => ?_⟩
  obtain ⟨pb, pc, cb, cc, g1, g2, g3, g4, g5, g6, g7, g8⟩ := h.2 i m hm
  exact ⟨pb, pc, cb, cc, g1, g2, g3, g4, g5.mono l, g6, g7.mono l, g8⟩
theorem MsP.nil {K : Heap} : MsP K [] [] := ⟨rfl, fun i f h => by simp at h⟩
theorem vals_at {vals : List Value} {v0 v1 v2 v3 : Value} {n : Nat} (h : vals.length = n * 4) : (vals ++ [v0, v1, v2, v3])[n * 4]? = some v0 ∧ (vals ++ [v0, v1, v2, v3])[n * 4 + 1]? = some v1 ∧ (vals ++ [v0, v1, v2, v3])[n * 4 + 2]? = some v2 ∧ (vals ++ [v0, v1, v2, v3])[n * 4 + 3]? = some v3 := by
  rw [← h]
  refine ⟨by simp, ?_, ?_, ?_⟩ <;> (rw [List.getElem?_append_right (by omega)]; simp)
theorem MsP.snoc {K : Heap} {ms : List Me} {vals : List Value} {m : Me} {pb cb : Option Addr} {pc cc : Nat} (h : MsP K ms vals) (h1 : Sl K pb (m.params.map i64)) (h2 : m.params.length ≤ 1000) (h3 : Sl K cb (flatI m.code)) (h4 : m.code.length ≤ cc) (h5 : m.code.length ≤ 1000) :
    MsP K (ms ++ [m]) (vals ++ [.slice pb m.params.length pc, i64 m.lo, i64 m.st, .slice cb m.code.length cc]) := by
  obtain ⟨a1, a2⟩ := h
  refine ⟨by simp [a1]; omega, fun i m' hm' => ?_⟩
  by_cases hi : i < ms.length
  · rw [List.getElem?_append_left hi] at hm'
    obtain ⟨pb', pc', cb', cc', g1, g2, g3, g4, g5⟩ := a2 i m' hm'
    refine ⟨pb', pc', cb', cc', ?_, ?_, ?_, ?_, g5⟩
    all_goals (rw [List.getElem?_append_left (by omega)]; assumption)
  · have hi2 : i = ms.length := by
      have := (List.getElem?_eq_some_iff.1 hm').1
      simp at this; omega
    subst hi2
    simp at hm'; subst hm'
    obtain ⟨q0, q1, q2, q3⟩ := vals_at (v0 := .slice pb m.params.length pc) (v1 := i64 m.lo) (v2 := i64 m.st) (v3 := .slice cb m.code.length cc) a1
    exact ⟨pb, pc, cb, cc, q0, q1, q2, q3, h1, h2, h3, h4, h5⟩
/-- Methods: the first one has no parameters. -/
def msR (s : List UInt8) (cl : Int) : Nat → Rd (List Me)
  | 0 => fun a => .ok ([], a)
  | k + 1 => fun a => match msR s cl k a with
    | .ok (l, a1) => match methodR s (if k = 0 then 0 else 16) cl a1 with | .ok (x, a2) => .ok (l ++ [x], a2) | .error e => .error e
    | .error e => .error e
theorem msR_err {s : List UInt8} {cl : Int} {a b q : Nat} {l : List Me} {j n : Nat} : j < n → msR s cl j a = .ok (l, b) → methodR s (if j = 0 then 0 else 16) cl b = .error q → msR s cl n a = .error q := by
  induction n with
  | zero => intro h; omega
  | succ n ih =>
    intro h h1 h2
    by_cases e : j = n
    · subst e
      simp only [msR, h1, h2]
    · simp only [msR, ih (by omega) h1 h2]
theorem msR_len {s : List UInt8} {cl : Int} {a : Nat} : ∀ {n b : Nat} {l : List Me}, msR s cl n a = .ok (l, b) → l.length = n := by
  intro n
  induction n with
  | zero => intro b l h; simp only [msR] at h; cases h; rfl
  | succ n ih =>
    intro b l h
    simp only [msR] at h
    split at h
    · rename_i h1
      split at h
      · cases h
        simp [ih h1]
      · cases h
    · cases h
attribute [local irreducible] SL.T PFn OpV SOL SWP HOp ChU DZ.ChU
-- ALIAS Tryd
theorem method2_calls (βp βm βr βn : Nat) (s : List UInt8) (a : Nat) (most cl : Int) (hs : s.length ≤ 9223372036854775807) (ha : a ≤ s.length) (hm : most ≤ 1000) :
    SL.T Tryd.prog 52 [ptr βp, ptr βm, ptr βn] [blk βp (.cells ⟨[ptr βr]⟩ 76 (0, 0)), blk βm (.cells ⟨[i64 most]⟩ 3 (0, 0)), blk βn (.cells ⟨[i64 cl]⟩ 3 (0, 0)), rdr βr s a]
      (RQ (methodR s most cl a) fun m b e o => ∃ hp pb pc hc cb cc, e = .returned (.agg ⟨[.slice pb m.params.length pc, i64 m.lo, i64 m.st, .slice cb m.code.length cc]⟩) ∧ OS hp pb m.params.length pc 50 1 (m.params.map i64) ∧ OS hc cb m.code.length cc 58 3 (flatI m.code) ∧ m.params.length ≤ 1000 ∧ m.code.length ≤ 1000 ∧ b ≤ s.length ∧
        o = [hp, hc, blk βp (.cells ⟨[ptr βr]⟩ 76 (0, 0)), blk βm (.cells ⟨[i64 16]⟩ 3 (0, 0)), blk βn (.cells ⟨[i64 cl]⟩ 3 (0, 0)), rdr βr s b]) := by
  have g := methodR_calls βr s a most cl hs ha hm
  cases h1 : methodR s most cl a with
  | error q =>
    rw [h1] at g
    refine t_of_body Tryd.func52 rfl (Nat.le_of_ble_eq_true rfl) fun F => ?_
    repeat' (first
      | refine swp_seq ?_
      | (refine gk 3 rfl ?_; first | refine sl_op rfl rfl rfl (by first | exact opv_load rfl (by exact rfl) rfl (by exact rfl) ) ?_ )
      | (refine gk 4 rfl ?_; first | (refine sl_call rfl rfl rfl rfl rfl rfl rfl rfl (g) ?_; rintro _ _ ⟨βf, rfl, rfl⟩; refine .inr ⟨_, rfl, ?_⟩; repeat (first | refine thn_panic ?_ )))
      | (refine gk 5 rfl ?_; first | refine sl_alloc rfl rfl rfl rfl (by exact rfl) (fun β => ?_) )
      | refine sl_region rfl ?_
      | refine sl_nil ?_
      )
    exact pan_end ⟨_, rfl, rfl⟩
  | ok r =>
    obtain ⟨m, b⟩ := r
    rw [h1] at g
    refine t_of_body Tryd.func52 rfl (Nat.le_of_ble_eq_true rfl) fun F => ?_
    repeat' (first
      | refine swp_seq ?_
      | (refine gk 3 rfl ?_; first | refine sl_op rfl rfl rfl (by first | exact opv_load rfl (by exact rfl) rfl (by exact rfl) | exact opv_loadA rfl (by exact rfl) rfl (by exact rfl) (by exact rfl) ) ?_ )
      | (refine gk 4 rfl ?_; first | (refine sl_callT rfl rfl rfl rfl rfl rfl rfl rfl (g) ?_; rintro _ _ ⟨hp, pb, pc, hc, cb, cc, rfl, osp, osc, hl1, hl2, hb, rfl⟩; refine ⟨_, _, rfl, rfl, ?_⟩))
      | (refine gk 5 rfl ?_; first | refine sl_alloc rfl rfl rfl rfl (by exact rfl) (fun β => ?_) | refine sl_store rfl rfl rfl rfl rfl rfl (by exact rfl) rfl (by exact rfl) ?_)
      | refine sl_region rfl ?_
      | refine sl_nil ?_
      | refine thn_k ?_
      | refine swp_ret ?_
      )
    exact end_retZ [hp, hc, blk βp (.cells ⟨[ptr βr]⟩ 76 (0, 0)), blk βm (.cells ⟨[i64 16]⟩ 3 (0, 0)), blk βn (.cells ⟨[i64 cl]⟩ 3 (0, 0)), rdr βr s b] (resOk_one (resV_cellA rfl rfl rfl rfl)) ⟨hp, pb, pc, hc, cb, cc, rfl, osp, osc, hl1, hl2, hb, rfl⟩
structure SM where
  j : Nat
  a : Nat
  h : Heap
  b : Option Addr
  c : Nat
  K : Heap
  ms : List Me
  vals : List Value
  mo : Int
theorem someM_calls (n : Nat) (βp βm βr βn : Nat) (s : List UInt8) (a : Nat) (cl : Int) (hs : s.length ≤ 9223372036854775807) (ha : a ≤ s.length) (hn : n ≤ 1000) :
    SL.T Tryd.prog 51 [i64 (n : Int), .func (.func 52) #[] #[ptr βp, ptr βm, ptr βn]] [blk βp (.cells ⟨[ptr βr]⟩ 76 (0, 0)), blk βm (.cells ⟨[i64 0]⟩ 3 (0, 0)), blk βn (.cells ⟨[i64 cl]⟩ 3 (0, 0)), rdr βr s a]
      (RQ (msR s cl n a) fun ms b e o => ∃ K h base cap vals, e = .returned (.slice base n cap) ∧ OS h base n cap 56 4 vals ∧ MsP K ms vals ∧ b ≤ s.length ∧ ms.length = n ∧ o = [K, h, blk βp (.cells ⟨[ptr βr]⟩ 76 (0, 0)), blk βn (.cells ⟨[i64 cl]⟩ 3 (0, 0)), rdr βr s b]) := by
  refine t_of_body Tryd.func51 rfl (Nat.le_of_ble_eq_true rfl) fun F => ?_
  refine swp_emp ?_
  refine swp_emp ?_
  repeat' (first
    | refine swp_seq ?_
    | (refine gk 0 rfl ?_; first | refine sl_op rfl rfl rfl (by first | exact opv_move rfl rfl | exact opv_assign rfl rfl ) ?_ )
    | refine sl_region rfl ?_
    | refine sl_nil ?_
    | refine thn_k ?_
    | refine swp_block ?_
    )
  refine swp_loopD (fun t : SM => [(1, .func (.func 52) #[] #[ptr βp, ptr βm, ptr βn]), (4, .slice t.b t.j t.c), (5, i64 (n : Int)), (6, i64 (t.j : Int))])
    (fun t => [t.K, t.h, blk βp (.cells ⟨[ptr βr]⟩ 76 (0, 0)), blk βm (.cells ⟨[i64 t.mo]⟩ 3 (0, 0)), blk βn (.cells ⟨[i64 cl]⟩ 3 (0, 0)), rdr βr s t.a])
    (fun t => t.j ≤ n ∧ t.a ≤ s.length ∧ msR s cl t.j a = .ok (t.ms, t.a) ∧ OS t.h t.b t.j t.c 56 4 t.vals ∧ MsP t.K t.ms t.vals ∧ t.mo = if t.j = 0 then 0 else 16)
    (fun t => n - t.j) ⟨0, a, emp, none, 0, emp, [], [], 0⟩ (by repeat first | exact Sub.nil _ | refine Sub.cons rfl ?_) ⟨Nat.zero_le _, ha, rfl, OS.nil, MsP.nil, rfl⟩ ?_
  rintro ⟨j, x, h, b, c, K, ms, vals, mo⟩ ⟨hj, hx, hr, os, hP, hmo⟩
  dsimp only at hj hx hr os hP hmo ⊢
  by_cases hj2 : j < n
  · have hk := method2_calls βp βm βr βn s x mo cl hs hx (by rw [hmo]; split <;> decide)
    cases h1 : methodR s (if j = 0 then 0 else 16) cl x with
    | error q =>
      rw [hmo, h1, ← hmo] at hk
      repeat' (first
        | refine swp_seq ?_
        | (refine gk 0 rfl ?_; first | refine sl_op rfl rfl rfl (by first | exact opv_move rfl rfl ) ?_ )
        | (refine gk 2 rfl ?_; first | refine sl_yes rfl rfl rfl (by first | exact opv_lss rfl rfl rfl ) (by first | omega ) ?_ )
        | (refine gk 4 rfl ?_; first | (refine sl_call rfl rfl rfl rfl rfl rfl rfl rfl (hk) ?_; rintro _ _ ⟨βf, rfl, rfl⟩; refine .inr ⟨_, rfl, ?_⟩; repeat (first | refine thn_panic ?_ | refine inb_panic ?_)))
        | refine sl_region rfl ?_
        | refine sl_nil ?_
        | refine swp_true rfl ?_
        | refine swp_block ?_
        | refine swp_skip ?_
        )
      rw [msR_err hj2 hr h1]
      exact pan_end ⟨_, rfl, rfl⟩
    | ok r =>
      obtain ⟨m, y⟩ := r
      rw [hmo, h1, ← hmo] at hk
      repeat' (first
        | refine swp_seq ?_
        | (refine gk 0 rfl ?_; first | refine sl_op rfl rfl rfl (by first | exact opv_move rfl rfl | exact opv_assign rfl rfl ) ?_ )
        | (refine gk 1 rfl ?_; first | refine sl_op rfl rfl rfl (by first | exact opv_add64 rfl rfl rfl (by omega) (by omega) ) ?_ )
        | (refine gk 2 rfl ?_; first | refine sl_yes rfl rfl rfl (by first | exact opv_lss rfl rfl rfl ) (by first | omega ) ?_ )
        | (refine gk 4 rfl ?_; first | (refine sl_callT rfl rfl rfl rfl rfl rfl rfl rfl (hk) ?_; rintro _ _ ⟨hp, pb, pc, hc, cb, cc, rfl, osp, osc, hl1, hl2, hy, rfl⟩; refine ⟨_, _, rfl, rfl, ?_⟩) | refine sl_appendG rfl rfl rfl rfl rfl rfl rfl rfl rfl (by assumption) (by first | rfl ) (by decide) (by first | rfl ) (by omega) (by omega) (fun h' b' c' os' hb' => ?_))
        | (refine gk 5 rfl ?_; first | refine sl_buildSlice rfl rfl rfl rfl rfl (by exact rfl) (by exact rfl) (by exact rfl) (by exact rfl) rfl (fun b => ?_) )
        | refine sl_region rfl ?_
        | refine sl_nil ?_
        | refine thn_k ?_
        | refine swp_true rfl ?_
        | refine swp_block ?_
        | refine swp_skip ?_
        )
      intro hd
      obtain ⟨d1, d2, d3⟩ := disj3 (h := hp) (g := hc) (k := K) hd
      refine ⟨rfl, ⟨j + 1, y, h', b', c', join hp (join hc K), ms ++ [m], _, 16⟩, next_join3 (h := hp) (g := hc) (k := K) (by repeat first | exact Sub.nil _ | refine Sub.cons rfl ?_), ⟨by dsimp only; omega, hy, by simp only [msR, hr, h1], os', ?_, by dsimp only; rw [if_neg (by omega)]⟩, by dsimp only; omega⟩
      have l1 : hle (join hc K) (join hp (join hc K)) := join_right (disj_join_mk d1 d2)
      exact (hP.mono ((join_right d3).trans l1)).snoc (osp.sl.mono join_left) hl1 (osc.sl.mono (join_left.trans l1)) osc.hle hl2
  · obtain rfl : j = n := by omega
    repeat' (first
      | refine swp_seq ?_
      | (refine gk 0 rfl ?_; first | refine sl_op rfl rfl rfl (by first | exact opv_move rfl rfl | exact opv_assign rfl rfl ) ?_ )
      | (refine gk 2 rfl ?_; first | refine sl_no rfl rfl rfl (by first | exact opv_lss rfl rfl rfl ) (by first | omega ) ?_ )
      | refine sl_region rfl ?_
      | refine sl_nil ?_
      | refine thn_k ?_
      | refine swp_false rfl ?_
      | refine swp_ret ?_
      | refine swp_exit ?_
      )
    rw [hr]
    exact end_retZ [K, h, blk βp (.cells ⟨[ptr βr]⟩ 76 (0, 0)), blk βn (.cells ⟨[i64 cl]⟩ 3 (0, 0)), rdr βr s x] (resOk_one (resV_tmp rfl)) ⟨K, h, b, c, vals, rfl, os, hP, hx, msR_len hr, rfl⟩
end Go.Proofs.YtjdjkcebflablaaDoor
