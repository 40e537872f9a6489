/- The document's Decode, walked (printed by i5.py). -/
import Derived.Test.YtjdjkcebflablaaDoorWI4
set_option linter.unusedVariables false
set_option linter.unusedSimpArgs false
set_option linter.unusedSectionVars false
namespace Go.Proofs.YtjdjkcebflablaaDoor
open Go.SL
set_option maxRecDepth 100000
set_option maxHeartbeats 16000000
attribute [local irreducible] SL.T PFn OpV SOL SWP HOp ChU DZ.ChU
-- ALIAS Tryd
-- CHANGES 42 43
structure SM2 where
  j : Nat
  x : Rs
  h : Heap
  b : Option Addr
  c : Nat
  K : Heap
  ms : List Me
  vals : List Value
structure SI2 where
  j : Nat
  x : Rs
  h : Heap
  b : Option Addr
  c : Nat
  cd : List Ins
/-- What the document's Decode leaves. -/
def RD (s : List UInt8) (e : Ending) (o : List Heap) : Prop :=
  ((rdec s).1 = noIm ∧ 0 ≤ (rdec s).2 ∧ e = .returned (.tuple ⟨[.agg ⟨zIm2⟩, i64 (rdec s).2]⟩) ∧ o = []) ∨
  ((rdec s).2 = -1 ∧ ∃ K hC K2 hM clb cc mb mc cv mv, e = .returned (.tuple ⟨[.agg ⟨[.slice clb (rdec s).1.cls.length cc, .slice mb (rdec s).1.ms.length mc]⟩, i64 (-1)]⟩) ∧
    OS hC clb (rdec s).1.cls.length cc 53 1 cv ∧ ClsP K (rdec s).1.cls cv ∧ OS hM mb (rdec s).1.ms.length mc 56 4 mv ∧ MsP K2 (rdec s).1.ms mv ∧ (rdec s).1.cls.length ≤ 1000 ∧ (rdec s).1.ms.length ≤ 1000 ∧ o = [K, hC, K2, hM])
theorem rd_no {s : List UInt8} {q : Nat} {e : Ending} {o : List Heap} (h : rdec s = (noIm, (q : Int))) (h1 : e = .returned (.tuple ⟨[.agg ⟨zIm2⟩, i64 (q : Int)]⟩)) (h2 : o = []) : RD s e o := by
  refine .inl ?_
  rw [h]
  exact ⟨rfl, Int.natCast_nonneg _, h1, h2⟩
theorem rd_yes {s : List UInt8} {n k : Nat} {cls : List (List Int)} {ms : List Me} {e : Ending} {K hC K2 hM : Heap} {clb mb : Option Addr} {cc mc : Nat} {cv mv : List Value} (h : rdec s = (⟨cls, ms⟩, -1)) (hn : cls.length = n) (hk : ms.length = k)
    (h1 : e = .returned (.tuple ⟨[.agg ⟨[.slice clb n cc, .slice mb k mc]⟩, i64 (-1)]⟩)) (os : OS hC clb n cc 53 1 cv) (hP : ClsP K cls cv) (os2 : OS hM mb k mc 56 4 mv) (hP2 : MsP K2 ms mv) (hn2 : n ≤ 1000) (hk2 : k ≤ 1000) : RD s e [K, hC, K2, hM] := by
  subst hn hk
  refine .inr ?_
  rw [h]
  exact ⟨rfl, K, hC, K2, hM, clb, cc, mb, mc, cv, mv, h1, os, hP, os2, hP2, hn2, hk2, rfl⟩
theorem rDecode_yes (s : List UInt8) (hs : s.length ≤ 9223372036854775807) (hp : s.take 3 = [68, 75, 1]) :
    SL.T Tryd.prog 23 [str s] [] (RD s) := by
  have hl3 : 3 ≤ s.length := by
    have := congrArg List.length hp
    simp at this; omega
  obtain ⟨n, x1, e1, hn0, hn, hx1⟩ := numS_nat (s := s) (many := 1) (least := 0) (most := 16) (r := .good 3) (by decide) (by decide) hl3
  have k1 : ∀ β, SL.T Tryd.prog 42 [ptr β, i64 1, i64 0, i64 16] [blk β (.cells ⟨[str s, i64 3, i64 (-1)]⟩ 99 (0, 0))] fun e o => e = .returned (i64 (numS s 1 0 16 (.good 3)).1) ∧ o = [rrs β s (numS s 1 0 16 (.good 3)).2] := fun β => number_calls β s (.good 3) 1 0 16 hs hl3 (by decide)
  rw [show ((0 : Nat) : Int) = 0 from rfl, show ((16 : Nat) : Int) = 16 from rfl] at e1
  rw [e1] at k1
  dsimp only at k1
  refine t_of_body Tryd.func23 rfl (Nat.le_of_ble_eq_true rfl) fun F => ?_
  refine swp_emp ?_
  refine swp_emp ?_
  repeat' (first
    | refine sl_op rfl rfl rfl (opv_lenS rfl rfl rfl rfl rfl) ?_
    | refine sl_op rfl rfl rfl (opv_sliceSHi rfl rfl rfl (by omega) (by omega)) ?_
    | refine sl_ff rfl rfl rfl (opv_neqStr rfl rfl rfl) (by simpa using hp) ?_
    | refine swp_seq ?_
    | (refine gk 0 rfl ?_; first | refine sl_op rfl rfl rfl (by first | exact opv_move rfl rfl | exact opv_assign rfl rfl | exact opv_pick_f rfl rfl rfl ) ?_ )
    | (refine gk 2 rfl ?_; first | refine sl_no rfl rfl rfl (by first | exact opv_lss rfl rfl rfl ) (by first | omega ) ?_ )
    | (refine gk 4 rfl ?_; first | (refine sl_callT rfl rfl rfl rfl rfl rfl rfl rfl (k1 _) ?_; rintro _ _ ⟨rfl, rfl⟩; refine ⟨_, _, rfl, rfl, ?_⟩))
    | (refine gk 5 rfl ?_; first | refine sl_op rfl rfl rfl (by first | exact opv_build rfl rfl (by exact rfl) ) ?_ | refine sl_box rfl rfl rfl rfl rfl rfl (fun β => ?_) | refine sl_alloc rfl rfl rfl rfl (by exact rfl) (fun β => ?_) )
    | refine sl_region rfl ?_
    | refine sl_nil ?_
    | refine thn_k ?_
    | refine swp_false rfl ?_
    | refine swp_block ?_
    | refine swp_skip ?_
    )
  rename_i β2 βr
  rename Nat => βx
  refine swp_loopD (fun t : SC2 => [(0, str s), (2, ptr β2), (4, ptr βr), (5, ptr βx), (6, i64 (n : Int)), (7, i64 (t.j : Int))])
    (fun t => [t.K, t.h, rrs βr s t.x, blk βx (.cells ⟨[.slice t.b t.j t.c, .slice none 0 0]⟩ 25 (0, 0)), blk β2 (.cells ⟨zIm2⟩ 25 (0, 0))])
    (fun t => t.j ≤ n ∧ t.x.at ≤ s.length ∧ iterS (classS s n) t.j x1 = (t.cls, t.x) ∧ OS t.h t.b t.j t.c 53 1 t.vals ∧ ClsP t.K t.cls t.vals)
    (fun t => n - t.j) ⟨0, x1, emp, none, 0, emp, [], []⟩ (by repeat first | exact Sub.nil _ | refine Sub.cons rfl ?_) ⟨Nat.zero_le _, hx1, rfl, OS.nil, ClsP.nil⟩ ?_
  rintro ⟨j, x, h, b, c, K, cls, vals⟩ ⟨hj, hx, hr, os, hP⟩
  dsimp only at hj hx hr os hP ⊢
  by_cases hj2 : j < n
  · obtain ⟨nf, y1, f1, hf0, hf, hy1⟩ := numS_nat (s := s) (many := 1) (least := 0) (most := 8) (r := x) (by decide) (by decide) hx
    obtain ⟨l, y2, f2, hl, hy2⟩ := kindsS_any (n := nf) (cl := n) hy1
    subst hl
    have k2 := number_calls βr s x 1 0 8 hs hx (by decide)
    have k3 := rkindsR_calls l.length βr s y1 n hs hy1 (by omega)
    rw [show ((0 : Nat) : Int) = 0 from rfl, show ((8 : Nat) : Int) = 8 from rfl] at f1
    rw [f1] at k2
    rw [f2] at k3
    dsimp only at k2 k3
    repeat' (first
      | refine swp_seq ?_
      | (refine gk 0 rfl ?_; first | refine sl_op rfl rfl rfl (by first | exact opv_move rfl rfl ) ?_ )
      | (refine gk 2 rfl ?_; first | refine sl_yes rfl rfl rfl (by first | exact opv_lss rfl rfl rfl ) (by first | omega ) ?_ )
      | refine sl_region rfl ?_
      | refine sl_nil ?_
      | refine thn_k ?_
      | refine swp_true rfl ?_
      | refine swp_block ?_
      | refine swp_skip ?_
      )
    refine sl_drawC [.f [0], .r [1], .f [2], .q [3], .f [5], .h true 4, .h true 6, .q [7], .an 8, .rv 8, .h true 9, .q [10], .h true 11] [blk βx (.cells ⟨[.slice b j c, .slice none 0 0]⟩ 25 (0, 0))] (by kernel_rfl) (by kernel_rfl) (by kernel_rfl) (by kernel_rfl) ?_
    repeat' (first
      | (refine gk 0 rfl ?_; first | refine sl_op rfl rfl rfl (by first | exact opv_move rfl rfl | exact opv_assign rfl rfl ) ?_ )
      | (refine gk 1 rfl ?_; first | refine sl_op rfl rfl rfl (by first | exact opv_add64 rfl rfl rfl (by omega) (by omega) ) ?_ )
      | (refine gk 3 rfl ?_; first | refine sl_op rfl rfl rfl (by first | exact opv_load rfl (by exact rfl) rfl (by exact rfl) | exact opv_fieldAddr rfl rfl ) ?_ )
      | (refine gk 5 rfl ?_; first | refine sl_op rfl rfl rfl (by first | exact opv_build rfl rfl (by exact rfl) ) ?_ )
      | refine sl_region rfl ?_
      | refine chu_nil ?_
      | refine chu_q rfl ?_
      | refine chu_f rfl ?_
      | refine chu_r rfl ?_
      | refine chu_new rfl rfl (by first | exact new_buildSlice rfl rfl (by exact rfl) (by exact rfl) (by exact rfl) (by exact rfl) (by exact rfl)) ?_
      | refine chu_rv rfl rfl rfl (fun β => ?_)
      | refine chu_storeL rfl (by decide +kernel) rfl rfl rfl rfl rfl (by exact rfl) rfl (by exact rfl) (by exact rfl) ?_
      | (refine chu_Tc rfl rfl rfl rfl rfl rfl rfl rfl (k2) ?_; rintro _ _ ⟨rfl, rfl⟩; refine ⟨_, _, rfl, rfl, ?_⟩)
      | (refine chu_Tc rfl rfl rfl rfl rfl rfl rfl rfl (k3) ?_; rintro _ _ ⟨hz, bz, cz, rfl, osz, rfl⟩; refine ⟨_, _, rfl, rfl, ?_⟩)
      | refine chu_append rfl rfl rfl rfl rfl rfl rfl rfl rfl os (by decide) rfl (by decide) rfl (by omega) (by omega) (fun h' b' c' os' => ?_)
      | refine sl_nil ?_
      | refine thn_k ?_
      )
    intro hd
    have dj : Disj hz K := disj_of hd
    refine ⟨rfl, ⟨j + 1, y2, h', b', c', join hz K, cls ++ [l], vals ++ [.slice bz l.length cz]⟩, next_join (h := hz) (k := K) (by repeat first | exact Sub.nil _ | refine Sub.cons rfl ?_), ⟨by dsimp only; omega, hy2, ?_, os', ?_⟩, by dsimp only; omega⟩
    · simp only [iterS, hr, classS_eq f1, f2]
    · exact (hP.mono (join_right dj)).snoc (osz.sl.mono join_left) rfl (by omega)
  · obtain rfl : j = n := by omega
    have hcl : cls.length = j := by
      have := iterS_len (f := classS s j) (r := x1) j
      rw [hr] at this; exact this
    obtain ⟨k, x3, e3, hk1, hk, hx3⟩ := numS_nat (s := s) (many := 1) (least := 1) (most := 32) (r := x) (by decide) (by decide) hx
    have k4 := number_calls βr s x 1 1 32 hs hx (by decide)
    rw [show ((1 : Nat) : Int) = 1 from rfl, show ((32 : Nat) : Int) = 32 from rfl] at e3
    rw [e3] at k4
    dsimp only at k4
    refine swp_emp ?_
    refine swp_emp ?_
    repeat' (first
      | refine swp_seq ?_
      | (refine gk 0 rfl ?_; first | refine sl_op rfl rfl rfl (by first | exact opv_move rfl rfl | exact opv_assign rfl rfl ) ?_ )
      | (refine gk 2 rfl ?_; first | refine sl_no rfl rfl rfl (by first | exact opv_lss rfl rfl rfl ) (by first | omega ) ?_ )
      | (refine gk 4 rfl ?_; first | (refine sl_callT rfl rfl rfl rfl rfl rfl rfl rfl (k4) ?_; rintro _ _ ⟨rfl, rfl⟩; refine ⟨_, _, rfl, rfl, ?_⟩))
      | refine sl_region rfl ?_
      | refine sl_nil ?_
      | refine thn_k ?_
      | refine swp_false rfl ?_
      | refine swp_block ?_
      | refine swp_exit ?_
      )
    refine swp_loopD (fun t : SM2 => [(0, str s), (2, ptr β2), (4, ptr βr), (5, ptr βx), (6, i64 (j : Int)), (8, i64 (k : Int)), (9, i64 (t.j : Int))])
      (fun t => [t.K, t.h, rrs βr s t.x, blk βx (.cells ⟨[.slice b j c, .slice t.b t.j t.c]⟩ 25 (0, 0)), K, h, blk β2 (.cells ⟨zIm2⟩ 25 (0, 0))])
      (fun t => t.j ≤ k ∧ t.x.at ≤ s.length ∧ whileS (methS s j) t.j x3 = (t.ms, t.x) ∧ t.ms.length = t.j ∧ OS t.h t.b t.j t.c 56 4 t.vals ∧ MsP t.K t.ms t.vals)
      (fun t => k - t.j) ⟨0, x3, emp, none, 0, emp, [], []⟩ (by repeat first | exact Sub.nil _ | refine Sub.cons rfl ?_) ⟨Nat.zero_le _, hx3, rfl, rfl, OS.nil, MsP.nil⟩ ?_
    rintro ⟨i, y, h2, b2, c2, K2, ms, vm⟩ ⟨hi, hy, hw, hml, os2, hP2⟩
    dsimp only at hi hy hw hml os2 hP2 ⊢
    by_cases hi2 : i < k
    · cases hok : y.ok with
      | false =>
        have hbd := Rs.bd_no hok
        have hrd := rdec_eq hp e1 hr e3 ((whileS_stop (by rw [hw]; exact hok) hi).trans hw)
        cases y with
        | good a => cases hok
        | bad a q =>
          have hr2 : rdec s = (noIm, (q : Int)) := hrd
          repeat' (first
            | refine swp_seq ?_
            | (refine gk 0 rfl ?_; first | refine sl_op rfl rfl rfl (by first | exact opv_move rfl rfl | exact opv_pick_t rfl rfl rfl | exact opv_pick_f rfl rfl rfl ) ?_ | refine sl_pass rfl rfl rfl rfl ?_)
            | (refine gk 2 rfl ?_; first | refine sl_pass rfl rfl rfl rfl ?_ | refine sl_yes rfl rfl rfl (by first | exact opv_lss rfl rfl rfl | exact opv_geq rfl rfl rfl ) (by first | omega ) ?_ | refine sl_no rfl rfl rfl (by first | exact opv_lss rfl rfl rfl ) (by first | omega ) ?_ )
            | (refine gk 3 rfl ?_; first | refine sl_op rfl rfl rfl (by first | exact opv_load rfl (by exact rfl) rfl (by exact rfl) | exact opv_fieldAddr rfl rfl ) ?_ | refine sl_pass rfl rfl rfl rfl ?_)
            | (refine gk 4 rfl ?_; first | refine sl_pass rfl rfl rfl rfl ?_ )
            | (refine gk 5 rfl ?_; first | refine sl_op rfl rfl rfl (by first | exact opv_nilCheck rfl rfl ) ?_ | refine sl_pass rfl rfl rfl rfl ?_ )
            | refine sl_region rfl ?_
            | refine sl_nil ?_
            | refine thn_k ?_
            | refine swp_true rfl ?_
            | refine swp_false rfl ?_
            | refine swp_exit ?_
            | refine swp_skip ?_
            )
          refine sl_drawC [.q [0], .f [1], .r [2], .f [3], .r [4], .h true 5, .q [6]] [rrs βr s (.bad a q)] (by kernel_rfl) (by kernel_rfl) (by kernel_rfl) (by kernel_rfl) ?_
          repeat' (first
            | (refine gk 0 rfl ?_; first | refine sl_op rfl rfl rfl (by first | exact opv_move rfl rfl | exact opv_assign rfl rfl ) ?_ )
            | (refine gk 3 rfl ?_; first | refine sl_op rfl rfl rfl (by first | exact opv_load rfl (by exact rfl) rfl (by exact rfl) | exact opv_fieldAddr rfl rfl ) ?_ )
            | (refine gk 5 rfl ?_; first | refine sl_op rfl rfl rfl (by first | exact opv_nilCheck rfl rfl | exact opv_build rfl rfl (by exact rfl) ) ?_ )
            | refine chu_nil ?_
            | refine chu_q rfl ?_
            | refine chu_f rfl ?_
            | refine chu_r rfl ?_
            | refine chu_store rfl rfl rfl rfl rfl rfl (by exact rfl) rfl (by exact rfl) (by exact rfl) ?_
            | refine sl_nil ?_
            | refine thn_k ?_
            | refine swp_ret ?_
            | refine thn_ret ?_
            )
          exact end_retZ [] (resOk_two (resV_cellA rfl rfl rfl rfl) (resV_tmp rfl)) (rd_no hr2 rfl rfl)
      | true =>
        obtain ⟨mo, hmo⟩ : ∃ mo : Nat, mo = if i = 0 then 0 else 16 := ⟨_, rfl⟩
        have hmo1 : ((mo : Nat) : Int) = if i = 0 then 0 else 16 := by rw [hmo]; split <;> rfl
        have hmo2 : mo ≤ 16 := by rw [hmo]; split <;> decide
        have hbd := Rs.bd_ok hok
        obtain ⟨np, z1, q1, -, hnp, hz1⟩ := numS_nat (s := s) (many := 1) (least := 0) (most := mo) (r := y) (by decide) (Nat.zero_le _) hy
        obtain ⟨ps, z2, q2, hps, hz2⟩ := kindsS_any (n := np) (cl := j) hz1
        subst hps
        obtain ⟨lo, z3, q3, hlo1, hlo2, hz3⟩ := numS_nat (s := s) (many := 1) (least := ps.length) (most := 16) (r := z2) (by decide) (by omega) hz2
        obtain ⟨st, z4, q4, -, hst, hz4⟩ := numS_nat (s := s) (many := 1) (least := 0) (most := 32) (r := z3) (by decide) (by decide) hz3
        obtain ⟨mn, z5, q5, hmn1, hmn, hz5⟩ := numS_nat (s := s) (many := 2) (least := 1) (most := 256) (r := z4) (by decide) (by decide) hz4
        have kk1 := number_calls βr s y 1 0 mo hs hy (by decide)
        have kk2 := rkindsR_calls ps.length βr s z1 j hs hz1 (by omega)
        have kk3 := number_calls βr s z2 1 ps.length 16 hs hz2 (by decide)
        have kk4 := number_calls βr s z3 1 0 32 hs hz3 (by decide)
        have kk5 := number_calls βr s z4 2 1 256 hs hz4 (by decide)
        rw [show ((0 : Nat) : Int) = 0 from rfl] at q1
        rw [show ((16 : Nat) : Int) = 16 from rfl] at q3
        rw [show ((0 : Nat) : Int) = 0 from rfl, show ((32 : Nat) : Int) = 32 from rfl] at q4
        rw [show ((1 : Nat) : Int) = 1 from rfl, show ((256 : Nat) : Int) = 256 from rfl] at q5
        rw [q1] at kk1
        rw [q2] at kk2
        rw [q3] at kk3
        rw [q4] at kk4
        rw [q5] at kk5
        dsimp only at kk1 kk2 kk3 kk4 kk5
        repeat' ((fail_if_success (refine stop_at 15 ?_)); (first
          | refine swp_seq ?_
          | (refine gk 0 rfl ?_; first | refine sl_op rfl rfl rfl (by first | exact opv_move rfl rfl | exact opv_assign rfl rfl | exact opv_pick_t rfl rfl rfl ) ?_ )
          | (refine gk 2 rfl ?_; first | refine sl_yes rfl rfl rfl (by first | exact opv_lss rfl rfl rfl ) (by first | omega ) ?_ )
          | (refine gk 3 rfl ?_; first | refine sl_op rfl rfl rfl (by first | exact opv_load rfl (by exact rfl) rfl (by exact rfl) | exact opv_fieldAddr rfl rfl ) ?_ )
          | (refine gk 5 rfl ?_; first | refine sl_op rfl rfl rfl (by first | exact opv_nilCheck rfl rfl ) ?_ )
          | refine sl_region rfl ?_
          | refine sl_nil ?_
          | refine thn_k ?_
          | refine swp_true rfl ?_
          | refine swp_block ?_
          | refine swp_skip ?_
          ))
        refine swp_seq ?_
        refine swp_joinS (S := Unit) (fun _ => [(0, str s), (2, ptr β2), (4, ptr βr), (5, ptr βx), (6, i64 (j : Int)), (8, i64 (k : Int)), (9, i64 (i : Int)), (10, i64 (mo : Int))])
          (fun _ => [K2, h2, rrs βr s y, blk βx (.cells ⟨[.slice b j c, .slice b2 i c2]⟩ 25 (0, 0)), K, h, blk β2 (.cells ⟨zIm2⟩ 25 (0, 0))]) (fun _ => True) ?_ ?_
        · by_cases hi0 : i = 0
          · obtain rfl : mo = 0 := by rw [hmo, if_pos hi0]
            repeat' (first
              | refine swp_seq ?_
              | (refine gk 0 rfl ?_; first | refine sl_op rfl rfl rfl (by first | exact opv_move rfl rfl | exact opv_assign rfl rfl ) ?_ )
              | (refine gk 2 rfl ?_; first | refine sl_yes rfl rfl rfl (by first | exact opv_eql rfl rfl rfl ) (by first | omega ) ?_ )
              | refine sl_region rfl ?_
              | refine sl_nil ?_
              | refine thn_k ?_
              | refine swp_true rfl ?_
              )
            exact ⟨rfl, (), next_ok (by repeat first | exact Sub.nil _ | refine Sub.cons rfl ?_), trivial⟩
          · obtain rfl : mo = 16 := by rw [hmo, if_neg hi0]
            repeat' (first
              | refine swp_seq ?_
              | (refine gk 0 rfl ?_; first | refine sl_op rfl rfl rfl (by first | exact opv_move rfl rfl ) ?_ )
              | (refine gk 2 rfl ?_; first | refine sl_no rfl rfl rfl (by first | exact opv_eql rfl rfl rfl ) (by first | omega ) ?_ )
              | refine sl_region rfl ?_
              | refine sl_nil ?_
              | refine thn_k ?_
              | refine swp_false rfl ?_
              | refine swp_skip ?_
              )
            exact ⟨rfl, (), next_ok (by repeat first | exact Sub.nil _ | refine Sub.cons rfl ?_), trivial⟩
        rintro ⟨⟩ -
        refine swp_emp ?_
        repeat' (first
          | refine swp_seq ?_
          | (refine gk 0 rfl ?_; first | refine sl_op rfl rfl rfl (by first | exact opv_move rfl rfl | exact opv_assign rfl rfl ) ?_ )
          | (refine gk 3 rfl ?_; first | refine sl_op rfl rfl rfl (by first | exact opv_load rfl (by exact rfl) rfl (by exact rfl) | exact opv_fieldAddr rfl rfl ) ?_ )
          | (refine gk 4 rfl ?_; first | refine sl_op rfl rfl rfl (by first | exact opv_len rfl rfl rfl rfl rfl ) ?_ | (refine sl_callT rfl rfl rfl rfl rfl rfl rfl rfl (kk2) ?_; rintro _ _ ⟨hp2, pb, pc, rfl, osp, rfl⟩; refine ⟨_, _, rfl, rfl, ?_⟩) | (refine sl_callT rfl rfl rfl rfl rfl rfl rfl rfl (kk1) ?_; rintro _ _ ⟨rfl, rfl⟩; refine ⟨_, _, rfl, rfl, ?_⟩) | (refine sl_callT rfl rfl rfl rfl rfl rfl rfl rfl (kk3) ?_; rintro _ _ ⟨rfl, rfl⟩; refine ⟨_, _, rfl, rfl, ?_⟩) | (refine sl_callT rfl rfl rfl rfl rfl rfl rfl rfl (kk4) ?_; rintro _ _ ⟨rfl, rfl⟩; refine ⟨_, _, rfl, rfl, ?_⟩) | (refine sl_callT rfl rfl rfl rfl rfl rfl rfl rfl (kk5) ?_; rintro _ _ ⟨rfl, rfl⟩; refine ⟨_, _, rfl, rfl, ?_⟩))
          | (refine gk 5 rfl ?_; first | refine sl_op rfl rfl rfl (by first | exact opv_build rfl rfl (by exact rfl) ) ?_ | refine sl_alloc rfl rfl rfl rfl (by exact rfl) (fun β => ?_) | refine sl_store rfl rfl rfl rfl rfl rfl (by exact rfl) rfl (by exact rfl) ?_)
          | refine sl_region rfl ?_
          | refine sl_nil ?_
          | refine thn_k ?_
          | refine swp_block ?_
          )
        rename Nat => βm
        refine swp_loopS (fun t : SI2 => [(0, str s), (2, ptr β2), (4, ptr βr), (5, ptr βx), (6, i64 (j : Int)), (8, i64 (k : Int)), (9, i64 (i : Int)), (11, ptr βm), (12, i64 (mn : Int)), (13, i64 (t.j : Int))])
          (fun t => [t.h, rrs βr s t.x, blk βm (.cells ⟨[.slice pb ps.length pc, i64 (lo : Int), i64 (st : Int), .slice t.b t.j t.c]⟩ 56 (0, 0)), hp2, K2, h2, blk βx (.cells ⟨[.slice b j c, .slice b2 i c2]⟩ 25 (0, 0)), K, h, blk β2 (.cells ⟨zIm2⟩ 25 (0, 0))])
          (fun t => t.j ≤ mn ∧ t.x.at ≤ s.length ∧ whileS (fun _ => ins1S s) t.j z5 = (t.cd, t.x) ∧ t.cd.length = t.j ∧ OS t.h t.b t.j t.c 58 3 (flatI t.cd))
          (fun t => mn - t.j) ⟨0, z5, emp, none, 0, []⟩ (by repeat first | exact Sub.nil _ | refine Sub.cons rfl ?_) ⟨Nat.zero_le _, hz5, rfl, rfl, OS.nil⟩ ?_
        clear kk1 kk2 kk3 kk4 kk5
        rintro ⟨m, w, h3, b3, c3, cd⟩ ⟨hm, hwa, hwc, hcd, os3⟩
        dsimp only at hm hwa hwc hcd os3 ⊢
        by_cases hgo : m < mn ∧ w.ok = true
        · obtain ⟨hm2, hwk⟩ := hgo
          have hbw := Rs.bd_ok hwk
          obtain ⟨o1, w1, g1, hw1⟩ := numS_any (s := s) (many := 1) (least := 0) (most := 255) hwa
          obtain ⟨o2, w2, g2, hw2⟩ := numS_any (s := s) (many := 8) (least := 0) (most := 0) hw1
          obtain ⟨o3, w3, g3, hw3⟩ := numS_any (s := s) (many := 8) (least := 0) (most := 0) hw2
          have d1 := number_calls βr s w 1 0 255 hs hwa (by decide)
          have d2 := number_calls βr s w1 8 0 0 hs hw1 (by decide)
          have d3 := number_calls βr s w2 8 0 0 hs hw2 (by decide)
          rw [g1] at d1
          rw [g2] at d2
          rw [g3] at d3
          dsimp only at d1 d2 d3
          repeat' (first
            | refine swp_seq ?_
            | (refine gk 0 rfl ?_; first | refine sl_op rfl rfl rfl (by first | exact opv_move rfl rfl | exact opv_assign rfl rfl | exact opv_pick_t rfl rfl rfl ) ?_ )
            | (refine gk 1 rfl ?_; first | refine sl_op rfl rfl rfl (by first | exact opv_add64 rfl rfl rfl (by omega) (by omega) ) ?_ )
            | (refine gk 2 rfl ?_; first | refine sl_yes rfl rfl rfl (by first | exact opv_lss rfl rfl rfl ) (by first | omega ) ?_ )
            | (refine gk 3 rfl ?_; first | refine sl_op rfl rfl rfl (by first | exact opv_load rfl (by exact rfl) rfl (by exact rfl) | exact opv_fieldAddr rfl rfl | exact opv_loadA rfl (by exact rfl) rfl (by exact rfl) (by exact rfl) ) ?_ )
            | (refine gk 4 rfl ?_; first | (refine sl_callT rfl rfl rfl rfl rfl rfl rfl rfl (d1) ?_; rintro _ _ ⟨rfl, rfl⟩; refine ⟨_, _, rfl, rfl, ?_⟩) | (refine sl_callT rfl rfl rfl rfl rfl rfl rfl rfl (d2) ?_; rintro _ _ ⟨rfl, rfl⟩; refine ⟨_, _, rfl, rfl, ?_⟩) | (refine sl_callT rfl rfl rfl rfl rfl rfl rfl rfl (d3) ?_; rintro _ _ ⟨rfl, rfl⟩; refine ⟨_, _, rfl, rfl, ?_⟩) | refine sl_appendG rfl rfl rfl rfl rfl rfl rfl rfl rfl (by assumption) (by first | rfl ) (by decide) (by first | rfl ) (by omega) (by omega) (fun h' b' c' os' hb' => ?_))
            | (refine gk 5 rfl ?_; first | refine sl_op rfl rfl rfl (by first | exact opv_nilCheck rfl rfl | exact opv_build rfl rfl (by exact rfl) ) ?_ | refine sl_buildSlice rfl rfl rfl rfl rfl (by exact rfl) (by exact rfl) (by exact rfl) (by exact rfl) rfl (fun b => ?_) | refine sl_alloc rfl rfl rfl rfl (by exact rfl) (fun β => ?_) | refine sl_store rfl rfl rfl rfl rfl rfl (by exact rfl) rfl (by exact rfl) ?_)
            | refine sl_region rfl ?_
            | refine sl_nil ?_
            | refine thn_k ?_
            | refine swp_true rfl ?_
            | refine swp_block ?_
            | refine swp_skip ?_
            )
          refine ⟨rfl, ⟨m + 1, w3, h', b', c', cd ++ [⟨o1, o2, o3⟩]⟩, next_ok (by repeat first | exact Sub.nil _ | refine Sub.cons rfl ?_), ⟨by dsimp only; omega, hw3, ?_, by simp [hcd], ?_⟩, by dsimp only; omega⟩
          · dsimp only
            rw [whileS_go hwc hwk, ins1S_eq g1 g2 g3]
          · dsimp only
            rw [flatI_append]; exact os'
        · have hcode : whileS (fun _ => ins1S s) mn z5 = (cd, w) := by
            by_cases hm2 : m < mn
            · have hwk : w.ok = false := by
                cases e : w.ok with
                | false => rfl
                | true => exact absurd ⟨hm2, e⟩ hgo
              rw [whileS_stop (j := m) (by rw [hwc]; exact hwk) hm, hwc]
            · obtain rfl : m = mn := by omega
              exact hwc
          have hme := methS_eq (cl := j) (i := i) (by rw [← hmo1]; exact q1) q2 q3 q4 q5 hcode
          have hgo2 : m < mn → 0 ≤ w.bd := fun hm2 => Rs.bd_no (by
            cases e : w.ok with
            | false => rfl
            | true => exact absurd ⟨hm2, e⟩ hgo)
          by_cases hm2 : m < mn
          · have hbw := hgo2 hm2
            clear hgo2 hgo
            repeat' (first
              | refine swp_seq ?_
              | (refine gk 0 rfl ?_; first | refine sl_op rfl rfl rfl (by first | exact opv_move rfl rfl | exact opv_assign rfl rfl | exact opv_pick_t rfl rfl rfl ) ?_ )
              | (refine gk 1 rfl ?_; first | refine sl_op rfl rfl rfl (by first | exact opv_add64 rfl rfl rfl (by omega) (by omega) ) ?_ )
              | (refine gk 2 rfl ?_; first | refine sl_yes rfl rfl rfl (by first | exact opv_lss rfl rfl rfl ) (by first | omega ) ?_ | refine sl_no rfl rfl rfl (by first | exact opv_lss rfl rfl rfl ) (by first | omega ) ?_ )
              | (refine gk 3 rfl ?_; first | refine sl_op rfl rfl rfl (by first | exact opv_load rfl (by exact rfl) rfl (by exact rfl) | exact opv_fieldAddr rfl rfl | exact opv_loadA rfl (by exact rfl) rfl (by exact rfl) (by exact rfl) ) ?_ )
              | (refine gk 4 rfl ?_; first | refine sl_appendG rfl rfl rfl rfl rfl rfl rfl rfl rfl (by assumption) (by first | rfl ) (by decide) (by first | rfl ) (by omega) (by omega) (fun h' b' c' os' hb' => ?_))
              | (refine gk 5 rfl ?_; first | refine sl_op rfl rfl rfl (by first | exact opv_nilCheck rfl rfl ) ?_ | refine sl_buildSlice rfl rfl rfl rfl rfl (by exact rfl) (by exact rfl) (by exact rfl) (by exact rfl) rfl (fun b => ?_) | refine sl_store rfl rfl rfl rfl rfl rfl (by exact rfl) rfl (by exact rfl) ?_)
              | refine sl_region rfl ?_
              | refine sl_nil ?_
              | refine thn_k ?_
              | refine swp_false rfl ?_
              | refine swp_exit ?_
              )
            intro hd
            obtain ⟨d1, d2, d3⟩ := disj3 (h := hp2) (g := h3) (k := K2) hd
            refine ⟨rfl, ⟨i + 1, w, h', b', c', join hp2 (join h3 K2), ms ++ [⟨ps, lo, st, cd⟩], _⟩, next_join3 (h := hp2) (g := h3) (k := K2) (by repeat first | exact Sub.nil _ | refine Sub.cons rfl ?_), ⟨by dsimp only; omega, hwa, ?_, by simp [hml], os', ?_⟩, by dsimp only; omega⟩
            · dsimp only
              rw [whileS_go hw hok, hme]
            · subst hcd
              have l1 : hle (join h3 K2) (join hp2 (join h3 K2)) := join_right (disj_join_mk d1 d2)
              exact (hP2.mono ((join_right d3).trans l1)).snoc (osp.sl.mono join_left) (by dsimp only; omega) (os3.sl.mono (join_left.trans l1)) os3.hle (by dsimp only; omega)
          · clear hgo2 hgo
            repeat' (first
              | refine swp_seq ?_
              | (refine gk 0 rfl ?_; first | refine sl_op rfl rfl rfl (by first | exact opv_move rfl rfl | exact opv_assign rfl rfl | exact opv_pick_f rfl rfl rfl ) ?_ | refine sl_pass rfl rfl rfl rfl ?_)
              | (refine gk 1 rfl ?_; first | refine sl_op rfl rfl rfl (by first | exact opv_add64 rfl rfl rfl (by omega) (by omega) ) ?_ )
              | (refine gk 2 rfl ?_; first | refine sl_pass rfl rfl rfl rfl ?_ | refine sl_no rfl rfl rfl (by first | exact opv_lss rfl rfl rfl ) (by first | omega ) ?_ )
              | (refine gk 3 rfl ?_; first | refine sl_op rfl rfl rfl (by first | exact opv_load rfl (by exact rfl) rfl (by exact rfl) | exact opv_fieldAddr rfl rfl | exact opv_loadA rfl (by exact rfl) rfl (by exact rfl) (by exact rfl) ) ?_ | refine sl_pass rfl rfl rfl rfl ?_)
              | (refine gk 4 rfl ?_; first | refine sl_appendG rfl rfl rfl rfl rfl rfl rfl rfl rfl (by assumption) (by first | rfl ) (by decide) (by first | rfl ) (by omega) (by omega) (fun h' b' c' os' hb' => ?_))
              | (refine gk 5 rfl ?_; first | refine sl_pass rfl rfl rfl rfl ?_ | refine sl_buildSlice rfl rfl rfl rfl rfl (by exact rfl) (by exact rfl) (by exact rfl) (by exact rfl) rfl (fun b => ?_) | refine sl_store rfl rfl rfl rfl rfl rfl (by exact rfl) rfl (by exact rfl) ?_)
              | refine sl_region rfl ?_
              | refine sl_nil ?_
              | refine thn_k ?_
              | refine swp_false rfl ?_
              | refine swp_exit ?_
              )
            intro hd
            obtain ⟨d1, d2, d3⟩ := disj3 (h := hp2) (g := h3) (k := K2) hd
            refine ⟨rfl, ⟨i + 1, w, h', b', c', join hp2 (join h3 K2), ms ++ [⟨ps, lo, st, cd⟩], _⟩, next_join3 (h := hp2) (g := h3) (k := K2) (by repeat first | exact Sub.nil _ | refine Sub.cons rfl ?_), ⟨by dsimp only; omega, hwa, ?_, by simp [hml], os', ?_⟩, by dsimp only; omega⟩
            · dsimp only
              rw [whileS_go hw hok, hme]
            · subst hcd
              have l1 : hle (join h3 K2) (join hp2 (join h3 K2)) := join_right (disj_join_mk d1 d2)
              exact (hP2.mono ((join_right d3).trans l1)).snoc (osp.sl.mono join_left) (by dsimp only; omega) (os3.sl.mono (join_left.trans l1)) os3.hle (by dsimp only; omega)
    · obtain rfl : i = k := by omega
      have hrd := rdec_eq hp e1 hr e3 hw
      cases y with
      | bad a q =>
        have hbd : 0 ≤ (Rs.bad a q).bd := Int.natCast_nonneg _
        have hr2 : rdec s = (noIm, (q : Int)) := hrd
        repeat' (first
          | refine swp_seq ?_
          | (refine gk 0 rfl ?_; first | refine sl_op rfl rfl rfl (by first | exact opv_move rfl rfl | exact opv_pick_f rfl rfl rfl ) ?_ | refine sl_pass rfl rfl rfl rfl ?_)
          | (refine gk 2 rfl ?_; first | refine sl_pass rfl rfl rfl rfl ?_ | refine sl_yes rfl rfl rfl (by first | exact opv_lss rfl rfl rfl | exact opv_geq rfl rfl rfl ) (by first | omega ) ?_ | refine sl_no rfl rfl rfl (by first | exact opv_lss rfl rfl rfl ) (by first | omega ) ?_ )
          | (refine gk 3 rfl ?_; first | refine sl_op rfl rfl rfl (by first | exact opv_load rfl (by exact rfl) rfl (by exact rfl) | exact opv_fieldAddr rfl rfl ) ?_ | refine sl_pass rfl rfl rfl rfl ?_)
          | (refine gk 4 rfl ?_; first | refine sl_pass rfl rfl rfl rfl ?_ )
          | (refine gk 5 rfl ?_; first | refine sl_op rfl rfl rfl (by first | exact opv_nilCheck rfl rfl ) ?_ | refine sl_pass rfl rfl rfl rfl ?_ )
          | refine sl_region rfl ?_
          | refine sl_nil ?_
          | refine thn_k ?_
          | refine swp_true rfl ?_
          | refine swp_false rfl ?_
          | refine swp_exit ?_
          | refine swp_skip ?_
          )
        refine sl_drawC [.q [0], .f [1], .r [2], .f [3], .r [4], .h true 5, .q [6]] [rrs βr s (.bad a q)] (by kernel_rfl) (by kernel_rfl) (by kernel_rfl) (by kernel_rfl) ?_
        repeat' (first
          | (refine gk 0 rfl ?_; first | refine sl_op rfl rfl rfl (by first | exact opv_move rfl rfl | exact opv_assign rfl rfl ) ?_ )
          | (refine gk 3 rfl ?_; first | refine sl_op rfl rfl rfl (by first | exact opv_load rfl (by exact rfl) rfl (by exact rfl) | exact opv_fieldAddr rfl rfl ) ?_ )
          | (refine gk 5 rfl ?_; first | refine sl_op rfl rfl rfl (by first | exact opv_nilCheck rfl rfl | exact opv_build rfl rfl (by exact rfl) ) ?_ )
          | refine chu_nil ?_
          | refine chu_q rfl ?_
          | refine chu_f rfl ?_
          | refine chu_r rfl ?_
          | refine chu_store rfl rfl rfl rfl rfl rfl (by exact rfl) rfl (by exact rfl) (by exact rfl) ?_
          | refine sl_nil ?_
          | refine thn_k ?_
          | refine swp_ret ?_
          | refine thn_ret ?_
          )
        exact end_retZ [] (resOk_two (resV_cellA rfl rfl rfl rfl) (resV_tmp rfl)) (rd_no hr2 rfl rfl)
      | good a =>
        by_cases ha : a < s.length
        · have hr2 : rdec s = (noIm, (a : Int)) := by rw [hrd]; exact if_pos ha
          have hbd : (Rs.good a).bd = -1 := rfl
          have hat : (Rs.good a).at < s.length := ha
          repeat' (first
            | refine sl_op rfl rfl rfl (opv_lenS rfl rfl rfl rfl rfl) ?_
            | refine swp_seq ?_
            | (refine gk 0 rfl ?_; first | refine sl_op rfl rfl rfl (by first | exact opv_move rfl rfl | exact opv_pick_t rfl rfl rfl | exact opv_pick_f rfl rfl rfl ) ?_ | refine sl_pass rfl rfl rfl rfl ?_)
            | (refine gk 2 rfl ?_; first | refine sl_pass rfl rfl rfl rfl ?_ | refine sl_yes rfl rfl rfl (by first | exact opv_lss rfl rfl rfl | exact opv_geq rfl rfl rfl ) (by first | omega ) ?_ | refine sl_no rfl rfl rfl (by first | exact opv_lss rfl rfl rfl ) (by first | omega ) ?_ )
            | (refine gk 3 rfl ?_; first | refine sl_op rfl rfl rfl (by first | exact opv_load rfl (by exact rfl) rfl (by exact rfl) | exact opv_fieldAddr rfl rfl ) ?_ | refine sl_pass rfl rfl rfl rfl ?_)
            | (refine gk 5 rfl ?_; first | refine sl_op rfl rfl rfl (by first | exact opv_nilCheck rfl rfl ) ?_ | refine sl_pass rfl rfl rfl rfl ?_ | refine sl_store rfl rfl rfl rfl rfl rfl (by exact rfl) rfl (by exact rfl) ?_)
            | refine sl_region rfl ?_
            | refine sl_nil ?_
            | refine thn_k ?_
            | refine swp_true rfl ?_
            | refine swp_false rfl ?_
            | refine swp_exit ?_
            )
          refine sl_drawC [.q [0], .f [1], .r [2], .f [3], .r [4], .h true 5, .q [6]] [blk βr (.cells ⟨[str s, i64 ((Rs.good a).at : Int), i64 ((Rs.good a).at : Int)]⟩ 99 (0, 0))] (by kernel_rfl) (by kernel_rfl) (by kernel_rfl) (by kernel_rfl) ?_
          repeat' (first
            | (refine gk 0 rfl ?_; first | refine sl_op rfl rfl rfl (by first | exact opv_move rfl rfl | exact opv_assign rfl rfl ) ?_ )
            | (refine gk 3 rfl ?_; first | refine sl_op rfl rfl rfl (by first | exact opv_load rfl (by exact rfl) rfl (by exact rfl) | exact opv_fieldAddr rfl rfl ) ?_ )
            | (refine gk 5 rfl ?_; first | refine sl_op rfl rfl rfl (by first | exact opv_nilCheck rfl rfl | exact opv_build rfl rfl (by exact rfl) ) ?_ )
            | refine chu_nil ?_
            | refine chu_q rfl ?_
            | refine chu_f rfl ?_
            | refine chu_r rfl ?_
            | refine chu_store rfl rfl rfl rfl rfl rfl (by exact rfl) rfl (by exact rfl) (by exact rfl) ?_
            | refine sl_nil ?_
            | refine thn_k ?_
            | refine swp_ret ?_
            | refine thn_ret ?_
            )
          exact end_retZ [] (resOk_two (resV_cellA rfl rfl rfl rfl) (resV_tmp rfl)) (rd_no hr2 rfl rfl)
        · have hr2 : rdec s = (⟨cls, ms⟩, -1) := by rw [hrd]; exact if_neg ha
          have hbd : (Rs.good a).bd = -1 := rfl
          have hat : ¬ (Rs.good a).at < s.length := ha
          repeat' (first
            | refine sl_op rfl rfl rfl (opv_lenS rfl rfl rfl rfl rfl) ?_
            | refine swp_seq ?_
            | (refine gk 0 rfl ?_; first | refine sl_op rfl rfl rfl (by first | exact opv_move rfl rfl | exact opv_assign rfl rfl | exact opv_pick_t rfl rfl rfl | exact opv_pick_f rfl rfl rfl ) ?_ | refine sl_pass rfl rfl rfl rfl ?_)
            | (refine gk 2 rfl ?_; first | refine sl_pass rfl rfl rfl rfl ?_ | refine sl_yes rfl rfl rfl (by first | exact opv_lss rfl rfl rfl | exact opv_geq rfl rfl rfl ) (by first | omega ) ?_ | refine sl_no rfl rfl rfl (by first | exact opv_lss rfl rfl rfl | exact opv_geq rfl rfl rfl ) (by first | omega ) ?_ )
            | (refine gk 3 rfl ?_; first | refine sl_op rfl rfl rfl (by first | exact opv_load rfl (by exact rfl) rfl (by exact rfl) | exact opv_fieldAddr rfl rfl | exact opv_loadA rfl (by exact rfl) rfl (by exact rfl) (by exact rfl) ) ?_ | refine sl_pass rfl rfl rfl rfl ?_)
            | (refine gk 5 rfl ?_; first | refine sl_op rfl rfl rfl (by first | exact opv_nilCheck rfl rfl ) ?_ | refine sl_pass rfl rfl rfl rfl ?_ | refine sl_store rfl rfl rfl rfl rfl rfl (by exact rfl) rfl (by exact rfl) ?_)
            | refine sl_region rfl ?_
            | refine sl_nil ?_
            | refine thn_k ?_
            | refine swp_false rfl ?_
            | refine swp_ret ?_
            | refine swp_exit ?_
            | refine swp_skip ?_
            )
          exact end_retZ [K, h, K2, h2] (resOk_two (resV_cellA rfl rfl rfl rfl) (resV_tmp rfl)) (rd_yes hr2 hcl hml rfl os hP os2 hP2 (by omega) (by omega))
end Go.Proofs.YtjdjkcebflablaaDoor
