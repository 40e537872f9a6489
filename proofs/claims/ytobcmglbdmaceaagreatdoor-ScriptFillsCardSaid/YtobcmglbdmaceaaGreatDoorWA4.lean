/- What is filled: walked. -/
import Derived.Test.YtobcmglbdmaceaaGreatDoorWA1
import Derived.Test.YtobcmglbdmaceaaGreatDoorWP2
import Derived.Test.YtobcmglbdmaceaaGreatDoorSlGb
set_option linter.unusedVariables false
set_option linter.unusedSimpArgs false
set_option linter.unusedSectionVars false
namespace Go.Proofs.YtobcmglbdmaceaaGreatDoor
open Go.SL
set_option maxRecDepth 100000
set_option maxHeartbeats 16000000
abbrev pkV (p : Pk) : Value := .agg ⟨[i64 p.th, i64 p.kd]⟩
/-- What Fill makes. -/
def fillF (l : List Pk) (t k : Int) : List Pk := if t < 1 ∨ k ≤ t then [] else fl t.toNat (k - t).toNat 0 l
theorem rnd_get {t u : Nat} (h : u < t) : (rnd t)[u]? = some ⟨(u : Int), 0⟩ := by simp [rnd, h]
attribute [local irreducible] SL.T PFn OpV SOL SWP HOp ChU
-- ALIAS Tryz
theorem round_calls (β1 β4 L t m : Nat) (J : Nat → Heap → Prop) (Jx : Heap → Prop) (xs : List (List Value)) (ht : t ≤ 1000000) (hxs : ∀ u, u < t → xs[m + u]? = some [pkV ⟨(u : Int), 0⟩])
    (hy : ∀ k x H, xs[k]? = some x → J k H → YT Tryz.prog L x H fun v H' => (v = .bool true ∧ J (k + 1) H') ∨ (v = .bool false ∧ Jx H')) (H : Heap) (h0 : J m H) :
    SL.T Tryz.prog 43 [ptr β1, ptr β4] [H, blk β1 (.cells ⟨[i64 (t : Int)]⟩ 3 (0, 0)), blk β4 (.cells ⟨[.func (.yield L) #[] #[]]⟩ 94 (0, 0))] fun e o =>
      ∃ H', o = [H', blk β1 (.cells ⟨[i64 (t : Int)]⟩ 3 (0, 0)), blk β4 (.cells ⟨[.func (.yield L) #[] #[]]⟩ 94 (0, 0))] ∧ ((e = .returned (.bool true) ∧ J (m + t) H') ∨ (e = .returned (.bool false) ∧ Jx H')) := by
  refine t_of_body Tryz.func43 rfl (Nat.le_of_ble_eq_true rfl) fun F => ?_
  repeat' (first
    | refine swp_seq ?_
    | (refine gk 0 rfl ?_; first | refine sl_op rfl rfl rfl (by first | exact opv_move rfl rfl | exact opv_assign rfl rfl ) ?_ )
    | (refine gk 3 rfl ?_; first | refine sl_op rfl rfl rfl (by first | exact opv_load rfl (by exact rfl) rfl (by exact rfl) ) ?_ )
    | refine sl_region rfl ?_
    | refine sl_nil ?_
    | refine thn_k ?_
    | refine swp_block ?_
    )
  refine swp_loopS (fun s : (Nat × Heap) => [(0, ptr β1), (1, ptr β4), (4, i64 (t : Int)), (5, i64 (s.1 : Int))])
    (fun s => [s.2, blk β1 (.cells ⟨[i64 (t : Int)]⟩ 3 (0, 0)), blk β4 (.cells ⟨[.func (.yield L) #[] #[]]⟩ 94 (0, 0))]) (fun s => s.1 ≤ t ∧ J (m + s.1) s.2) (fun s => t - s.1) (0, H) (by repeat first | exact Sub.nil _ | refine Sub.cons rfl ?_) ⟨Nat.zero_le _, h0⟩ ?_
  clear h0
  rintro ⟨u, H⟩ ⟨hu1, hJ⟩
  dsimp only at hu1 hJ ⊢
  by_cases hu : u < t
  · have hyy := hy _ _ H (hxs u hu) hJ
    repeat' (first
      | refine swp_seq ?_
      | (refine gk 0 rfl ?_; first | refine sl_op rfl rfl rfl (by first | exact opv_move rfl rfl | exact opv_assign rfl rfl ) ?_ )
      | (refine gk 2 rfl ?_; first | refine sl_yes rfl rfl rfl (by first | exact opv_lss rfl rfl rfl ) (by first | omega ) ?_ )
      | (refine gk 3 rfl ?_; first | refine sl_op rfl rfl rfl (by first | exact opv_load rfl (by exact rfl) rfl (by exact rfl) ) ?_ )
      | (refine gk 5 rfl ?_; first | refine sl_op rfl rfl rfl (by first | exact opv_build rfl rfl (by exact rfl) ) ?_ )
      | refine sl_region rfl ?_
      | refine sl_nil ?_
      | refine swp_true rfl ?_
      | refine swp_block ?_
      | refine swp_skip ?_
      )
    refine sl_hop (hs := [H]) rfl rfl rfl (hop_yield rfl rfl rfl rfl hyy) ?_
    rintro v own' ⟨H', rfl, ⟨rfl, hJ'⟩ | ⟨rfl, hJ'⟩⟩ <;> refine ⟨_, rfl, ?_⟩
    · repeat' (first
        | (refine gk 0 rfl ?_; first | refine sl_op rfl rfl rfl (by first | exact opv_move rfl rfl | exact opv_not_t rfl rfl ) ?_ )
        | (refine gk 1 rfl ?_; first | refine sl_op rfl rfl rfl (by first | exact opv_add64 rfl rfl rfl (by omega) (by omega) ) ?_ )
        | refine sl_region rfl ?_
        | refine sl_nil ?_
        | refine thn_k ?_
        | refine swp_false rfl ?_
        | refine swp_skip ?_
        )
      exact ⟨rfl, (u + 1, H'), next_ok (by repeat first | exact Sub.nil _ | refine Sub.cons rfl ?_), ⟨hu, hJ'⟩, by dsimp only; omega⟩
    · repeat' (first
        | refine swp_seq ?_
        | (refine gk 0 rfl ?_; first | refine sl_op rfl rfl rfl (by first | exact opv_assign rfl rfl | exact opv_not_f rfl rfl ) ?_ )
        | refine sl_region rfl ?_
        | refine sl_nil ?_
        | refine thn_k ?_
        | refine swp_true rfl ?_
        | refine swp_ret ?_
        | refine thn_ret ?_
        | refine inb_ret ?_
        )
      exact end_retZ [H', blk β1 (.cells ⟨[i64 (t : Int)]⟩ 3 (0, 0)), blk β4 (.cells ⟨[.func (.yield L) #[] #[]]⟩ 94 (0, 0))] (resOk_one (resV_tmp rfl)) ⟨H', rfl, .inr ⟨rfl, hJ'⟩⟩
  · obtain rfl : u = t := by omega
    repeat' (first
      | refine swp_seq ?_
      | (refine gk 0 rfl ?_; first | refine sl_op rfl rfl rfl (by first | exact opv_assign rfl rfl ) ?_ )
      | (refine gk 2 rfl ?_; first | refine sl_no rfl rfl rfl (by first | exact opv_lss rfl rfl rfl ) (by first | omega ) ?_ )
      | refine sl_region rfl ?_
      | refine sl_nil ?_
      | refine thn_k ?_
      | refine swp_false rfl ?_
      | refine swp_ret ?_
      | refine swp_exit ?_
      )
    exact end_retZ [H, blk β1 (.cells ⟨[i64 (u : Int)]⟩ 3 (0, 0)), blk β4 (.cells ⟨[.func (.yield L) #[] #[]]⟩ 94 (0, 0))] (resOk_one (resV_tmp rfl)) ⟨H, rfl, .inl ⟨rfl, hJ⟩⟩
/-- How far one is, with so many picks gone. -/
def pos (t every : Nat) (i : Nat) : Nat := i + t * (i / every)
theorem fl_drop (t every : Nat) (he : 0 < every) (l : List Pk) (i : Nat) (hi : i ≤ l.length) : ∃ pre, pre.length = pos t every i ∧ fl t every 0 l = pre ++ fl t every i (l.drop i) := by
  have : ∀ (a b : List Pk) (j : Nat), ∃ pre, pre.length + pos t every j = pos t every (j + a.length) ∧ fl t every j (a ++ b) = pre ++ fl t every (j + a.length) b := by
    intro a
    induction a with
    | nil => intro b j; exact ⟨[], by simp, rfl⟩
    | cons p a ih =>
      intro b j
      obtain ⟨pre, h2, h1⟩ := ih b (j + 1)
      have e : j + (p :: a).length = j + 1 + a.length := by simp; omega
      rw [e]
      have hd : (j + 1) / every = j / every + (if (j + 1) % every = 0 then 1 else 0) := by
        rw [Nat.succ_div]
        simp only [Nat.dvd_iff_mod_eq_zero]
      by_cases h0 : (j + 1) % every = 0
      · refine ⟨p :: (rnd t ++ pre), ?_, by rw [List.cons_append, fl, if_pos h0, h1]; simp⟩
        rw [← h2]
        rw [if_pos h0] at hd
        simp only [List.length_cons, List.length_append, rnd_length, pos, hd, Nat.mul_add, Nat.mul_one]
        omega
      · refine ⟨p :: pre, ?_, by rw [List.cons_append, fl, if_neg h0, h1]; simp⟩
        rw [← h2]
        rw [if_neg h0] at hd
        simp only [List.length_cons, pos, hd, Nat.add_zero]
        omega
  obtain ⟨pre, h1, h2⟩ := this (l.take i) (l.drop i) 0
  rw [List.take_append_drop, List.length_take, Nat.min_eq_left hi, Nat.zero_add] at *
  exact ⟨pre, by simpa [pos] using h1, h2⟩
end Go.Proofs.YtobcmglbdmaceaaGreatDoor
