/- Slices of numbers cloned; frames joined, and compared. -/
import Derived.Test.YtnfepffmlhmmhaaWB
namespace Go.Proofs.Ytnfepffmlhmmhaa
open Go.SL
set_option maxRecDepth 100000
set_option maxHeartbeats 16000000
attribute [local irreducible] T PFn OpV SOL SWP HOp ChU
theorem Clone_calls (S : Heap) (base : Option Addr) (len cap : Nat) (zs : List Int) [Sl S base (zs.map i64)] (hlen : zs.length = len) (hsm : len ≤ 4000000) :
    T Try.prog 16 [.slice base len cap] [S] fun e own' => ∃ h b c, e = .returned (.slice b len c) ∧ own' = [S, h] ∧ OS h b len c 27 1 (zs.map i64) := by
  refine t_of_body Try.func16 rfl (Nat.le_of_ble_eq_true rfl) fun F => ?_
  cases base with
  | none =>
    have h0 : len = 0 := by
      rcases Nat.eq_zero_or_pos len with h | h
      · exact h
      · exfalso
        obtain ⟨a, _, _, _, e, _⟩ := ‹Sl S none (zs.map i64)›.cell 0 (i64 (zs[0]'(by omega))) (by simp)
        cases e
    subst h0
    obtain rfl : zs = [] := List.length_eq_zero_iff.1 hlen
    refine swp_emp ?_
    repeat' (first
      | refine swp_seq ?_
      | (refine gk 0 rfl ?_; first | refine sl_op rfl rfl rfl (by first | exact opv_move rfl rfl | exact opv_assign rfl rfl ) ?_ )
      | (refine gk 2 rfl ?_; first | refine sl_op rfl rfl rfl (opv_isNil rfl rfl) ?_ )
      | refine sl_region rfl ?_
      | refine sl_nil ?_
      | refine thn_k ?_
      | refine swp_true rfl ?_
      | refine swp_ret ?_
      | refine thn_ret ?_
      )
    exact end_retW [S, emp] (resOk_one (resV_tmp rfl)) (fun F w s => s.perm ((List.Perm.swap _ _ _).cons F)) ⟨emp, none, 0, rfl, rfl, OS.nil⟩
  | some a =>
    repeat' (first
      | refine swp_seq ?_
      | (refine gk 0 rfl ?_; first | refine sl_op rfl rfl rfl (by first | exact opv_move rfl rfl | exact opv_assign rfl rfl ) ?_ )
      | (refine gk 2 rfl ?_; first | refine sl_op rfl rfl rfl (opv_isNil rfl rfl) ?_ )
      | (refine gk 5 rfl ?_; first | refine sl_buildSlice rfl rfl rfl rfl rfl (by exact rfl) (by exact rfl) (by exact rfl) (by exact rfl) rfl (fun b => ?_) )
      | refine sl_region rfl ?_
      | refine sl_nil ?_
      | refine thn_k ?_
      | refine swp_false rfl ?_
      | refine swp_skip ?_
      )
    refine sl_appendG rfl rfl rfl rfl rfl rfl rfl rfl rfl (OS.blk (len := 0) (sz := 1) (cs := []) rfl) (by simp [hlen]) (by decide) (i64s_one _) (by omega) (by omega) (fun h' b' c' os' hb' => ?_)
    rw [Nat.zero_add] at os' ⊢
    repeat' (first
      | (refine gk 0 rfl ?_; first | refine sl_op rfl rfl rfl (by first | exact opv_assign rfl rfl ) ?_ )
      | refine sl_nil ?_
      | refine thn_k ?_
      | refine swp_ret ?_
      )
    exact end_retW [S, h'] (resOk_one (resV_tmp rfl)) (fun F w s => s.perm ((List.Perm.swap _ _ _).cons F)) ⟨h', b', c', rfl, rfl, os'⟩
/-- A frame, as it is handed about. -/
abbrev fr (a b : Option Addr) (n m c d : Nat) : Value := .agg ⟨[.slice a n c, .slice b m d]⟩
abbrev nilFr : Value := fr none none 0 0 0 0
theorem Clone_W (own : List Heap) (base : Option Addr) (len cap : Nat) (zs : List Int) [s : SlIn own base (zs.map i64)] (hlen : zs.length = len) (hsm : len ≤ 4000000) :
    T Try.prog 16 [.slice base len cap] own fun e o => ∃ N, o = own ++ N ∧ ∃ h b c, e = .returned (.slice b len c) ∧ N = [h] ∧ OS h b len c 27 1 (zs.map i64) :=
  T_whole fun J hJ => by
    haveI := s.all hJ
    refine (Clone_calls J base len cap zs hlen hsm).mono ?_
    rintro e o ⟨h, b, c, h1, rfl, h3⟩
    exact ⟨[h], rfl, h, b, c, h1, rfl, h3⟩
theorem few_W (own : List Heap) (base : Option Addr) (len cap : Nat) (zs : List Int) [s : SlIn own base (zs.map i64)] (hlen : zs.length = len) (hsm : len ≤ 9223372036854775807) :
    T Try.prog 7 [.slice base len cap] own fun e o => ∃ N, o = own ++ N ∧ ∃ h b n c, e = .returned (.slice b n c) ∧ N = [h] ∧ n = (few zs).length ∧ OS h b n c 27 1 ((few zs).map i64) :=
  T_whole fun J hJ => by
    haveI := s.all hJ
    refine (few_calls J base len cap zs hlen hsm).mono ?_
    rintro e o ⟨h, b, n, c, h1, rfl, h3, h4⟩
    exact ⟨[h], rfl, h, b, n, c, h1, rfl, h3, h4⟩
theorem Same_calls (own : List Heap) (a b a' b' : Option Addr) (n m n' m' c d c' d' : Nat) (xs ys xs' ys' : List Int) [SlIn own a (xs.map i64)] [SlIn own b (ys.map i64)] [SlIn own a' (xs'.map i64)] [SlIn own b' (ys'.map i64)]
    (h1 : xs.length = n) (h2 : ys.length = m) (h3 : xs'.length = n') (h4 : ys'.length = m') (hsm : n ≤ 4000000) (hsm2 : m ≤ 4000000) :
    PFn Try.prog 9 [fr a b n m c d, fr a' b' n' m' c' d'] own (.bool (decide (xs = xs' ∧ ys = ys'))) := by
  refine P_whole fun J hJ => ?_
  haveI := SlIn.all ‹SlIn own a _› hJ
  haveI := SlIn.all ‹SlIn own b _› hJ
  haveI := SlIn.all ‹SlIn own a' _› hJ
  haveI := SlIn.all ‹SlIn own b' _› hJ
  refine pure_of_body Try.func9 rfl (Nat.le_of_ble_eq_true rfl) fun F => ?_
  repeat' (first
    | refine swp_seq ?_
    | (refine gk 0 rfl ?_; first | refine sl_op rfl rfl rfl (by first | exact opv_move rfl rfl | exact opv_assign rfl rfl | exact opv_pick_t rfl rfl rfl | exact opv_pick_f rfl rfl rfl ) ?_ )
    | (refine gk 3 rfl ?_; first | refine sl_op rfl rfl rfl (by first | exact opv_load rfl (by exact rfl) rfl (by exact rfl) | exact opv_fieldAddr rfl rfl ) ?_ | refine sl_pass rfl rfl rfl rfl ?_)
    | (refine gk 4 rfl ?_; first | refine sl_pass rfl rfl rfl rfl ?_ | refine sl_if rfl rfl rfl (opv_call rfl rfl rfl rfl rfl (Equal_calls [J] _ _ _ _ _ _ xs xs' h1 h3 (by omega))) (fun h => ?_) (fun h => ?_) | refine sl_if rfl rfl rfl (opv_call rfl rfl rfl rfl rfl (Equal_calls [J] _ _ _ _ _ _ ys ys' h2 h4 (by omega))) (fun h => ?_) (fun h => ?_))
    | (refine gk 5 rfl ?_; first | refine sl_box rfl rfl rfl rfl rfl rfl (fun β => ?_) )
    | refine sl_region rfl ?_
    | refine sl_nil ?_
    | refine thn_k ?_
    | refine swp_ret ?_
    )
  all_goals
    refine end_pure (resOk_one (resV_tmp rfl)) ?_
    refine congrArg Value.bool ?_
    symm
    first | exact decide_eq_true ⟨by assumption, by assumption⟩ | (refine decide_eq_false ?_; rintro ⟨rfl, rfl⟩; contradiction)
end Go.Proofs.Ytnfepffmlhmmhaa
