/- Which texts are picks, by the document: walked. -/
import Derived.Test.YtobcmglbdmaceaaGreatDoorWC5
import Derived.Test.YtobcmglbdmaceaaGreatDoorSlGb
set_option linter.unusedVariables false
set_option linter.unusedSimpArgs false
set_option linter.unusedSectionVars false
namespace Go.Proofs.YtobcmglbdmaceaaGreatDoor
open Go.SL
set_option maxRecDepth 100000
set_option maxHeartbeats 16000000
/-- What the document's Parse answers. -/
def PQ2 (r : Except Nat (List Pk)) (e : Ending) (o : List Heap) : Prop := match r with
  | .ok l => ∃ h b c, e = .returned (.tuple ⟨[.slice b l.length c, i64 (-1)]⟩) ∧ OS h b l.length c 42 2 (flatP l) ∧ o = [h]
  | .error q => e = .returned (.tuple ⟨[.slice none 0 0, i64 (q : Int)]⟩) ∧ o = []
/-- The pieces that are to come. -/
def tl (s w : List UInt8) (j : Nat) : List (List UInt8) := if j ≤ s.length then pcs (w ++ s.drop j) else []
theorem tl_more {s w : List UInt8} {j : Nat} {x : UInt8} (h : s[j]? = some x) : tl s w j = tl s (w ++ [x]) (j + 1) := by
  have hj := (List.getElem?_eq_some_iff.1 h).1
  unfold tl
  rw [if_pos (by omega), if_pos (by omega), List.append_assoc]
  congr 2
  rw [List.drop_eq_getElem_cons hj, (List.getElem?_eq_some_iff.1 h).2]; rfl
theorem tl_end {s w : List UInt8} (hw : Nb w) : tl s w s.length = w :: tl s [] (s.length + 1) := by
  unfold tl
  rw [if_pos (Nat.le_refl _), if_neg (by omega), List.drop_length, List.append_nil, pcs_nb hw]
theorem tl_sep {s w : List UInt8} {j : Nat} (hw : Nb w) (h : s[j]? = some 32) : tl s w j = w :: tl s [] (j + 1) := by
  have hj := (List.getElem?_eq_some_iff.1 h).1
  unfold tl
  rw [if_pos (by omega), if_pos (by omega), List.drop_eq_getElem_cons hj, (List.getElem?_eq_some_iff.1 h).2, pcs_sep _ hw]; rfl
structure SR where
  j : Nat
  w : List UInt8
  out : List Pk
  h : Heap
  b : Option Addr
  c : Nat
attribute [local irreducible] SL.T PFn OpV SOL SWP HOp ChU
-- ALIAS Tryz
theorem rParse_calls (s : List UInt8) (hs : s.length ≤ 200000) : SL.T Tryz.prog 11 [str s] [] (PQ2 (parseF s)) := by
  refine t_of_body Tryz.func11 rfl (Nat.le_of_ble_eq_true rfl) fun F => ?_
  refine swp_emp ?_
  repeat' (first
    | refine swp_seq ?_
    | (refine gk 0 rfl ?_; first | refine sl_op rfl rfl rfl (by first | exact opv_assign rfl rfl ) ?_ )
    | refine sl_region rfl ?_
    | refine sl_nil ?_
    | refine thn_k ?_
    | refine swp_block ?_
    )
  refine swp_loopS (fun t : SR => [(0, str s), (4, .slice t.b t.out.length t.c), (5, str t.w), (6, i64 (t.out.length : Int)), (7, i64 (t.j : Int))]) (fun t => [t.h])
    (fun t => t.j ≤ s.length + 1 ∧ OS t.h t.b t.out.length t.c 42 2 (flatP t.out) ∧ parseF s = parseW (tl s t.w t.j) t.out ∧ Nb t.w ∧ t.w.length ≤ t.j ∧ t.out.length ≤ t.j ∧ (t.j = s.length + 1 → t.w = []))
    (fun t => s.length + 1 - t.j) ⟨0, [], [], emp, none, 0⟩ (by repeat first | exact Sub.nil _ | refine Sub.cons rfl ?_) ⟨Nat.zero_le _, OS.nil, by simp [tl, parseF], fun b hb => by simp at hb, Nat.le_refl _, Nat.le_refl _, fun h => rfl⟩ ?_
  rintro ⟨j, w, out, h, b, c⟩ ⟨hj, os, hpar, hnb, hwl, hol, hend⟩
  dsimp only at hj os hpar hnb hwl hol hend ⊢
  by_cases hj2 : j ≤ s.length
  · by_cases hj3 : j < s.length
    · obtain ⟨x, hx⟩ : ∃ x, s[j]? = some x := ⟨_, List.getElem?_eq_getElem hj3⟩
      have hx' : s[((j : Nat) : Int).toNat]? = some x := by simpa using hx
      have hxl := x.toNat_lt
      by_cases h32 : x.toNat = 32
      · obtain rfl : x = 32 := UInt8.toNat_inj.1 h32
        rw [tl_sep hnb hx] at hpar
        by_cases hw0 : w = []
        · subst hw0
          rw [parseW, if_pos rfl] at hpar
          repeat' (first
            | refine sl_op rfl rfl rfl (opv_lenS rfl rfl rfl rfl rfl) ?_
            | refine sl_op rfl rfl rfl (opv_indexS rfl rfl rfl (by omega) hx') ?_
            | refine sl_tt rfl rfl rfl (opv_eqlStr rfl rfl rfl) (by simp) ?_
            | refine swp_seq ?_
            | (refine gk 0 rfl ?_; first | refine sl_op rfl rfl rfl (by first | exact opv_move rfl rfl | exact opv_assign rfl rfl | exact opv_pick_t rfl rfl rfl ) ?_ )
            | (refine gk 1 rfl ?_; first | refine sl_op rfl rfl rfl (by first | exact opv_add64 rfl rfl rfl (by omega) (by omega) ) ?_ )
            | (refine gk 2 rfl ?_; first | refine sl_yes rfl rfl rfl (by first | exact opv_lss rfl rfl rfl | exact opv_leq rfl rfl rfl | exact opv_neq rfl rfl rfl) (by first | omega ) ?_ | refine sl_no rfl rfl rfl (by first | exact opv_neq rfl rfl rfl) (by first | omega ) ?_ )
            | refine sl_region rfl ?_
            | refine sl_nil ?_
            | refine thn_k ?_
            | refine swp_true rfl ?_
            | refine swp_false rfl ?_
            | refine swp_block ?_
            | refine swp_exit ?_
            | refine swp_skip ?_
            )
          exact ⟨rfl, ⟨j + 1, [], out, h, b, c⟩, next_ok (by repeat first | exact Sub.nil _ | refine Sub.cons rfl ?_), ⟨by dsimp only; omega, os, hpar, fun b hb => by simp at hb, Nat.zero_le _, by dsimp only; omega, fun h => rfl⟩, by dsimp only; omega⟩
        · rw [parseW, if_neg hw0] at hpar
          have hwc := word_calls w (by omega) hw0
          unfold WQ at hwc
          cases hp : pickF w with
          | some p =>
            rw [hp] at hpar hwc
            dsimp only at hpar hwc
            repeat' (first
              | refine sl_op rfl rfl rfl (opv_lenS rfl rfl rfl rfl rfl) ?_
              | refine sl_op rfl rfl rfl (opv_indexS rfl rfl rfl (by omega) hx') ?_
              | refine sl_ff rfl rfl rfl (opv_eqlStr rfl rfl rfl) (by simpa using hw0) ?_
              | refine swp_seq ?_
              | (refine gk 0 rfl ?_; first | refine sl_op rfl rfl rfl (by first | exact opv_move rfl rfl | exact opv_assign rfl rfl | exact opv_pick_t rfl rfl rfl | exact opv_not_t rfl rfl | exact opv_extract rfl rfl rfl ) ?_ )
              | (refine gk 1 rfl ?_; first | refine sl_op rfl rfl rfl (by first | exact opv_add64 rfl rfl rfl (by omega) (by omega) ) ?_ )
              | (refine gk 2 rfl ?_; first | refine sl_yes rfl rfl rfl (by first | exact opv_lss rfl rfl rfl | exact opv_leq rfl rfl rfl | exact opv_neq rfl rfl rfl) (by first | omega ) ?_ | refine sl_no rfl rfl rfl (by first | exact opv_neq rfl rfl rfl) (by first | omega ) ?_ )
              | (refine gk 3 rfl ?_; first | refine sl_op rfl rfl rfl (by first | exact opv_loadA rfl (by exact rfl) rfl (by exact rfl) (by exact rfl) ) ?_ )
              | (refine gk 4 rfl ?_; first | (refine sl_callT rfl rfl rfl rfl rfl rfl rfl rfl (hwc) ?_; rintro _ _ ⟨rfl, rfl⟩; refine ⟨_, _, rfl, rfl, ?_⟩) | refine sl_appendG rfl rfl rfl rfl rfl rfl rfl rfl rfl (by assumption) (by first | rfl ) (by decide) (by first | rfl ) (by omega) (by omega) (fun h' b' c' os' hb' => ?_))
              | (refine gk 5 rfl ?_; first | refine sl_buildSlice rfl rfl rfl rfl rfl (by exact rfl) (by exact rfl) (by exact rfl) (by exact rfl) rfl (fun b => ?_) | refine sl_alloc rfl rfl rfl rfl (by exact rfl) (fun β => ?_) | refine sl_store rfl rfl rfl rfl rfl rfl (by exact rfl) rfl (by exact rfl) ?_)
              | refine sl_region rfl ?_
              | refine sl_nil ?_
              | refine thn_k ?_
              | refine swp_true rfl ?_
              | refine swp_false rfl ?_
              | refine swp_block ?_
              | refine swp_skip ?_
              )
            refine ⟨rfl, ⟨j + 1, [], out ++ [p], h', b', c'⟩, by rw [List.length_append]; exact next_ok (by repeat first | exact Sub.nil _ | refine Sub.cons rfl ?_), ⟨by dsimp only; omega, by dsimp only; rw [flatP_append, List.length_append]; exact os', hpar, fun b hb => by simp at hb, Nat.zero_le _, by simp; omega, fun h => rfl⟩, by dsimp only; omega⟩
          | none =>
            rw [hp] at hpar hwc
            dsimp only at hpar hwc
            rw [hpar]
            repeat' (first
              | refine sl_op rfl rfl rfl (opv_lenS rfl rfl rfl rfl rfl) ?_
              | refine sl_op rfl rfl rfl (opv_indexS rfl rfl rfl (by omega) hx') ?_
              | refine sl_ff rfl rfl rfl (opv_eqlStr rfl rfl rfl) (by simpa using hw0) ?_
              | refine swp_seq ?_
              | (refine gk 0 rfl ?_; first | refine sl_op rfl rfl rfl (by first | exact opv_move rfl rfl | exact opv_assign rfl rfl | exact opv_pick_t rfl rfl rfl | exact opv_not_f rfl rfl | exact opv_extract rfl rfl rfl ) ?_ )
              | (refine gk 2 rfl ?_; first | refine sl_yes rfl rfl rfl (by first | exact opv_lss rfl rfl rfl | exact opv_leq rfl rfl rfl | exact opv_neq rfl rfl rfl) (by first | omega ) ?_ | refine sl_no rfl rfl rfl (by first | exact opv_neq rfl rfl rfl) (by first | omega ) ?_ )
              | (refine gk 4 rfl ?_; first | (refine sl_callT rfl rfl rfl rfl rfl rfl rfl rfl (hwc) ?_; rintro _ _ ⟨rfl, x, y, rfl⟩; refine ⟨_, _, rfl, rfl, ?_⟩))
              | (refine gk 5 rfl ?_; first | refine sl_alloc rfl rfl rfl rfl (by exact rfl) (fun β => ?_) | refine sl_store rfl rfl rfl rfl rfl rfl (by exact rfl) rfl (by exact rfl) ?_)
              | refine sl_region rfl ?_
              | refine sl_nil ?_
              | refine thn_k ?_
              | refine swp_true rfl ?_
              | refine swp_false rfl ?_
              | refine swp_block ?_
              | refine swp_ret ?_
              | refine swp_skip ?_
              | refine thn_ret ?_
              | refine inb_ret ?_
              )
            exact end_retZ [] (resOk_two (resV_tmp rfl) (resV_tmp rfl)) ⟨rfl, rfl⟩
      · rw [tl_more hx] at hpar
        have hsl : (s.take ((j : Int) + 1).toNat).drop ((j : Nat) : Int).toNat = [x] := by
          rw [show ((j : Int) + 1).toNat = j + 1 by omega, Int.toNat_natCast]
          rw [List.take_add_one, hx, List.drop_append, List.drop_of_length_le (by rw [List.length_take]; omega), List.length_take, show j - min j s.length = 0 by omega]; rfl
        repeat' (first
          | refine sl_op rfl rfl rfl (opv_lenS rfl rfl rfl rfl rfl) ?_
          | refine sl_op rfl rfl rfl (opv_indexS rfl rfl rfl (by omega) hx') ?_
          | refine sl_op rfl rfl rfl ((opv_sliceSLH rfl rfl rfl rfl (by omega) (by omega) (by omega)).to (congrArg str hsl)) ?_
          | refine sl_op rfl rfl rfl (opv_addS rfl rfl rfl (by simp only [List.length_cons, List.length_nil]; omega)) ?_
          | refine swp_seq ?_
          | (refine gk 0 rfl ?_; first | refine sl_op rfl rfl rfl (by first | exact opv_move rfl rfl | exact opv_assign rfl rfl | exact opv_pick_t rfl rfl rfl ) ?_ )
          | (refine gk 1 rfl ?_; first | refine sl_op rfl rfl rfl (by first | exact opv_add64 rfl rfl rfl (by omega) (by omega) ) ?_ )
          | (refine gk 2 rfl ?_; first | refine sl_yes rfl rfl rfl (by first | exact opv_lss rfl rfl rfl | exact opv_leq rfl rfl rfl | exact opv_neq rfl rfl rfl) (by first | omega ) ?_ )
          | refine sl_region rfl ?_
          | refine sl_nil ?_
          | refine thn_k ?_
          | refine swp_true rfl ?_
          | refine swp_block ?_
          | refine swp_exit ?_
          | refine swp_skip ?_
          )
        refine ⟨rfl, ⟨j + 1, w ++ [x], out, h, b, c⟩, next_ok (by repeat first | exact Sub.nil _ | refine Sub.cons rfl ?_), ⟨by dsimp only; omega, os, hpar, fun b hb => ?_, by simp; omega, by dsimp only; omega, fun h => by dsimp only at h; omega⟩, by dsimp only; omega⟩
        rcases List.mem_append.1 hb with hb | hb
        · exact hnb b hb
        · simp only [List.mem_singleton] at hb
          subst hb
          exact fun e => h32 (by rw [e]; rfl)
    · obtain rfl : j = s.length := by omega
      rw [tl_end hnb] at hpar
      by_cases hw0 : w = []
      · subst hw0
        rw [parseW, if_pos rfl] at hpar
        repeat' (first
          | refine sl_op rfl rfl rfl (opv_lenS rfl rfl rfl rfl rfl) ?_
          | refine sl_tt rfl rfl rfl (opv_eqlStr rfl rfl rfl) (by simp) ?_
          | refine swp_seq ?_
          | (refine gk 0 rfl ?_; first | refine sl_op rfl rfl rfl (by first | exact opv_move rfl rfl | exact opv_assign rfl rfl | exact opv_pick_f rfl rfl rfl ) ?_ | refine sl_pass rfl rfl rfl rfl ?_)
          | (refine gk 1 rfl ?_; first | refine sl_op rfl rfl rfl (by first | exact opv_add64 rfl rfl rfl (by omega) (by omega) ) ?_ )
          | (refine gk 2 rfl ?_; first | refine sl_pass rfl rfl rfl rfl ?_ | refine sl_yes rfl rfl rfl (by first | exact opv_lss rfl rfl rfl | exact opv_leq rfl rfl rfl ) (by first | omega ) ?_ | refine sl_no rfl rfl rfl (by first | exact opv_lss rfl rfl rfl ) (by first | omega ) ?_ )
          | (refine gk 3 rfl ?_; first | refine sl_pass rfl rfl rfl rfl ?_)
          | refine sl_region rfl ?_
          | refine sl_nil ?_
          | refine thn_k ?_
          | refine swp_true rfl ?_
          | refine swp_false rfl ?_
          | refine swp_block ?_
          | refine swp_exit ?_
          | refine swp_skip ?_
          )
        exact ⟨rfl, ⟨s.length + 1, [], out, h, b, c⟩, next_ok (by repeat first | exact Sub.nil _ | refine Sub.cons rfl ?_), ⟨by dsimp only; omega, os, hpar, fun b hb => by simp at hb, Nat.zero_le _, by dsimp only; omega, fun h => rfl⟩, by dsimp only; omega⟩
      · rw [parseW, if_neg hw0] at hpar
        have hwc := word_calls w (by omega) hw0
        unfold WQ at hwc
        cases hp : pickF w with
        | some p =>
          rw [hp] at hpar hwc
          dsimp only at hpar hwc
          repeat' (first
            | refine sl_op rfl rfl rfl (opv_lenS rfl rfl rfl rfl rfl) ?_
            | refine sl_ff rfl rfl rfl (opv_eqlStr rfl rfl rfl) (by simpa using hw0) ?_
            | refine swp_seq ?_
            | (refine gk 0 rfl ?_; first | refine sl_op rfl rfl rfl (by first | exact opv_move rfl rfl | exact opv_assign rfl rfl | exact opv_pick_f rfl rfl rfl | exact opv_not_t rfl rfl | exact opv_extract rfl rfl rfl ) ?_ | refine sl_pass rfl rfl rfl rfl ?_)
            | (refine gk 1 rfl ?_; first | refine sl_op rfl rfl rfl (by first | exact opv_add64 rfl rfl rfl (by omega) (by omega) ) ?_ )
            | (refine gk 2 rfl ?_; first | refine sl_pass rfl rfl rfl rfl ?_ | refine sl_yes rfl rfl rfl (by first | exact opv_lss rfl rfl rfl | exact opv_leq rfl rfl rfl ) (by first | omega ) ?_ | refine sl_no rfl rfl rfl (by first | exact opv_lss rfl rfl rfl ) (by first | omega ) ?_ )
            | (refine gk 3 rfl ?_; first | refine sl_op rfl rfl rfl (by first | exact opv_loadA rfl (by exact rfl) rfl (by exact rfl) (by exact rfl) ) ?_ | refine sl_pass rfl rfl rfl rfl ?_)
            | (refine gk 4 rfl ?_; first | (refine sl_callT rfl rfl rfl rfl rfl rfl rfl rfl (hwc) ?_; rintro _ _ ⟨rfl, rfl⟩; refine ⟨_, _, rfl, rfl, ?_⟩) | refine sl_appendG rfl rfl rfl rfl rfl rfl rfl rfl rfl (by assumption) (by first | rfl ) (by decide) (by first | rfl ) (by omega) (by omega) (fun h' b' c' os' hb' => ?_))
            | (refine gk 5 rfl ?_; first | refine sl_buildSlice rfl rfl rfl rfl rfl (by exact rfl) (by exact rfl) (by exact rfl) (by exact rfl) rfl (fun b => ?_) | refine sl_alloc rfl rfl rfl rfl (by exact rfl) (fun β => ?_) | refine sl_store rfl rfl rfl rfl rfl rfl (by exact rfl) rfl (by exact rfl) ?_)
            | refine sl_region rfl ?_
            | refine sl_nil ?_
            | refine thn_k ?_
            | refine swp_true rfl ?_
            | refine swp_false rfl ?_
            | refine swp_block ?_
            | refine swp_skip ?_
            )
          refine ⟨rfl, ⟨s.length + 1, [], out ++ [p], h', b', c'⟩, by rw [List.length_append]; exact next_ok (by repeat first | exact Sub.nil _ | refine Sub.cons rfl ?_), ⟨by dsimp only; omega, by dsimp only; rw [flatP_append, List.length_append]; exact os', hpar, fun b hb => by simp at hb, Nat.zero_le _, by simp; omega, fun h => rfl⟩, by dsimp only; omega⟩
        | none =>
          rw [hp] at hpar hwc
          dsimp only at hpar hwc
          rw [hpar]
          repeat' (first
            | refine sl_op rfl rfl rfl (opv_lenS rfl rfl rfl rfl rfl) ?_
            | refine sl_ff rfl rfl rfl (opv_eqlStr rfl rfl rfl) (by simpa using hw0) ?_
            | refine swp_seq ?_
            | (refine gk 0 rfl ?_; first | refine sl_op rfl rfl rfl (by first | exact opv_move rfl rfl | exact opv_assign rfl rfl | exact opv_pick_f rfl rfl rfl | exact opv_not_f rfl rfl | exact opv_extract rfl rfl rfl ) ?_ | refine sl_pass rfl rfl rfl rfl ?_)
            | (refine gk 2 rfl ?_; first | refine sl_pass rfl rfl rfl rfl ?_ | refine sl_yes rfl rfl rfl (by first | exact opv_lss rfl rfl rfl | exact opv_leq rfl rfl rfl ) (by first | omega ) ?_ | refine sl_no rfl rfl rfl (by first | exact opv_lss rfl rfl rfl ) (by first | omega ) ?_ )
            | (refine gk 3 rfl ?_; first | refine sl_pass rfl rfl rfl rfl ?_)
            | (refine gk 4 rfl ?_; first | (refine sl_callT rfl rfl rfl rfl rfl rfl rfl rfl (hwc) ?_; rintro _ _ ⟨rfl, x, y, rfl⟩; refine ⟨_, _, rfl, rfl, ?_⟩))
            | (refine gk 5 rfl ?_; first | refine sl_alloc rfl rfl rfl rfl (by exact rfl) (fun β => ?_) | refine sl_store rfl rfl rfl rfl rfl rfl (by exact rfl) rfl (by exact rfl) ?_)
            | refine sl_region rfl ?_
            | refine sl_nil ?_
            | refine thn_k ?_
            | refine swp_true rfl ?_
            | refine swp_false rfl ?_
            | refine swp_block ?_
            | refine swp_ret ?_
            | refine swp_skip ?_
            | refine thn_ret ?_
            | refine inb_ret ?_
            )
          exact end_retZ [] (resOk_two (resV_tmp rfl) (resV_tmp rfl)) ⟨rfl, rfl⟩
  · obtain rfl : j = s.length + 1 := by omega
    have htl : tl s w (s.length + 1) = [] := by unfold tl; rw [if_neg (by omega)]
    rw [htl, parseW] at hpar
    rw [hpar]
    repeat' (first
      | refine sl_op rfl rfl rfl (opv_lenS rfl rfl rfl rfl rfl) ?_
      | refine swp_seq ?_
      | (refine gk 0 rfl ?_; first | refine sl_op rfl rfl rfl (by first | exact opv_move rfl rfl | exact opv_assign rfl rfl ) ?_ )
      | (refine gk 2 rfl ?_; first | refine sl_no rfl rfl rfl (by first | exact opv_leq rfl rfl rfl ) (by first | omega ) ?_ )
      | refine sl_region rfl ?_
      | refine sl_nil ?_
      | refine thn_k ?_
      | refine swp_false rfl ?_
      | refine swp_ret ?_
      | refine swp_exit ?_
      )
    exact end_retZ [h] (resOk_two (resV_tmp rfl) (resV_tmp rfl)) ⟨h, b, c, rfl, os, rfl⟩
end Go.Proofs.YtobcmglbdmaceaaGreatDoor
