/- The law ScriptKnown, walked. -/
import Derived.Test.YtobcmglbdmaceaaGreatDoorWC3
set_option linter.unusedVariables false
set_option linter.unusedSimpArgs false
set_option linter.unusedSectionVars false
namespace Go.Proofs.YtobcmglbdmaceaaGreatDoor
open Go.SL
set_option maxRecDepth 100000
set_option maxHeartbeats 16000000
abbrev oddL : List Pk := [⟨-1, 0⟩, ⟨100000, 0⟩, ⟨0, 3⟩, ⟨0, -1⟩, ⟨99999, 2⟩]
abbrev wordsL : List (List UInt8) := [[45], [116], [49, 116, 116], [49, 116, 115], [49, 48, 48, 48, 48, 48], [49, 84], [43, 49], [49, 44, 50], [48, 116, 48], [48, 48]]
abbrev wvals : List Value := [str [45], str [116], str [49, 116, 116], str [49, 116, 115], str [49, 48, 48, 48, 48, 48], str [49, 84], str [43, 49], str [49, 44, 50], str [48, 116, 48], str [48, 48]]
theorem words_wrong : ∀ (j : Nat) (w : List UInt8), wordsL[j]? = some w → parseF ([55, 32] ++ w ++ [32, 56]) = .error 1 ∧ w.length ≤ 6 ∧ wvals[j]? = some (str w) := by
  intro j w h
  match j, h with
  | 0, h => cases h; exact ⟨rfl, by decide, rfl⟩
  | 1, h => cases h; exact ⟨rfl, by decide, rfl⟩
  | 2, h => cases h; exact ⟨rfl, by decide, rfl⟩
  | 3, h => cases h; exact ⟨rfl, by decide, rfl⟩
  | 4, h => cases h; exact ⟨rfl, by decide, rfl⟩
  | 5, h => cases h; exact ⟨rfl, by decide, rfl⟩
  | 6, h => cases h; exact ⟨rfl, by decide, rfl⟩
  | 7, h => cases h; exact ⟨rfl, by decide, rfl⟩
  | 8, h => cases h; exact ⟨rfl, by decide, rfl⟩
  | 9, h => cases h; exact ⟨rfl, by decide, rfl⟩
  | j + 10, h => simp at h
theorem k1 : printF oddL = [45, 32, 45, 32, 45, 32, 45, 32, 57, 57, 57, 57, 57, 115] := by decide +kernel
theorem k2 : parseF [48, 32, 48, 116, 32, 48, 115, 32, 57, 57, 57, 57, 57] = .ok [⟨0, 0⟩, ⟨0, 1⟩, ⟨0, 2⟩, ⟨99999, 0⟩] := rfl
theorem k3 : printF [⟨0, 0⟩, ⟨0, 1⟩, ⟨0, 2⟩, ⟨99999, 0⟩] = [48, 32, 48, 116, 32, 48, 115, 32, 57, 57, 57, 57, 57] := by decide +kernel
theorem k4 : printF [] = [] := rfl
theorem k5 : parseF [] = .ok [] := rfl
theorem k6 : parseF [48] = .ok [⟨0, 0⟩] := rfl
theorem f1 : fairF [] 0 1 = false := by decide +kernel
theorem f2 : fairF [] 1 0 = false := by decide +kernel
theorem f3 : fairF [] 1 1 = true := by decide +kernel
theorem f4 : fairF [] 4611686018427387904 1 = true := by
  unfold fairF
  rw [decide_eq_true (show (1 : Int) ≤ 4611686018427387904 ∧ (1 : Int) ≤ 1 by omega), decide_eq_true (show (([] : List Pk).length : Int) < 1 by simp)]; rfl
theorem f5 : fairF [⟨0, 0⟩] 4611686018427387904 1 = false := by
  unfold fairF
  rw [decide_eq_true (show (1 : Int) ≤ 4611686018427387904 ∧ (1 : Int) ≤ 1 by omega), decide_eq_false (show ¬ (([⟨0, 0⟩] : List Pk).length : Int) < 1 by simp), decide_eq_false (show ¬ (4611686018427387904 : Int) ≤ 1 by omega)]; rfl
theorem l1 : fillF [⟨0, 0⟩] 2 2 = [] := rfl
theorem l2 : fillF [] 0 5 = [] := rfl
theorem l3 : fillF [] (-1) 5 = [] := rfl
theorem d1 : decP [] = [] := rfl
attribute [local irreducible] SL.T PFn OpV SOL SWP HOp ChU printF parseF fairF fillF decP
-- ALIAS Tryz
theorem ScriptKnown_calls (G : Heap) [sg : Ges G] [pw : Pow G] : PFn Tryz.prog 7 [] [G] (.bool true) := by
  have p5 := Parse_calls [] (by decide)
  rw [k5] at p5
  unfold PQ at p5
  dsimp only at p5
  have p2 := parsed_calls _ _ (by decide) k2
  have p6 := parsed_calls _ _ (by decide) k6
  have hD := Decode_calls [] (by decide)
  rw [d1] at hD
  have g1 := fair_at G none 0 0 [] 0 1 _ (nil_flat G) rfl (by decide) f1
  have g2 := fair_at G none 0 0 [] 1 0 _ (nil_flat G) rfl (by decide) f2
  have g3 := fair_at G none 0 0 [] 1 1 _ (nil_flat G) rfl (by decide) f3
  have g4 := fair_at G none 0 0 [] 4611686018427387904 1 _ (nil_flat G) rfl (by decide) f4
  have q2 := fill_at G none 0 0 [] _ 0 5 (nil_flat G) rfl (by decide) (by decide) (by decide) l2 (by decide)
  have q3 := fill_at G none 0 0 [] _ (-1) 5 (nil_flat G) rfl (by decide) (by decide) (by decide) l3 (by decide)
  have ko : ∀ {own : List Heap} (b : Nat), SlIn own (some ⟨b, 0, none⟩) [i64 (-1), i64 0, i64 100000, i64 0, i64 0, i64 3, i64 0, i64 (-1), i64 99999, i64 2] → G ∈ own → PFn Tryz.prog 8 [.slice (some ⟨b, 0, none⟩) 5 5] own (str [45, 32, 45, 32, 45, 32, 45, 32, 57, 57, 57, 57, 57, 115]) := fun b hs hg => print_at G hg _ 5 5 oddL _ hs rfl (by decide) k1
  have kn : ∀ {own : List Heap}, G ∈ own → PFn Tryz.prog 8 [.slice none 0 0] own (str []) := fun hg => print_at G hg none 0 0 [] _ ⟨G, hg, nil_flat G⟩ rfl (by decide) k4
  simp only [List.length_cons, List.length_nil, Nat.zero_add, Nat.reduceAdd] at p2 p5 p6 hD q2 q3
  refine pure_of_body Tryz.func7 rfl (Nat.le_of_ble_eq_true rfl) fun F => ?_
  repeat' (first
    | refine swp_seq ?_
    | (refine gk 0 rfl ?_; first | refine sl_op rfl rfl rfl (by first | exact opv_move rfl rfl | exact opv_assign rfl rfl | exact opv_extract rfl rfl rfl ) ?_ )
    | (refine gk 4 rfl ?_; first | (refine sl_callT rfl rfl rfl rfl rfl rfl rfl rfl (p5) ?_; rintro _ _ ⟨h5, b5, c5, rfl, os5, rfl⟩; refine ⟨_, _, rfl, rfl, ?_⟩))
    | (refine gk 5 rfl ?_; first | refine sl_op rfl rfl rfl (by first | exact opv_build rfl rfl (by exact rfl) ) ?_ | refine sl_buildSlice rfl rfl rfl rfl rfl (by exact rfl) (by exact rfl) (by exact rfl) (by exact rfl) rfl (fun b => ?_) )
    | refine sl_region rfl ?_
    | refine sl_nil ?_
    | refine thn_k ?_
    | refine swp_block ?_
    )
  obtain ⟨bw, rfl⟩ : ∃ x, x = b := ⟨_, rfl⟩
  obtain ⟨bo, rfl⟩ : ∃ x, x = b := ⟨_, rfl⟩
  refine swp_loopS (fun j : Nat => [(1, .slice b5 0 c5), (2, .nilIface), (3, .slice (some ⟨bo, 0, none⟩) 5 5), (4, .slice (some ⟨bw, 0, none⟩) 10 10), (5, i64 (j : Int))])
    (fun _ => [blk bw (.cells ⟨wvals⟩ 9 (0, 0)), blk bo (.cells ⟨[i64 (-1), i64 0, i64 100000, i64 0, i64 0, i64 3, i64 0, i64 (-1), i64 99999, i64 2]⟩ 42 (0, 0)), h5, G]) (fun j => j ≤ 10) (fun j => 10 - j) 0 (by repeat first | exact Sub.nil _ | refine Sub.cons rfl ?_) (Nat.zero_le _) ?_
  intro j hj
  by_cases hj2 : j < 10
  · obtain ⟨w, hw⟩ : ∃ w, wordsL[j]? = some w := ⟨_, List.getElem?_eq_getElem (by simpa using hj2)⟩
    obtain ⟨hwr, hwl, hwv⟩ := words_wrong j w hw
    have hk : ((j : Nat) : Int).toNat * 1 < (wvals).length := by simp; omega
    have hcw : wvals[((j : Nat) : Int).toNat * 1]? = some (str w) := by rw [show ((j : Nat) : Int).toNat * 1 = j by simp]; exact hwv
    haveI slw : SlIn [blk bw (.cells ⟨wvals⟩ 9 (0, 0)), blk bo (.cells ⟨[i64 (-1), i64 0, i64 100000, i64 0, i64 0, i64 3, i64 0, i64 (-1), i64 99999, i64 2]⟩ 42 (0, 0)), h5, G] (some ⟨bw, 0, none⟩) (wvals) := ⟨_, List.mem_cons_self .., Sl.blk⟩
    have q := wrong_calls (G := G) _ _ (by simp only [List.length_append, List.length_cons, List.length_nil]; omega) hwr
    repeat' (first
      | refine sl_op rfl rfl rfl (opv_addS rfl rfl rfl (by simp only [List.length_append, List.length_cons, List.length_nil]; omega)) ?_
      | refine swp_seq ?_
      | (refine gk 0 rfl ?_; first | refine sl_op rfl rfl rfl (by first | exact opv_move rfl rfl | exact opv_assign rfl rfl | exact opv_not_t rfl rfl ) ?_ )
      | (refine gk 1 rfl ?_; first | refine sl_op rfl rfl rfl (by first | exact opv_add64 rfl rfl rfl (by omega) (by omega) ) ?_ )
      | (refine gk 2 rfl ?_; first | refine sl_yes rfl rfl rfl (by first | exact opv_lss rfl rfl rfl ) (by first | omega ) ?_ )
      | (refine gk 3 rfl ?_; first | refine sl_op rfl rfl rfl (by first | exact opv_indexAddrI rfl rfl rfl (by omega) (by omega) (by first | omega ) | exact opv_loadEx rfl (by exact rfl) (by infer_instance) (by first | assumption ) ) ?_ )
      | (refine gk 4 rfl ?_; first | refine sl_op rfl rfl rfl (by first | exact opv_len rfl rfl rfl rfl rfl ) ?_ | refine sl_op rfl rfl rfl (opv_call rfl rfl rfl rfl rfl (q)) ?_)
      | refine sl_region rfl ?_
      | refine sl_nil ?_
      | refine thn_k ?_
      | refine swp_true rfl ?_
      | refine swp_false rfl ?_
      | refine swp_block ?_
      | refine swp_skip ?_
      )
    exact ⟨rfl, j + 1, next_ok (by repeat first | exact Sub.nil _ | refine Sub.cons rfl ?_), by omega, by omega⟩
  · obtain rfl : j = 10 := by omega
    repeat' (first
      | refine sl_op rfl rfl rfl (opv_ifNil rfl rfl) ?_
      | refine sl_op rfl rfl rfl ((opv_eqlStr rfl rfl rfl).to (show _ = Value.bool true from rfl)) ?_
      | refine swp_seq ?_
      | (refine gk 0 rfl ?_; first | refine sl_op rfl rfl rfl (by first | exact opv_move rfl rfl | exact opv_assign rfl rfl | exact opv_pick_t rfl rfl rfl | exact opv_not_f rfl rfl ) ?_ )
      | (refine gk 2 rfl ?_; first | refine sl_yes rfl rfl rfl (by first | exact opv_lss rfl rfl rfl | exact opv_eql rfl rfl rfl ) (by first | omega | decide +kernel) ?_ | refine sl_no rfl rfl rfl (by first | exact opv_lss rfl rfl rfl ) (by first | omega ) ?_ )
      | (refine gk 4 rfl ?_; first | refine sl_op rfl rfl rfl (by first | exact opv_len rfl rfl rfl rfl rfl ) ?_ | refine sl_op rfl rfl rfl (opv_call rfl rfl rfl rfl rfl (works_calls (G := G))) ?_ | (refine sl_callT rfl rfl rfl rfl rfl rfl rfl rfl (p2) ?_; rintro _ _ ⟨h2, b2, c2, rfl, os2, rfl⟩; refine ⟨_, _, rfl, rfl, ?_⟩) | (refine sl_callT rfl rfl rfl rfl rfl rfl rfl rfl (p6) ?_; rintro _ _ ⟨h6, b6, c6, rfl, os6, rfl⟩; refine ⟨_, _, rfl, rfl, ?_⟩) | (refine sl_callT rfl rfl rfl rfl rfl rfl rfl rfl (hD) ?_; rintro _ _ ⟨hD1, bD, cD, rfl, osD, rfl⟩; refine ⟨_, _, rfl, rfl, ?_⟩) | refine sl_op rfl rfl rfl (opv_callW rfl rfl rfl rfl rfl (ko _ (by infer_instance) (by simp))) ?_ | refine sl_op rfl rfl rfl (opv_callW rfl rfl rfl rfl rfl (kn (by simp))) ?_ | refine sl_op rfl rfl rfl (opv_callW rfl rfl rfl rfl rfl (print_at G (by simp) _ _ _ _ _ ⟨_, by simp, os2.sl⟩ rfl (by decide) k3)) ?_ | refine sl_op rfl rfl rfl (opv_call rfl rfl rfl rfl rfl (g1)) ?_ | refine sl_op rfl rfl rfl (opv_call rfl rfl rfl rfl rfl (g2)) ?_ | refine sl_op rfl rfl rfl (opv_call rfl rfl rfl rfl rfl (g3)) ?_ | refine sl_op rfl rfl rfl (opv_call rfl rfl rfl rfl rfl (g4)) ?_ | refine sl_op rfl rfl rfl (opv_call rfl rfl rfl rfl rfl (fair_at _ _ _ _ _ _ _ _ os6.sl rfl (by decide) f5)) ?_ | (refine sl_callT rfl rfl rfl rfl rfl rfl rfl rfl (fill_at _ _ _ _ _ _ _ _ os6.sl rfl (by decide) (by decide) (by decide) l1 (by decide)) ?_; rintro _ _ ⟨h7, b7, c7, rfl, os7, rfl⟩; refine ⟨_, _, rfl, rfl, ?_⟩) | (refine sl_callT rfl rfl rfl rfl rfl rfl rfl rfl (q2) ?_; rintro _ _ ⟨h8, b8, c8, rfl, os8, rfl⟩; refine ⟨_, _, rfl, rfl, ?_⟩) | (refine sl_callT rfl rfl rfl rfl rfl rfl rfl rfl (q3) ?_; rintro _ _ ⟨h9, b9, c9, rfl, os9, rfl⟩; refine ⟨_, _, rfl, rfl, ?_⟩))
      | refine sl_region rfl ?_
      | refine sl_nil ?_
      | refine thn_k ?_
      | refine swp_false rfl ?_
      | refine swp_ret ?_
      | refine swp_exit ?_
      )
    refine end_pure (resOk_one (resV_tmp rfl)) ?_
    rfl
end Go.Proofs.YtobcmglbdmaceaaGreatDoor
