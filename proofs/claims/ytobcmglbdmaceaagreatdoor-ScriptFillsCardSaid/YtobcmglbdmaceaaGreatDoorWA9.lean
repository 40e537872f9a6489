/- The pick of a word: walked. -/
import Derived.Test.YtobcmglbdmaceaaGreatDoorWA8
set_option linter.unusedVariables false
set_option linter.unusedSimpArgs false
set_option linter.unusedSectionVars false
namespace Go.Proofs.YtobcmglbdmaceaaGreatDoor
open Go.SL
set_option maxRecDepth 100000
set_option maxHeartbeats 16000000
/-- What pick answers. -/
def pickV (s : List UInt8) : Value := match pickF s with
  | some p => .tuple ⟨[.agg ⟨[i64 p.th, i64 p.kd]⟩, .bool true]⟩
  | none => .tuple ⟨[.agg ⟨[i64 0, i64 0]⟩, .bool false]⟩
attribute [local irreducible] SL.T PFn OpV SOL SWP HOp ChU
-- ALIAS Tryz
structure SM where
  seen : Array Nat
theorem pick_calls (s : List UInt8) (hs : s.length ≤ 1000000) : PFn Tryz.prog 25 [str s] [] (pickV s) := by
  have hL := letters_calls
  refine pure_of_body Tryz.func25 rfl (Nat.le_of_ble_eq_true rfl) fun F => ?_
  repeat' ((fail_if_success (refine stop_at 1 ?_)); (first
    | refine swp_seq ?_
    | (refine gk 0 rfl ?_; first | refine sl_op rfl rfl rfl (by first | exact opv_assign rfl rfl ) ?_ )
    | (refine gk 5 rfl ?_; first | refine sl_alloc rfl rfl rfl rfl (by exact rfl) (fun β => ?_) )
    | refine sl_region rfl ?_
    | refine sl_nil ?_
    ))
  obtain ⟨β2, rfl⟩ : ∃ x, x = β := ⟨_, rfl⟩
  refine swp_seq ?_
  refine swp_joinS (S := Unit) (fun _ => [(0, str (stripF s).1), (2, ptr β2)]) (fun _ => [blk β2 (.cells ⟨[i64 0, i64 (stripF s).2]⟩ 42 (0, 0))]) (fun _ => True) ?_ ?_
  · repeat' (first
      | refine sl_rangeM (m := bM) (es := lets) (clk := 3) rfl rfl rfl rfl rfl (fun βr => ?_)
      | refine swp_seq ?_
      | (refine gk 4 rfl ?_; first | (refine sl_callT rfl rfl rfl rfl rfl rfl rfl rfl (hL) ?_; rintro _ _ ⟨bM, rfl, rfl⟩; refine ⟨_, _, rfl, rfl, ?_⟩))
      | refine sl_region rfl ?_
      | refine sl_nil ?_
      | refine thn_k ?_
      | refine swp_block ?_
      )
    refine swp_loopS (fun t : SM => [(0, str s), (2, ptr β2), (9, ptr βr)])
      (fun t => [blk βr (.mapIter (some bM) 3 t.seen 3), lettersH bM, blk β2 (.cells ⟨[i64 0, i64 0]⟩ 42 (0, 0))])
      (fun t => (t.seen.contains 1 = true → Lib.hasSuffix s [116] = false) ∧ (t.seen.contains 2 = true → Lib.hasSuffix s [115] = false))
      (fun t => (leftOf lets t.seen).size) ⟨#[]⟩ (by repeat first | exact Sub.nil _ | refine Sub.cons rfl ?_) ⟨fun h => by simp at h, fun h => by simp at h⟩ ?_
    rintro ⟨seen⟩ ⟨hi1, hi2⟩
    dsimp only at hi1 hi2 ⊢
    repeat' (first
      | refine swp_seq ?_
      | refine sl_region rfl ?_
      )
    refine sl_hop (hs := [blk βr (.mapIter (some bM) 3 seen 3), lettersH bM]) rfl rfl rfl (hop_next rfl rfl (by intro e he; simp [lets] at he; rcases he with rfl | rfl | rfl <;> decide) (Nat.le_refl _)) ?_
    rintro v own' (⟨hall, rfl, rfl⟩ | ⟨e, he, hseen, rfl, rfl⟩) <;> refine ⟨_, rfl, ?_⟩
    · have h1 := hi1 (hall ⟨i64 1, str [116], 1⟩ (by simp [lets]))
      have h2 := hi2 (hall ⟨i64 2, str [115], 2⟩ (by simp [lets]))
      have hst : stripF s = (s, 0) := by unfold stripF; rw [if_neg (by rw [h1]; decide), if_neg (by rw [h2]; decide)]
      rw [hst]
      repeat' (first
        | refine swp_seq ?_
        | (refine gk 0 rfl ?_; first | refine sl_op rfl rfl rfl (by first | exact opv_extract rfl rfl rfl ) ?_ )
        | refine sl_nil ?_
        | refine thn_k ?_
        | refine swp_false rfl ?_
        | refine swp_exit ?_
        | refine thn_exit ?_
        | refine inb_exit ?_
        )
      exact ⟨rfl, (), next_ok (by repeat first | exact Sub.nil _ | refine Sub.cons rfl ?_), trivial⟩
    · have hsh := left_shrinks lets seen e (by simp only [leftOf, Array.toList_filter, List.mem_filter]; exact ⟨he, by rw [hseen]; rfl⟩)
      have hnd : (lets.toList.map (·.born)).Nodup := by decide
      have he2 := he
      simp only [lets, List.mem_cons, List.not_mem_nil, or_false] at he2
      rcases he2 with rfl | rfl | rfl
      · have hc := CutSuffix_calls s [] hs
        rw [suffix_nil, trim_nil0] at hc
        repeat' (first
          | refine sl_op rfl rfl rfl (opv_entry (r := βr) (m := bM) (since := 3) (clock := 3) (seen := seen) (es := lets) (e := ⟨i64 0, str [], 0⟩) rfl rfl he hnd) ?_
          | refine sl_ff rfl rfl rfl (opv_neqStr rfl rfl rfl) (by simp) ?_
          | refine swp_seq ?_
          | (refine gk 0 rfl ?_; first | refine sl_op rfl rfl rfl (by first | exact opv_move rfl rfl | exact opv_assign rfl rfl | exact opv_pick_t rfl rfl rfl | exact opv_extract rfl rfl rfl ) ?_ )
          | (refine gk 4 rfl ?_; first | refine sl_op rfl rfl rfl (opv_call rfl rfl rfl rfl rfl (hc)) ?_)
          | refine sl_region rfl ?_
          | refine sl_nil ?_
          | refine thn_k ?_
          | refine swp_true rfl ?_
          | refine swp_false rfl ?_
          | refine swp_block ?_
          | refine swp_skip ?_
          | refine inb_k ?_
          )
        exact ⟨rfl, ⟨seen.push 0⟩, next_ok (by repeat first | exact Sub.nil _ | refine Sub.cons rfl ?_), ⟨fun h => hi1 (by simpa using h), fun h => hi2 (by simpa using h)⟩, hsh⟩
      · have hc := CutSuffix_calls s [116] hs
        cases hb : Lib.hasSuffix s [116] with
        | false =>
          rw [hb] at hc
          repeat' (first
            | refine sl_op rfl rfl rfl (opv_entry (r := βr) (m := bM) (since := 3) (clock := 3) (seen := seen) (es := lets) (e := ⟨i64 1, str [116], 1⟩) rfl rfl he hnd) ?_
            | refine swp_seq ?_
            | (refine gk 0 rfl ?_; first | refine sl_op rfl rfl rfl (by first | exact opv_move rfl rfl | exact opv_assign rfl rfl | exact opv_pick_f rfl rfl rfl | exact opv_extract rfl rfl rfl ) ?_ | refine sl_pass rfl rfl rfl rfl ?_)
            | (refine gk 2 rfl ?_; first | refine sl_pass rfl rfl rfl rfl ?_ )
            | (refine gk 4 rfl ?_; first | refine sl_op rfl rfl rfl (opv_call rfl rfl rfl rfl rfl (hc)) ?_)
            | refine sl_region rfl ?_
            | refine sl_nil ?_
            | refine thn_k ?_
            | refine swp_true rfl ?_
            | refine swp_false rfl ?_
            | refine swp_block ?_
            | refine swp_skip ?_
            | refine inb_k ?_
            )
          exact ⟨rfl, ⟨seen.push 1⟩, next_ok (by repeat first | exact Sub.nil _ | refine Sub.cons rfl ?_), ⟨fun h => rfl, fun h => hi2 (by simpa using h)⟩, hsh⟩
        | true =>
          rw [hb] at hc
          have hst : stripF s = (Lib.trimSuffix s [116], 1) := by unfold stripF; rw [if_pos hb]
          rw [hst]
          repeat' (first
            | refine sl_op rfl rfl rfl (opv_entry (r := βr) (m := bM) (since := 3) (clock := 3) (seen := seen) (es := lets) (e := ⟨i64 1, str [116], 1⟩) rfl rfl he hnd) ?_
            | refine sl_tt rfl rfl rfl (opv_neqStr rfl rfl rfl) (by simp) ?_
            | refine swp_seq ?_
            | (refine gk 0 rfl ?_; first | refine sl_op rfl rfl rfl (by first | exact opv_move rfl rfl | exact opv_assign rfl rfl | exact opv_pick_t rfl rfl rfl | exact opv_extract rfl rfl rfl ) ?_ )
            | (refine gk 3 rfl ?_; first | refine sl_op rfl rfl rfl (by first | exact opv_fieldAddr rfl rfl ) ?_ )
            | (refine gk 4 rfl ?_; first | refine sl_op rfl rfl rfl (opv_call rfl rfl rfl rfl rfl (hc)) ?_)
            | (refine gk 5 rfl ?_; first | refine sl_store rfl rfl rfl rfl rfl rfl (by exact rfl) rfl (by exact rfl) ?_)
            | refine sl_region rfl ?_
            | refine sl_nil ?_
            | refine thn_k ?_
            | refine swp_true rfl ?_
            | refine swp_block ?_
            | refine swp_exit ?_
            | refine swp_skip ?_
            | refine thn_exit ?_
            | refine inb_exit ?_
            | refine inb_out rfl ?_)
          exact ⟨rfl, (), next_ok (by repeat first | exact Sub.nil _ | refine Sub.cons rfl ?_), trivial⟩
      · have hc := CutSuffix_calls s [115] hs
        cases hb : Lib.hasSuffix s [115] with
        | false =>
          rw [hb] at hc
          repeat' (first
            | refine sl_op rfl rfl rfl (opv_entry (r := βr) (m := bM) (since := 3) (clock := 3) (seen := seen) (es := lets) (e := ⟨i64 2, str [115], 2⟩) rfl rfl he hnd) ?_
            | refine swp_seq ?_
            | (refine gk 0 rfl ?_; first | refine sl_op rfl rfl rfl (by first | exact opv_move rfl rfl | exact opv_assign rfl rfl | exact opv_pick_f rfl rfl rfl | exact opv_extract rfl rfl rfl ) ?_ | refine sl_pass rfl rfl rfl rfl ?_)
            | (refine gk 2 rfl ?_; first | refine sl_pass rfl rfl rfl rfl ?_ )
            | (refine gk 4 rfl ?_; first | refine sl_op rfl rfl rfl (opv_call rfl rfl rfl rfl rfl (hc)) ?_)
            | refine sl_region rfl ?_
            | refine sl_nil ?_
            | refine thn_k ?_
            | refine swp_true rfl ?_
            | refine swp_false rfl ?_
            | refine swp_block ?_
            | refine swp_skip ?_
            | refine inb_k ?_
            )
          exact ⟨rfl, ⟨seen.push 2⟩, next_ok (by repeat first | exact Sub.nil _ | refine Sub.cons rfl ?_), ⟨fun h => hi1 (by simpa using h), fun h => rfl⟩, hsh⟩
        | true =>
          rw [hb] at hc
          have hst : stripF s = (Lib.trimSuffix s [115], 2) := by unfold stripF; rw [if_neg (by rw [suffix_other hb (by decide)]; decide), if_pos hb]
          rw [hst]
          repeat' (first
            | refine sl_op rfl rfl rfl (opv_entry (r := βr) (m := bM) (since := 3) (clock := 3) (seen := seen) (es := lets) (e := ⟨i64 2, str [115], 2⟩) rfl rfl he hnd) ?_
            | refine sl_tt rfl rfl rfl (opv_neqStr rfl rfl rfl) (by simp) ?_
            | refine swp_seq ?_
            | (refine gk 0 rfl ?_; first | refine sl_op rfl rfl rfl (by first | exact opv_move rfl rfl | exact opv_assign rfl rfl | exact opv_pick_t rfl rfl rfl | exact opv_extract rfl rfl rfl ) ?_ )
            | (refine gk 3 rfl ?_; first | refine sl_op rfl rfl rfl (by first | exact opv_fieldAddr rfl rfl ) ?_ )
            | (refine gk 4 rfl ?_; first | refine sl_op rfl rfl rfl (opv_call rfl rfl rfl rfl rfl (hc)) ?_)
            | (refine gk 5 rfl ?_; first | refine sl_store rfl rfl rfl rfl rfl rfl (by exact rfl) rfl (by exact rfl) ?_)
            | refine sl_region rfl ?_
            | refine sl_nil ?_
            | refine thn_k ?_
            | refine swp_true rfl ?_
            | refine swp_block ?_
            | refine swp_exit ?_
            | refine swp_skip ?_
            | refine thn_exit ?_
            | refine inb_exit ?_
            | refine inb_out rfl ?_)
          exact ⟨rfl, (), next_ok (by repeat first | exact Sub.nil _ | refine Sub.cons rfl ?_), trivial⟩
  · rintro - -
    have hsl := stripF_len s
    unfold pickV pickF
    generalize (stripF s).1 = d at hsl ⊢
    generalize (stripF s).2 = k
    have hT := Trim_calls d digs (by omega) (by decide) (by decide)
    match d, hsl, hT with
    | [], hsl, hT =>
      have hf : decF [] = none := by decide
      rw [hf]
      repeat' (first
        | refine sl_tt rfl rfl rfl (opv_eqlStr rfl rfl rfl) (by simp) ?_
        | refine swp_seq ?_
        | (refine gk 0 rfl ?_; first | refine sl_op rfl rfl rfl (by first | exact opv_move rfl rfl | exact opv_assign rfl rfl | exact opv_pick_t rfl rfl rfl ) ?_ | refine sl_pass rfl rfl rfl rfl ?_)
        | (refine gk 2 rfl ?_; first | refine sl_pass rfl rfl rfl rfl ?_ )
        | (refine gk 3 rfl ?_; first | refine sl_pass rfl rfl rfl rfl ?_)
        | (refine gk 4 rfl ?_; first | refine sl_pass rfl rfl rfl rfl ?_ )
        | (refine gk 5 rfl ?_; first | refine sl_op rfl rfl rfl (by first | exact opv_build rfl rfl (by exact rfl) ) ?_ | refine sl_store rfl rfl rfl rfl rfl rfl (by exact rfl) rfl (by exact rfl) ?_)
        | refine sl_region rfl ?_
        | refine sl_nil ?_
        | refine thn_k ?_
        | refine swp_true rfl ?_
        | refine swp_ret ?_
        | refine thn_ret ?_
        )
      exact end_pure (resOk_two (resV_cellA rfl rfl rfl rfl) (resV_tmp rfl)) rfl
    | b0 :: r, hsl, hT =>
      have hb0 : (b0 :: r)[(0 : Int).toNat]? = some b0 := rfl
      have hlb := b0.toNat_lt
      by_cases h5 : 5 < (b0 :: r).length
      · have hf : decF (b0 :: r) = none := by unfold decF; rw [if_pos (.inl h5)]
        rw [hf]
        repeat' (first
          | refine sl_ff rfl rfl rfl (opv_eqlStr rfl rfl rfl) (by simp) ?_
          | refine sl_op rfl rfl rfl (opv_lenS rfl rfl rfl rfl rfl) ?_
          | refine swp_seq ?_
          | (refine gk 0 rfl ?_; first | refine sl_op rfl rfl rfl (by first | exact opv_move rfl rfl | exact opv_assign rfl rfl | exact opv_pick_t rfl rfl rfl | exact opv_pick_f rfl rfl rfl ) ?_ | refine sl_pass rfl rfl rfl rfl ?_)
          | (refine gk 2 rfl ?_; first | refine sl_pass rfl rfl rfl rfl ?_ | refine sl_yes rfl rfl rfl (by first | exact opv_gtr rfl rfl rfl ) (by first | omega ) ?_ )
          | (refine gk 3 rfl ?_; first | refine sl_pass rfl rfl rfl rfl ?_)
          | (refine gk 4 rfl ?_; first | refine sl_pass rfl rfl rfl rfl ?_ )
          | (refine gk 5 rfl ?_; first | refine sl_op rfl rfl rfl (by first | exact opv_build rfl rfl (by exact rfl) ) ?_ | refine sl_store rfl rfl rfl rfl rfl rfl (by exact rfl) rfl (by exact rfl) ?_)
          | refine sl_region rfl ?_
          | refine sl_nil ?_
          | refine thn_k ?_
          | refine swp_true rfl ?_
          | refine swp_ret ?_
          | refine thn_ret ?_
          )
        exact end_pure (resOk_two (resV_cellA rfl rfl rfl rfl) (resV_tmp rfl)) rfl
      · by_cases h48 : b0.toNat = 48 ∧ 1 < (b0 :: r).length
        · have hf : decF (b0 :: r) = none := by
            unfold decF; rw [if_pos (.inr ⟨by rw [List.head?_cons]; congr 1; exact UInt8.toNat_inj.1 h48.1, h48.2⟩)]
          rw [hf]
          obtain ⟨h48, h1⟩ := h48
          repeat' (first
            | refine sl_ff rfl rfl rfl (opv_eqlStr rfl rfl rfl) (by simp) ?_
            | refine sl_op rfl rfl rfl (opv_lenS rfl rfl rfl rfl rfl) ?_
            | refine sl_op rfl rfl rfl (opv_indexS rfl rfl rfl (by omega) hb0) ?_
            | refine swp_seq ?_
            | (refine gk 0 rfl ?_; first | refine sl_op rfl rfl rfl (by first | exact opv_move rfl rfl | exact opv_assign rfl rfl | exact opv_pick_t rfl rfl rfl | exact opv_pick_f rfl rfl rfl ) ?_ | refine sl_pass rfl rfl rfl rfl ?_)
            | (refine gk 2 rfl ?_; first | refine sl_pass rfl rfl rfl rfl ?_ | refine sl_yes rfl rfl rfl (by first | exact opv_gtr rfl rfl rfl | exact opv_eql rfl rfl rfl ) (by first | omega ) ?_ | refine sl_no rfl rfl rfl (by first | exact opv_gtr rfl rfl rfl ) (by first | omega ) ?_ )
            | (refine gk 4 rfl ?_; first | refine sl_pass rfl rfl rfl rfl ?_ )
            | (refine gk 5 rfl ?_; first | refine sl_op rfl rfl rfl (by first | exact opv_build rfl rfl (by exact rfl) ) ?_ | refine sl_store rfl rfl rfl rfl rfl rfl (by exact rfl) rfl (by exact rfl) ?_)
            | refine sl_region rfl ?_
            | refine sl_nil ?_
            | refine thn_k ?_
            | refine swp_true rfl ?_
            | refine swp_ret ?_
            | refine thn_ret ?_
            )
          exact end_pure (resOk_two (resV_cellA rfl rfl rfl rfl) (resV_tmp rfl)) rfl
        · have hf : decF (b0 :: r) = Lib.decNat (b0 :: r) := by
            unfold decF
            rw [if_neg]
            rintro (h | ⟨h, h1⟩)
            · exact h5 h
            · rw [List.head?_cons] at h
              exact h48 ⟨by rw [Option.some.inj h]; rfl, h1⟩
          rw [hf]
          by_cases hall : ∀ b ∈ b0 :: r, digs.contains b = true
          · obtain ⟨m, hm⟩ := decNat_all (by simp) hall
            have ht : Lib.trimS (b0 :: r) digs = [] := (trimS_nil _ _).2 hall
            have ha := Atoi_calls (b0 :: r) (m : Int) (by omega) (atoi_of hm)
            rw [ht] at hT
            rw [hm]
            by_cases e48 : b0.toNat = 48
            · have h1 : ¬ 1 < (b0 :: r).length := fun h => h48 ⟨e48, h⟩
              repeat' (first
                | refine sl_ff rfl rfl rfl (opv_eqlStr rfl rfl rfl) (by simp) ?_
                | refine sl_ff rfl rfl rfl (opv_neqStr rfl rfl rfl) (by simp) ?_
                | refine sl_op rfl rfl rfl (opv_lenS rfl rfl rfl rfl rfl) ?_
                | refine sl_op rfl rfl rfl (opv_indexS rfl rfl rfl (by omega) hb0) ?_
                | refine swp_seq ?_
                | (refine gk 0 rfl ?_; first | refine sl_op rfl rfl rfl (by first | exact opv_move rfl rfl | exact opv_assign rfl rfl | exact opv_pick_t rfl rfl rfl | exact opv_pick_f rfl rfl rfl | exact opv_extract rfl rfl rfl ) ?_ )
                | (refine gk 2 rfl ?_; first | refine sl_yes rfl rfl rfl (by first | exact opv_gtr rfl rfl rfl | exact opv_eql rfl rfl rfl ) (by first | omega ) ?_ | refine sl_no rfl rfl rfl (by first | exact opv_gtr rfl rfl rfl ) (by first | omega ) ?_ )
                | (refine gk 3 rfl ?_; first | refine sl_op rfl rfl rfl (by first | exact opv_fieldAddr rfl rfl | exact opv_loadA rfl (by exact rfl) rfl (by exact rfl) (by exact rfl) ) ?_ )
                | (refine gk 4 rfl ?_; first | refine sl_op rfl rfl rfl (opv_call rfl rfl rfl rfl rfl (hT)) ?_ | refine sl_op rfl rfl rfl (opv_call rfl rfl rfl rfl rfl (ha)) ?_)
                | (refine gk 5 rfl ?_; first | refine sl_store rfl rfl rfl rfl rfl rfl (by exact rfl) rfl (by exact rfl) ?_)
                | refine sl_region rfl ?_
                | refine sl_nil ?_
                | refine thn_k ?_
                | refine swp_false rfl ?_
                | refine swp_ret ?_
                | refine swp_skip ?_
                )
              exact end_pure (resOk_two (resV_cellA rfl rfl rfl rfl) (resV_tmp rfl)) rfl
            · repeat' (first
                | refine sl_ff rfl rfl rfl (opv_eqlStr rfl rfl rfl) (by simp) ?_
                | refine sl_ff rfl rfl rfl (opv_neqStr rfl rfl rfl) (by simp) ?_
                | refine sl_op rfl rfl rfl (opv_lenS rfl rfl rfl rfl rfl) ?_
                | refine sl_op rfl rfl rfl (opv_indexS rfl rfl rfl (by omega) hb0) ?_
                | refine swp_seq ?_
                | (refine gk 0 rfl ?_; first | refine sl_op rfl rfl rfl (by first | exact opv_move rfl rfl | exact opv_assign rfl rfl | exact opv_pick_f rfl rfl rfl | exact opv_extract rfl rfl rfl ) ?_ | refine sl_pass rfl rfl rfl rfl ?_)
                | (refine gk 2 rfl ?_; first | refine sl_pass rfl rfl rfl rfl ?_ | refine sl_no rfl rfl rfl (by first | exact opv_gtr rfl rfl rfl | exact opv_eql rfl rfl rfl ) (by first | omega ) ?_ )
                | (refine gk 3 rfl ?_; first | refine sl_op rfl rfl rfl (by first | exact opv_fieldAddr rfl rfl | exact opv_loadA rfl (by exact rfl) rfl (by exact rfl) (by exact rfl) ) ?_ )
                | (refine gk 4 rfl ?_; first | refine sl_pass rfl rfl rfl rfl ?_ | refine sl_op rfl rfl rfl (opv_call rfl rfl rfl rfl rfl (hT)) ?_ | refine sl_op rfl rfl rfl (opv_call rfl rfl rfl rfl rfl (ha)) ?_)
                | (refine gk 5 rfl ?_; first | refine sl_store rfl rfl rfl rfl rfl rfl (by exact rfl) rfl (by exact rfl) ?_)
                | refine sl_region rfl ?_
                | refine sl_nil ?_
                | refine thn_k ?_
                | refine swp_false rfl ?_
                | refine swp_ret ?_
                | refine swp_skip ?_
                )
              exact end_pure (resOk_two (resV_cellA rfl rfl rfl rfl) (resV_tmp rfl)) rfl
          · have hm := decNat_not hall
            have ht : Lib.trimS (b0 :: r) digs ≠ [] := fun e => hall ((trimS_nil _ _).1 e)
            rw [hm]
            generalize Lib.trimS (b0 :: r) digs = tr at hT ht
            by_cases e48 : b0.toNat = 48
            · have h1 : ¬ 1 < (b0 :: r).length := fun h => h48 ⟨e48, h⟩
              repeat' (first
                | refine sl_ff rfl rfl rfl (opv_eqlStr rfl rfl rfl) (by simp) ?_
                | refine sl_tt rfl rfl rfl (opv_neqStr rfl rfl rfl) (by simpa using ht) ?_
                | refine sl_op rfl rfl rfl (opv_lenS rfl rfl rfl rfl rfl) ?_
                | refine sl_op rfl rfl rfl (opv_indexS rfl rfl rfl (by omega) hb0) ?_
                | refine swp_seq ?_
                | (refine gk 0 rfl ?_; first | refine sl_op rfl rfl rfl (by first | exact opv_move rfl rfl | exact opv_assign rfl rfl | exact opv_pick_t rfl rfl rfl | exact opv_pick_f rfl rfl rfl ) ?_ )
                | (refine gk 2 rfl ?_; first | refine sl_yes rfl rfl rfl (by first | exact opv_gtr rfl rfl rfl | exact opv_eql rfl rfl rfl ) (by first | omega ) ?_ | refine sl_no rfl rfl rfl (by first | exact opv_gtr rfl rfl rfl ) (by first | omega ) ?_ )
                | (refine gk 4 rfl ?_; first | refine sl_op rfl rfl rfl (opv_call rfl rfl rfl rfl rfl (hT)) ?_)
                | (refine gk 5 rfl ?_; first | refine sl_op rfl rfl rfl (by first | exact opv_build rfl rfl (by exact rfl) ) ?_ | refine sl_store rfl rfl rfl rfl rfl rfl (by exact rfl) rfl (by exact rfl) ?_)
                | refine sl_region rfl ?_
                | refine sl_nil ?_
                | refine thn_k ?_
                | refine swp_true rfl ?_
                | refine swp_ret ?_
                | refine thn_ret ?_
                )
              exact end_pure (resOk_two (resV_cellA rfl rfl rfl rfl) (resV_tmp rfl)) rfl
            · repeat' (first
                | refine sl_ff rfl rfl rfl (opv_eqlStr rfl rfl rfl) (by simp) ?_
                | refine sl_tt rfl rfl rfl (opv_neqStr rfl rfl rfl) (by simpa using ht) ?_
                | refine sl_op rfl rfl rfl (opv_lenS rfl rfl rfl rfl rfl) ?_
                | refine sl_op rfl rfl rfl (opv_indexS rfl rfl rfl (by omega) hb0) ?_
                | refine swp_seq ?_
                | (refine gk 0 rfl ?_; first | refine sl_op rfl rfl rfl (by first | exact opv_move rfl rfl | exact opv_assign rfl rfl | exact opv_pick_f rfl rfl rfl ) ?_ | refine sl_pass rfl rfl rfl rfl ?_)
                | (refine gk 2 rfl ?_; first | refine sl_pass rfl rfl rfl rfl ?_ | refine sl_no rfl rfl rfl (by first | exact opv_gtr rfl rfl rfl | exact opv_eql rfl rfl rfl ) (by first | omega ) ?_ )
                | (refine gk 4 rfl ?_; first | refine sl_pass rfl rfl rfl rfl ?_ | refine sl_op rfl rfl rfl (opv_call rfl rfl rfl rfl rfl (hT)) ?_)
                | (refine gk 5 rfl ?_; first | refine sl_op rfl rfl rfl (by first | exact opv_build rfl rfl (by exact rfl) ) ?_ | refine sl_store rfl rfl rfl rfl rfl rfl (by exact rfl) rfl (by exact rfl) ?_)
                | refine sl_region rfl ?_
                | refine sl_nil ?_
                | refine thn_k ?_
                | refine swp_true rfl ?_
                | refine swp_ret ?_
                | refine thn_ret ?_
                )
              exact end_pure (resOk_two (resV_cellA rfl rfl rfl rfl) (resV_tmp rfl)) rfl
end Go.Proofs.YtobcmglbdmaceaaGreatDoor
