/- The law ScriptWrites, walked. -/
import Derived.Test.YtobcmglbdmaceaaGreatDoorWC3
import Derived.Test.YtobcmglbdmaceaaGreatDoorWC4
import Derived.Test.YtobcmglbdmaceaaGreatDoorWC6
set_option linter.unusedVariables false
set_option linter.unusedSimpArgs false
set_option linter.unusedSectionVars false
namespace Go.Proofs.YtobcmglbdmaceaaGreatDoor
open Go.SL
set_option maxRecDepth 100000
set_option maxHeartbeats 16000000
theorem flatP_take (l : List Pk) (k : Nat) : (flatP l).take (k * 2) = flatP (l.take k) := by
  induction l generalizing k with
  | nil => simp [flatP]
  | cons p l ih =>
    cases k with
    | zero => simp [flatP]
    | succ k =>
      rw [show (k + 1) * 2 = k * 2 + 1 + 1 by omega]
      simp [flatP, ih]
theorem printF_len (l : List Pk) : (printF l).length ≤ l.length * 7 := by
  have := join_len [32] 6 (l.map wordP) (fun x hx => by obtain ⟨p, -, rfl⟩ := List.mem_map.1 hx; exact wordP_len p)
  simpa [printF] using this
theorem parseW_len : ∀ (ws : List (List UInt8)) (acc : List Pk) {q : List Pk}, parseW ws acc = .ok q → q.length ≤ acc.length + ws.length
  | [], acc, q, h => by rw [parseW] at h; cases h; omega
  | w :: ws, acc, q, h => by
    rw [parseW] at h
    split at h
    · have := parseW_len ws acc h; simp; omega
    · split at h
      · have := parseW_len ws _ h; simp at this ⊢; omega
      · cases h
theorem parse_len {s : List UInt8} {q : List Pk} (h : parseF s = .ok q) (hs : s.length ≤ 900000) : q.length ≤ 1000000 := by
  have h1 := parseW_len (pcs s) [] h
  have h2 := (pcs_len s).1
  simp at h1; omega
attribute [local irreducible] SL.T PFn OpV SOL SWP HOp ChU printF parseF fairF fillF decP
-- ALIAS Tryz
theorem ScriptWrites_calls (J : Heap) [sg : Ges J] [pw : Pow J] (b : Option Addr) (n c : Nat) (l : List Pk) (s : List UInt8) (sl : Sl J b (flatP l)) (hl : l.length = n) (hnc : n ≤ c) (hs : s.length ≤ 9223372036854775807) (hn : n ≤ 9223372036854775807) :
    PFn Tryz.prog 3 [.slice b n c, str s] [J] (.bool true) := by
  obtain ⟨k, hk, hk2⟩ : ∃ k : Nat, min (n : Int) 60 = (k : Int) ∧ k = min n 60 := ⟨min n 60, by omega, rfl⟩
  obtain ⟨m, hm, hm2⟩ : ∃ k : Nat, min (s.length : Int) 100 = (k : Int) ∧ k = min s.length 100 := ⟨min s.length 100, by omega, rfl⟩
  obtain ⟨l1, hl1⟩ : ∃ x, x = l.take k := ⟨_, rfl⟩
  obtain ⟨s1, hs1⟩ : ∃ x, x = s.take (m : Int).toNat := ⟨_, rfl⟩
  have hl1l : l1.length = k := by rw [hl1, List.length_take]; omega
  have hs1l : s1.length ≤ 100 := by rw [hs1, List.length_take]; omega
  have sl1 : Sl J b (flatP l1) := by rw [hl1, ← flatP_take]; exact sl.take _
  have p1 := Print_calls J b k c l1 sl1 hl1l (by omega)
  have p2 := rPrint_calls J b k c l1 sl1 hl1l (by omega)
  obtain ⟨t, ht⟩ : ∃ t, t = printF l1 := ⟨_, rfl⟩
  have htl : t.length ≤ 420 := by have := printF_len l1; rw [ht]; omega
  rw [← ht] at p1 p2
  refine pure_of_body Tryz.func3 rfl (Nat.le_of_ble_eq_true rfl) fun F => ?_
  repeat' (first
    | refine sl_op rfl rfl rfl (opv_lenS rfl rfl rfl rfl rfl) ?_
    | refine sl_op rfl rfl rfl ((opv_min rfl rfl rfl rfl rfl).to (congrArg (Value.int .i64) hk)) ?_
    | refine sl_op rfl rfl rfl ((opv_min rfl rfl rfl rfl rfl).to (congrArg (Value.int .i64) hm)) ?_
    | refine sl_op rfl rfl rfl ((opv_sliceHi rfl rfl rfl (by omega) (by omega)).to (show _ = Value.slice b k c from rfl)) ?_
    | refine sl_op rfl rfl rfl ((opv_sliceSHi rfl rfl rfl (by omega) (by omega)).to (congrArg str hs1.symm)) ?_
    | refine sl_ff rfl rfl rfl (opv_neqStr rfl rfl rfl) (by simp) ?_
    | refine sl_op rfl rfl rfl (opv_addS rfl rfl rfl (by first | (simp only [List.length_append, List.length_cons, List.length_nil]; omega))) ?_
    | refine swp_seq ?_
    | (refine gk 0 rfl ?_; first | refine sl_op rfl rfl rfl (by first | exact opv_move rfl rfl | exact opv_assign rfl rfl ) ?_ )
    | (refine gk 4 rfl ?_; first | refine sl_op rfl rfl rfl (by first | exact opv_len rfl rfl rfl rfl rfl ) ?_ | refine sl_op rfl rfl rfl (opv_call rfl rfl rfl rfl rfl (p1)) ?_ | refine sl_op rfl rfl rfl (opv_call rfl rfl rfl rfl rfl (p2)) ?_)
    | (refine gk 5 rfl ?_; first | refine sl_op rfl rfl rfl (by first | exact opv_build rfl rfl (by exact rfl) ) ?_ )
    | refine sl_region rfl ?_
    | refine sl_draw (by kernel_rfl) (by kernel_rfl) rfl ?_
    | refine sl_nil ?_
    | refine thn_k ?_
    | refine swp_false rfl ?_
    | refine swp_block ?_
    | refine swp_skip ?_
    )
  refine swp_loopS (fun j : Nat => [(35, .agg ⟨[str t, str s1, str (t ++ [32, 32] ++ s1)]⟩), (36, i64 (j : Int))]) (fun _ => [J]) (fun j => j ≤ 3) (fun j => 3 - j) 0 (by repeat first | exact Sub.nil _ | refine Sub.cons rfl ?_) (Nat.zero_le _) ?_
  intro j hj
  by_cases hj2 : j < 3
  · obtain ⟨x, hx, hxl⟩ : ∃ x : List UInt8, ([str t, str s1, str (t ++ [32, 32] ++ s1)] : List Value)[((j : Nat) : Int).toNat * 1]? = some (str x) ∧ x.length ≤ 200000 := by
      match j, hj2 with
      | 0, _ => exact ⟨t, rfl, by omega⟩
      | 1, _ => exact ⟨s1, rfl, by omega⟩
      | 2, _ => exact ⟨_, rfl, by simp only [List.length_append, List.length_cons, List.length_nil]; omega⟩
    have k1 := Parse_calls x (by omega)
    have k2 := rParse_calls x hxl
    unfold PQ at k1
    unfold PQ2 at k2
    cases hp : parseF x with
    | ok q =>
      have hql : q.length ≤ 1000000 := parse_len hp (by omega)
      rw [hp] at k1 k2
      dsimp only at k1 k2
      repeat' (first
        | refine sl_op rfl rfl rfl (opv_ifNilN rfl rfl) ?_
        | refine sl_ff rfl rfl rfl (opv_neqS rfl rfl rfl rfl) (by simp) ?_
        | refine swp_seq ?_
        | (refine gk 0 rfl ?_; first | refine sl_op rfl rfl rfl (by first | exact opv_move rfl rfl | exact opv_assign rfl rfl | exact opv_pick_f rfl rfl rfl | exact opv_not_t rfl rfl | exact opv_extract rfl rfl rfl ) ?_ )
        | (refine gk 1 rfl ?_; first | refine sl_op rfl rfl rfl (by first | exact opv_add64 rfl rfl rfl (by omega) (by omega) ) ?_ )
        | (refine gk 2 rfl ?_; first | refine sl_yes rfl rfl rfl (by first | exact opv_lss rfl rfl rfl | exact opv_geq rfl rfl rfl ) (by first | omega ) ?_ | refine sl_no rfl rfl rfl (by first | exact opv_geq rfl rfl rfl ) (by first | omega ) ?_ | refine sl_ff rfl rfl rfl (by first | exact opv_neqB Tryz.underlying4 rfl rfl rfl ) (by first | rfl ) ?_ )
        | (refine gk 3 rfl ?_; first | refine sl_op rfl rfl rfl (by first | exact opv_loadA rfl (by exact rfl) rfl (by exact rfl) (by exact rfl) | exact opv_index rfl rfl rfl (by omega) (by omega) (by first | assumption ) ) ?_ )
        | (refine gk 4 rfl ?_; first | (refine sl_callT rfl rfl rfl rfl rfl rfl rfl rfl (k1) ?_; rintro _ _ ⟨h1, b1, c1, rfl, os1, rfl⟩; refine ⟨_, _, rfl, rfl, ?_⟩) | (refine sl_callT rfl rfl rfl rfl rfl rfl rfl rfl (k2) ?_; rintro _ _ ⟨h2, b2, c2, rfl, os2, rfl⟩; refine ⟨_, _, rfl, rfl, ?_⟩) | refine sl_op rfl rfl rfl (opv_call rfl rfl rfl rfl rfl (told_nil)) ?_ | refine sl_op rfl rfl rfl (opv_callW rfl rfl rfl rfl rfl (picks_W b1 b2 q.length c1 c2 q ⟨_, by simp, os1.sl⟩ ⟨_, by simp, os2.sl⟩ rfl hql)) ?_)
        | (refine gk 5 rfl ?_; first | refine sl_op rfl rfl rfl (by first | exact opv_build rfl rfl (by exact rfl) ) ?_ | refine sl_alloc rfl rfl rfl rfl (by exact rfl) (fun β => ?_) | refine sl_store rfl rfl rfl rfl rfl rfl (by exact rfl) rfl (by exact rfl) ?_)
        | refine sl_region rfl ?_
        | refine sl_draw (by kernel_rfl) (by kernel_rfl) rfl ?_
        | refine sl_nil ?_
        | refine thn_k ?_
        | refine swp_true rfl ?_
        | refine swp_false rfl ?_
        | refine swp_block ?_
        | refine swp_skip ?_
        )
      exact ⟨rfl, j + 1, next_ok (by repeat first | exact Sub.nil _ | refine Sub.cons rfl ?_), by omega, by omega⟩
    | error q =>
      rw [hp] at k1 k2
      dsimp only at k1 k2
      repeat' (first
        | refine sl_op rfl rfl rfl (opv_ifSomeN rfl rfl) ?_
        | refine sl_ff rfl rfl rfl (opv_neqS rfl rfl rfl rfl) (by simp) ?_
        | refine swp_seq ?_
        | (refine gk 0 rfl ?_; first | refine sl_op rfl rfl rfl (by first | exact opv_move rfl rfl | exact opv_assign rfl rfl | exact opv_pick_f rfl rfl rfl | exact opv_not_t rfl rfl | exact opv_extract rfl rfl rfl ) ?_ )
        | (refine gk 1 rfl ?_; first | refine sl_op rfl rfl rfl (by first | exact opv_add64 rfl rfl rfl (by omega) (by omega) ) ?_ )
        | (refine gk 2 rfl ?_; first | refine sl_yes rfl rfl rfl (by first | exact opv_lss rfl rfl rfl | exact opv_geq rfl rfl rfl ) (by first | omega ) ?_ | refine sl_ff rfl rfl rfl (by first | exact opv_neqB Tryz.underlying4 rfl rfl rfl ) (by first | rfl ) ?_ )
        | (refine gk 3 rfl ?_; first | refine sl_op rfl rfl rfl (by first | exact opv_loadA rfl (by exact rfl) rfl (by exact rfl) (by exact rfl) | exact opv_index rfl rfl rfl (by omega) (by omega) (by first | assumption ) ) ?_ )
        | (refine gk 4 rfl ?_; first | (refine sl_callT rfl rfl rfl rfl rfl rfl rfl rfl (k1) ?_; rintro _ _ ⟨βe, rfl, rfl⟩; refine ⟨_, _, rfl, rfl, ?_⟩) | (refine sl_callT rfl rfl rfl rfl rfl rfl rfl rfl (k2) ?_; rintro _ _ ⟨rfl, rfl⟩; refine ⟨_, _, rfl, rfl, ?_⟩) | refine sl_op rfl rfl rfl (opv_call rfl rfl rfl rfl rfl (told_calls (G := J) βe (q : Int))) ?_ | refine sl_op rfl rfl rfl (opv_call rfl rfl rfl rfl rfl (picks_calls J none none 0 0 0 [] (nil_flat J) (nil_flat J) rfl (by decide))) ?_)
        | (refine gk 5 rfl ?_; first | refine sl_op rfl rfl rfl (by first | exact opv_build rfl rfl (by exact rfl) ) ?_ | refine sl_alloc rfl rfl rfl rfl (by exact rfl) (fun β => ?_) | refine sl_store rfl rfl rfl rfl rfl rfl (by exact rfl) rfl (by exact rfl) ?_)
        | refine sl_region rfl ?_
        | refine sl_draw (by kernel_rfl) (by kernel_rfl) rfl ?_
        | refine sl_nil ?_
        | refine thn_k ?_
        | refine swp_true rfl ?_
        | refine swp_false rfl ?_
        | refine swp_block ?_
        | refine swp_skip ?_
        )
      exact ⟨rfl, j + 1, next_ok (by repeat first | exact Sub.nil _ | refine Sub.cons rfl ?_), by omega, by omega⟩
  · repeat' (first
      | refine swp_seq ?_
      | (refine gk 0 rfl ?_; first | refine sl_op rfl rfl rfl (by first | exact opv_assign rfl rfl ) ?_ )
      | (refine gk 2 rfl ?_; first | refine sl_no rfl rfl rfl (by first | exact opv_lss rfl rfl rfl ) (by first | omega ) ?_ )
      | (refine gk 4 rfl ?_; first | refine sl_op rfl rfl rfl (opv_call rfl rfl rfl rfl rfl (works_calls (G := J))) ?_)
      | refine sl_region rfl ?_
      | refine sl_nil ?_
      | refine thn_k ?_
      | refine swp_false rfl ?_
      | refine swp_ret ?_
      | refine swp_exit ?_
      )
    refine end_pure (resOk_one (resV_tmp rfl)) ?_
    rfl
end Go.Proofs.YtobcmglbdmaceaaGreatDoor
