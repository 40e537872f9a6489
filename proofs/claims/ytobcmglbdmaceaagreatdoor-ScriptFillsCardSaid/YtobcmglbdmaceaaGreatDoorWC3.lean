/- The chapter's examples: walked. -/
import Derived.Test.YtobcmglbdmaceaaGreatDoorWC2
set_option linter.unusedVariables false
set_option linter.unusedSimpArgs false
set_option linter.unusedSectionVars false
namespace Go.Proofs.YtobcmglbdmaceaaGreatDoor
open Go.SL
set_option maxRecDepth 100000
set_option maxHeartbeats 16000000
theorem w1 : printF (decP [3, 131, 195, 67]) = [51, 32, 51, 115, 32, 51, 116, 32, 51] := by decide +kernel
theorem w2 : parseF [48, 32, 49, 32, 48, 32, 49] = .ok [⟨0, 0⟩, ⟨1, 0⟩, ⟨0, 0⟩, ⟨1, 0⟩] := rfl
theorem w3 : fairF [⟨0, 0⟩, ⟨1, 0⟩, ⟨0, 0⟩, ⟨1, 0⟩] 2 2 = true := by decide +kernel
theorem w4 : parseF [48, 32, 48, 32, 49] = .ok [⟨0, 0⟩, ⟨0, 0⟩, ⟨1, 0⟩] := rfl
theorem w5 : fairF [⟨0, 0⟩, ⟨0, 0⟩, ⟨1, 0⟩] 2 2 = false := by decide +kernel
theorem w6 : parseF [48, 32, 49, 32, 49, 116, 32, 48] = .ok [⟨0, 0⟩, ⟨1, 0⟩, ⟨1, 1⟩, ⟨0, 0⟩] := rfl
theorem w7 : fairF [⟨0, 0⟩, ⟨1, 0⟩, ⟨1, 1⟩, ⟨0, 0⟩] 2 3 = true := by decide +kernel
theorem w8 : parseF [53, 32, 54, 32, 55] = .ok [⟨5, 0⟩, ⟨6, 0⟩, ⟨7, 0⟩] := rfl
theorem w9 : fillF [⟨5, 0⟩, ⟨6, 0⟩, ⟨7, 0⟩] 2 4 = [⟨5, 0⟩, ⟨6, 0⟩, ⟨0, 0⟩, ⟨1, 0⟩, ⟨7, 0⟩, ⟨0, 0⟩, ⟨1, 0⟩] := rfl
theorem w10 : printF [⟨5, 0⟩, ⟨6, 0⟩, ⟨0, 0⟩, ⟨1, 0⟩, ⟨7, 0⟩, ⟨0, 0⟩, ⟨1, 0⟩] = [53, 32, 54, 32, 48, 32, 49, 32, 55, 32, 48, 32, 49] := by decide +kernel
theorem w11 : fillF [] 2 4 = [⟨0, 0⟩, ⟨1, 0⟩] := rfl
theorem w12 : printF [⟨0, 0⟩, ⟨1, 0⟩] = [48, 32, 49] := by decide +kernel
theorem w13 : parseF [49, 50, 32, 32, 51, 116] = .ok [⟨12, 0⟩, ⟨3, 1⟩] := rfl
theorem w14 : printF [⟨12, 0⟩, ⟨3, 1⟩] = [49, 50, 32, 51, 116] := by decide +kernel
theorem w15 : parseF [49, 32, 120] = .error 1 := rfl
theorem w16 : parseF [48, 49] = .error 0 := rfl
theorem nil_flat (J : Heap) : Sl J none (flatP []) := ⟨fun j v h => by simp [flatP] at h⟩
attribute [local irreducible] SL.T PFn OpV SOL SWP HOp ChU printF parseF fairF fillF decP
-- ALIAS Tryz
theorem print_at {own : List Heap} (G : Heap) (hG : G ∈ own) [pw : Pow G] (b : Option Addr) (n c : Nat) (l : List Pk) (s : List UInt8) (sl : SlIn own b (flatP l)) (hl : l.length = n) (hn : n ≤ 10000) (h : printF l = s) :
    PFn Tryz.prog 8 [.slice b n c] own (str s) := h ▸ Print_W G hG b n c l sl hl hn
theorem fair_at (J : Heap) (b : Option Addr) (n c : Nat) (l : List Pk) (t k : Int) (r : Bool) (sl : Sl J b (flatP l)) (hl : l.length = n) (hn : n ≤ 1000000) (h : fairF l t k = r) :
    PFn Tryz.prog 17 [.slice b n c, i64 t, i64 k] [J] (.bool r) := h ▸ Fair_calls J b n c l hl hn t k
theorem fill_at (J : Heap) (b : Option Addr) (n c : Nat) (l m : List Pk) (t k : Int) (sl : Sl J b (flatP l)) (hl : l.length = n) (hn : n ≤ 1000000) (ht : t ≤ 1000000) (hk : k ≤ 9223372036854775807) (h : fillF l t k = m) (hB : m.length ≤ 1000000) :
    SL.T Tryz.prog 16 [.slice b n c, i64 t, i64 k] [J] fun e o => ∃ h b' c', e = .returned (.slice b' m.length c') ∧ OS h b' m.length c' 42 2 (flatP m) ∧ o = [h, J] := by
  subst h
  exact Fill_calls J b n c l hl hn t k ht hk hB
theorem works_calls {G : Heap} [sg : Ges G] [pw : Pow G] : PFn Tryz.prog 14 [] [G] (.bool true) := by
  have k1 := Decode_calls [3, 131, 195, 67] (by decide)
  have p2 := parsed_calls _ _ (by decide) w2
  have p4 := parsed_calls _ _ (by decide) w4
  have p6 := parsed_calls _ _ (by decide) w6
  have p8 := parsed_calls _ _ (by decide) w8
  have p13 := parsed_calls _ _ (by decide) w13
  have f11 := fill_at G none 0 0 [] _ 2 4 (nil_flat G) rfl (by decide) (by decide) (by decide) w11 (by decide)
  have q15 := wrong_calls (G := G) _ _ (by decide) w15
  have q16 := wrong_calls (G := G) _ _ (by decide) w16
  simp only [List.length_cons, List.length_nil, Nat.zero_add, Nat.reduceAdd] at k1 p2 p4 p6 p8 p13 f11
  refine pure_of_body Tryz.func14 rfl (Nat.le_of_ble_eq_true rfl) fun F => ?_
  repeat' (first
    | refine sl_op rfl rfl rfl ((opv_eqlStr rfl rfl rfl).to (show _ = Value.bool true from rfl)) ?_
    | refine swp_seq ?_
    | (refine gk 0 rfl ?_; first | refine sl_op rfl rfl rfl (by first | exact opv_move rfl rfl | exact opv_assign rfl rfl | exact opv_pick_t rfl rfl rfl | exact opv_not_f rfl rfl ) ?_ )
    | (refine gk 4 rfl ?_; first | (refine sl_callT rfl rfl rfl rfl rfl rfl rfl rfl (k1) ?_; rintro _ _ ⟨h1, b1, c1, rfl, os1, rfl⟩; refine ⟨_, _, rfl, rfl, ?_⟩) | refine sl_op rfl rfl rfl (opv_callW rfl rfl rfl rfl rfl (print_at G (by simp) _ 4 _ (decP [3, 131, 195, 67]) _ ⟨_, by simp, os1.sl⟩ (decP_length _) (by decide) w1)) ?_ | (refine sl_callT rfl rfl rfl rfl rfl rfl rfl rfl (p2) ?_; rintro _ _ ⟨h2, b2, c2, rfl, os2, rfl⟩; refine ⟨_, _, rfl, rfl, ?_⟩) | (refine sl_callT rfl rfl rfl rfl rfl rfl rfl rfl (p4) ?_; rintro _ _ ⟨h4, b4, c4, rfl, os4, rfl⟩; refine ⟨_, _, rfl, rfl, ?_⟩) | (refine sl_callT rfl rfl rfl rfl rfl rfl rfl rfl (p6) ?_; rintro _ _ ⟨h6, b6, c6, rfl, os6, rfl⟩; refine ⟨_, _, rfl, rfl, ?_⟩) | (refine sl_callT rfl rfl rfl rfl rfl rfl rfl rfl (p8) ?_; rintro _ _ ⟨h8, b8, c8, rfl, os8, rfl⟩; refine ⟨_, _, rfl, rfl, ?_⟩) | (refine sl_callT rfl rfl rfl rfl rfl rfl rfl rfl (p13) ?_; rintro _ _ ⟨h13, b13, c13, rfl, os13, rfl⟩; refine ⟨_, _, rfl, rfl, ?_⟩) | (refine sl_callT rfl rfl rfl rfl rfl rfl rfl rfl (f11) ?_; rintro _ _ ⟨h11, b11, c11, rfl, os11, rfl⟩; refine ⟨_, _, rfl, rfl, ?_⟩) | refine sl_op rfl rfl rfl (opv_call rfl rfl rfl rfl rfl (q15)) ?_ | refine sl_op rfl rfl rfl (opv_call rfl rfl rfl rfl rfl (q16)) ?_ | refine sl_op rfl rfl rfl (opv_call rfl rfl rfl rfl rfl (fair_at _ _ _ _ _ _ _ _ os2.sl rfl (by decide) w3)) ?_ | refine sl_op rfl rfl rfl (opv_call rfl rfl rfl rfl rfl (fair_at _ _ _ _ _ _ _ _ os4.sl rfl (by decide) w5)) ?_ | refine sl_op rfl rfl rfl (opv_call rfl rfl rfl rfl rfl (fair_at _ _ _ _ _ _ _ _ os6.sl rfl (by decide) w7)) ?_ | (refine sl_callT rfl rfl rfl rfl rfl rfl rfl rfl (fill_at _ _ _ _ _ _ _ _ os8.sl rfl (by decide) (by decide) (by decide) w9 (by decide)) ?_; rintro _ _ ⟨h9, b9, c9, rfl, os9, rfl⟩; refine ⟨_, _, rfl, rfl, ?_⟩) | refine sl_op rfl rfl rfl (opv_callW rfl rfl rfl rfl rfl (print_at G (by simp) _ _ _ _ _ ⟨_, by simp, os9.sl⟩ rfl (by decide) w10)) ?_ | refine sl_op rfl rfl rfl (opv_callW rfl rfl rfl rfl rfl (print_at G (by simp) _ _ _ _ _ ⟨_, by simp, os11.sl⟩ rfl (by decide) w12)) ?_ | refine sl_op rfl rfl rfl (opv_callW rfl rfl rfl rfl rfl (print_at G (by simp) _ _ _ _ _ ⟨_, by simp, os13.sl⟩ rfl (by decide) w14)) ?_)
    | refine sl_region rfl ?_
    | refine sl_nil ?_
    | refine thn_k ?_
    | refine swp_ret ?_
    )
  refine end_pure (resOk_one (resV_tmp rfl)) ?_
  rfl
end Go.Proofs.YtobcmglbdmaceaaGreatDoor
