/- Faults told; rows of picks compared; the chapter's examples: walked. -/
import Derived.Test.YtobcmglbdmaceaaGreatDoorWA3
import Derived.Test.YtobcmglbdmaceaaGreatDoorWA5
import Derived.Test.YtobcmglbdmaceaaGreatDoorWA7
import Derived.Test.YtobcmglbdmaceaaGreatDoorWA11
import Derived.Test.YtobcmglbdmaceaaGreatDoorWC1
import Derived.Test.YtobcmglbdmaceaaGreatDoorWAs2
import Derived.Test.YtobcmglbdmaceaaGreatDoorSlGa
import Derived.Test.YtobcmglbdmaceaaGreatDoorSlG8
set_option linter.unusedVariables false
set_option linter.unusedSimpArgs false
set_option linter.unusedSectionVars false
namespace Go.Proofs.YtobcmglbdmaceaaGreatDoor
open Go.SL
set_option maxRecDepth 100000
set_option maxHeartbeats 16000000
abbrev Ges (G : Heap) : Prop := Sl G (some ⟨0, 0, none⟩) [.iface 110 (.agg #[.pointer (some ⟨9, 26, none⟩)])]
instance : DecidableEq Pk := fun a b => if h : a.th = b.th ∧ a.kd = b.kd then .isTrue (by obtain ⟨x, y⟩ := a; obtain ⟨z, u⟩ := b; simp at h; rw [h.1, h.2]) else .isFalse (fun e => h (by rw [e]; exact ⟨rfl, rfl⟩))
attribute [local irreducible] SL.T PFn OpV SOL SWP HOp ChU
-- ALIAS Tryz
theorem as_nil (x : Value) : PFn Tryz.prog 27 [.nilIface, x] [] (.bool false) := by
  refine pure_of_body Tryz.func27 rfl (Nat.le_of_ble_eq_true rfl) fun F => ?_
  repeat' (first
    | refine sl_op rfl rfl rfl (opv_ifNil rfl rfl) ?_
    | refine swp_seq ?_
    | (refine gk 0 rfl ?_; first | refine sl_op rfl rfl rfl (by first | exact opv_move rfl rfl | exact opv_assign rfl rfl ) ?_ )
    | refine sl_region rfl ?_
    | refine sl_nil ?_
    | refine thn_k ?_
    | refine swp_true rfl ?_
    | refine swp_ret ?_
    | refine thn_ret ?_
    )
  refine end_pure (resOk_one (resV_tmp rfl)) ?_
  rfl
theorem told_calls {G : Heap} [sg : Ges G] (β : Nat) (at_ : Int) : PFn Tryz.prog 12 [errV β] [faultB β at_, G] (.agg ⟨[i64 7, i64 0, i64 at_]⟩) := by
  have ha := fun b old => as_T (G := G) ⟨β, 0, none⟩ b old
  revert ha
  generalize hβ : β = βe
  intro ha
  refine pure_of_body Tryz.func12 rfl (Nat.le_of_ble_eq_true rfl) fun F => ?_
  repeat' (first
    | refine sl_op rfl rfl rfl (opv_makeInterface rfl rfl rfl) ?_
    | refine sl_op rfl rfl rfl (opv_ptrNeq rfl rfl) ?_
    | refine swp_seq ?_
    | (refine gk 0 rfl ?_; first | refine sl_op rfl rfl rfl (by first | exact opv_move rfl rfl | exact opv_pick_t rfl rfl rfl ) ?_ )
    | (refine gk 3 rfl ?_; first | refine sl_op rfl rfl rfl (by first | exact opv_load rfl (by exact rfl) rfl (by exact rfl) | exact opv_loadA rfl (by exact rfl) rfl (by exact rfl) (by exact rfl) ) ?_ )
    | (refine gk 4 rfl ?_; first | (refine sl_callT rfl rfl rfl rfl rfl rfl rfl rfl (ha _ (.pointer none)) ?_; rintro _ _ ⟨rfl, rfl⟩; refine ⟨_, _, rfl, rfl, ?_⟩))
    | (refine gk 5 rfl ?_; first | refine sl_op rfl rfl rfl (by first | exact opv_nilCheck rfl rfl ) ?_ | refine sl_alloc rfl rfl rfl rfl (by exact rfl) (fun β => ?_) | refine sl_store rfl rfl rfl rfl rfl rfl (by exact rfl) rfl (by exact rfl) ?_)
    | refine sl_region rfl ?_
    | refine sl_nil ?_
    | refine thn_k ?_
    | refine swp_true rfl ?_
    | refine swp_ret ?_
    | refine thn_ret ?_
    )
  exact end_pure (resOk_one (resV_cellA rfl rfl rfl rfl)) rfl
theorem told_nil : PFn Tryz.prog 12 [.nilIface] [] (.agg ⟨[i64 0, i64 0, i64 0]⟩) := by
  have ha := as_nil
  refine pure_of_body Tryz.func12 rfl (Nat.le_of_ble_eq_true rfl) fun F => ?_
  repeat' (first
    | refine sl_op rfl rfl rfl (opv_makeInterface rfl rfl rfl) ?_
    | refine swp_seq ?_
    | (refine gk 0 rfl ?_; first | refine sl_op rfl rfl rfl (by first | exact opv_move rfl rfl | exact opv_pick_f rfl rfl rfl ) ?_ )
    | (refine gk 2 rfl ?_; first | refine sl_pass rfl rfl rfl rfl ?_ )
    | (refine gk 3 rfl ?_; first | refine sl_pass rfl rfl rfl rfl ?_)
    | (refine gk 4 rfl ?_; first | refine sl_op rfl rfl rfl (opv_call rfl rfl rfl rfl rfl (ha _)) ?_)
    | (refine gk 5 rfl ?_; first | refine sl_op rfl rfl rfl (by first | exact opv_build rfl rfl (by exact rfl) ) ?_ | refine sl_alloc rfl rfl rfl rfl (by exact rfl) (fun β => ?_) | refine sl_store rfl rfl rfl rfl rfl rfl (by exact rfl) rfl (by exact rfl) ?_)
    | refine sl_region rfl ?_
    | refine sl_nil ?_
    | refine thn_k ?_
    | refine swp_false rfl ?_
    | refine swp_ret ?_
    | refine swp_skip ?_
    )
  exact end_pure (resOk_one (resV_cellA rfl rfl rfl rfl)) rfl
theorem picks_calls (J : Heap) (b b' : Option Addr) (n c c' : Nat) (l : List Pk) (sl : Sl J b (flatP l)) (sl' : Sl J b' (flatP l)) (hl : l.length = n) (hn : n ≤ 1000000) :
    PFn Tryz.prog 13 [.slice b n c, .slice b' n c'] [J] (.bool true) := by
  refine pure_of_body Tryz.func13 rfl (Nat.le_of_ble_eq_true rfl) fun F => ?_
  repeat' (first
    | refine swp_seq ?_
    | (refine gk 0 rfl ?_; first | refine sl_op rfl rfl rfl (by first | exact opv_move rfl rfl | exact opv_assign rfl rfl ) ?_ )
    | (refine gk 2 rfl ?_; first | refine sl_no rfl rfl rfl (by first | exact opv_neq rfl rfl rfl) (by first | omega ) ?_ )
    | (refine gk 4 rfl ?_; first | refine sl_op rfl rfl rfl (by first | exact opv_len rfl rfl rfl rfl rfl ) ?_)
    | refine sl_region rfl ?_
    | refine sl_nil ?_
    | refine thn_k ?_
    | refine swp_false rfl ?_
    | refine swp_block ?_
    | refine swp_skip ?_
    )
  refine swp_loopS (fun j : Nat => [(0, .slice b n c), (1, .slice b' n c'), (5, i64 (j : Int))]) (fun _ => [J]) (fun j => j ≤ n) (fun j => n - j) 0 (by repeat first | exact Sub.nil _ | refine Sub.cons rfl ?_) (Nat.zero_le _) ?_
  intro j hj
  by_cases hj2 : j < n
  · obtain ⟨p, hp⟩ : ∃ p, l[j]? = some p := ⟨_, List.getElem?_eq_getElem (by omega)⟩
    obtain ⟨c1, c2⟩ := flatP_at hp
    have hfl := flatP_length l
    have hcl : ((j : Nat) : Int).toNat * 2 < (flatP l).length := by simp; omega
    have hc1 : (flatP l)[((j : Nat) : Int).toNat * 2]? = some (i64 p.th) := by simpa using c1
    have hc2 : (flatP l)[((j : Nat) : Int).toNat * 2 + 1]? = some (i64 p.kd) := by simpa using c2
    repeat' (first
      | refine sl_ff rfl rfl rfl (opv_neqS rfl rfl rfl rfl) (by simp) ?_
      | refine swp_seq ?_
      | (refine gk 0 rfl ?_; first | refine sl_op rfl rfl rfl (by first | exact opv_move rfl rfl | exact opv_assign rfl rfl ) ?_ )
      | (refine gk 1 rfl ?_; first | refine sl_op rfl rfl rfl (by first | exact opv_add64 rfl rfl rfl (by omega) (by omega) ) ?_ )
      | (refine gk 2 rfl ?_; first | refine sl_yes rfl rfl rfl (by first | exact opv_lss rfl rfl rfl ) (by first | omega ) ?_ )
      | (refine gk 3 rfl ?_; first | refine sl_op rfl rfl rfl (by first | exact opv_indexAddrI rfl rfl rfl (by omega) (by omega) (by first | omega ) | exact opv_load2 rfl (by exact rfl) (by infer_instance) (by assumption) (by assumption) ) ?_ )
      | (refine gk 4 rfl ?_; first | refine sl_op rfl rfl rfl (by first | exact opv_len rfl rfl rfl rfl rfl ) ?_)
      | refine sl_region rfl ?_
      | refine sl_draw (by kernel_rfl) (by kernel_rfl) rfl ?_
      | refine sl_nil ?_
      | refine thn_k ?_
      | refine swp_true rfl ?_
      | refine swp_false rfl ?_
      | refine swp_block ?_
      | refine swp_skip ?_
      )
    exact ⟨rfl, j + 1, next_ok (by repeat first | exact Sub.nil _ | refine Sub.cons rfl ?_), hj2, by omega⟩
  · obtain rfl : j = n := by omega
    repeat' (first
      | refine swp_seq ?_
      | (refine gk 0 rfl ?_; first | refine sl_op rfl rfl rfl (by first | exact opv_move rfl rfl | exact opv_assign rfl rfl ) ?_ )
      | (refine gk 2 rfl ?_; first | refine sl_no rfl rfl rfl (by first | exact opv_lss rfl rfl rfl ) (by first | omega ) ?_ )
      | (refine gk 4 rfl ?_; first | refine sl_op rfl rfl rfl (by first | exact opv_len rfl rfl rfl rfl rfl ) ?_)
      | refine sl_region rfl ?_
      | refine sl_nil ?_
      | refine thn_k ?_
      | refine swp_false rfl ?_
      | refine swp_ret ?_
      | refine swp_exit ?_
      )
    refine end_pure (resOk_one (resV_tmp rfl)) ?_
    rfl
theorem picks_W {own : List Heap} (b b' : Option Addr) (n c c' : Nat) (l : List Pk) (sl : SlIn own b (flatP l)) (sl' : SlIn own b' (flatP l)) (hl : l.length = n) (hn : n ≤ 1000000) :
    PFn Tryz.prog 13 [.slice b n c, .slice b' n c'] own (.bool true) :=
  P_whole fun J hJ => by
    obtain ⟨k, hk, h1⟩ := sl
    obtain ⟨k', hk', h2⟩ := sl'
    exact picks_calls J b b' n c c' l (h1.mono (hJ k hk)) (h2.mono (hJ k' hk')) hl hn
theorem Print_W {own : List Heap} (G : Heap) (hG : G ∈ own) [pw : Pow G] (b : Option Addr) (n c : Nat) (l : List Pk) (sl : SlIn own b (flatP l)) (hl : l.length = n) (hn : n ≤ 10000) :
    PFn Tryz.prog 8 [.slice b n c] own (str (printF l)) :=
  P_whole fun J hJ => by
    obtain ⟨k, hk, h1⟩ := sl
    haveI := pw.mono (hJ G hG)
    exact Print_calls J b n c l (h1.mono (hJ k hk)) hl hn
theorem parsed_calls (s : List UInt8) (l : List Pk) (hs : s.length ≤ 900000) (h : parseF s = .ok l) :
    SL.T Tryz.prog 19 [str s] [] fun e o => ∃ h b c, e = .returned (.slice b l.length c) ∧ OS h b l.length c 42 2 (flatP l) ∧ o = [h] := by
  have kp := Parse_calls s hs
  rw [h] at kp
  unfold PQ at kp
  dsimp only at kp
  refine t_of_body Tryz.func19 rfl (Nat.le_of_ble_eq_true rfl) fun F => ?_
  repeat' (first
    | refine swp_seq ?_
    | (refine gk 0 rfl ?_; first | refine sl_op rfl rfl rfl (by first | exact opv_move rfl rfl | exact opv_assign rfl rfl | exact opv_extract rfl rfl rfl ) ?_ )
    | (refine gk 4 rfl ?_; first | (refine sl_callT rfl rfl rfl rfl rfl rfl rfl rfl (kp) ?_; rintro _ _ ⟨h1, b1, c1, rfl, os1, rfl⟩; refine ⟨_, _, rfl, rfl, ?_⟩))
    | refine sl_region rfl ?_
    | refine sl_nil ?_
    | refine thn_k ?_
    | refine swp_ret ?_
    )
  exact end_retZ [h1] (resOk_one (resV_tmp rfl)) ⟨h1, b1, c1, rfl, os1, rfl⟩
theorem wrong_calls {G : Heap} [sg : Ges G] (s : List UInt8) (q : Nat) (hs : s.length ≤ 900000) (h : parseF s = .error q) : PFn Tryz.prog 18 [str s, i64 (q : Int)] [G] (.bool true) := by
  have kp := Parse_calls s hs
  rw [h] at kp
  unfold PQ at kp
  dsimp only at kp
  refine pure_of_body Tryz.func18 rfl (Nat.le_of_ble_eq_true rfl) fun F => ?_
  repeat' (first
    | refine sl_op rfl rfl rfl (opv_ifSomeN rfl rfl) ?_
    | refine sl_tt rfl rfl rfl (opv_eqlS rfl rfl rfl rfl) (by simp) ?_
    | refine swp_seq ?_
    | (refine gk 0 rfl ?_; first | refine sl_op rfl rfl rfl (by first | exact opv_move rfl rfl | exact opv_assign rfl rfl | exact opv_pick_t rfl rfl rfl | exact opv_extract rfl rfl rfl ) ?_ )
    | (refine gk 2 rfl ?_; first | refine sl_yes rfl rfl rfl (by first | exact opv_eql rfl rfl rfl ) (by first | omega ) ?_ )
    | (refine gk 4 rfl ?_; first | refine sl_op rfl rfl rfl (by first | exact opv_len rfl rfl rfl rfl rfl ) ?_ | (refine sl_callT rfl rfl rfl rfl rfl rfl rfl rfl (kp) ?_; rintro _ _ ⟨β, rfl, rfl⟩; refine ⟨_, _, rfl, rfl, ?_⟩) | refine sl_op rfl rfl rfl (opv_call rfl rfl rfl rfl rfl (told_calls (G := G) β (q : Int))) ?_)
    | (refine gk 5 rfl ?_; first | refine sl_op rfl rfl rfl (by first | exact opv_build rfl rfl (by exact rfl) ) ?_ )
    | refine sl_region rfl ?_
    | refine sl_nil ?_
    | refine thn_k ?_
    | refine swp_ret ?_
    )
  refine end_pure (resOk_one (resV_tmp rfl)) ?_
  rfl
end Go.Proofs.YtobcmglbdmaceaaGreatDoor
