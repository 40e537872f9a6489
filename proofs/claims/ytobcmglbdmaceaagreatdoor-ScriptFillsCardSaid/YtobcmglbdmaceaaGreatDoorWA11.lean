/- Which texts are picks: walked. -/
import Derived.Test.YtobcmglbdmaceaaGreatDoorWA9
import Derived.Test.YtobcmglbdmaceaaGreatDoorWA10
import Derived.Test.YtobcmglbdmaceaaGreatDoorSlGb
set_option linter.unusedVariables false
set_option linter.unusedSimpArgs false
set_option linter.unusedSectionVars false
namespace Go.Proofs.YtobcmglbdmaceaaGreatDoor
open Go.SL
set_option maxRecDepth 100000
set_option maxHeartbeats 16000000
/-- The picks of pieces; or the place of the first that is none. -/
def parseW : List (List UInt8) → List Pk → Except Nat (List Pk)
  | [], acc => .ok acc
  | w :: ws, acc => if w = [] then parseW ws acc else match pickF w with
    | some p => parseW ws (acc ++ [p])
    | none => .error acc.length
def parseF (s : List UInt8) : Except Nat (List Pk) := parseW (pcs s) []
theorem pcs_len : ∀ (s : List UInt8), (pcs s).length ≤ s.length + 1 ∧ ∀ w ∈ pcs s, w.length ≤ s.length
  | [] => by simp [pcs]
  | b :: r => by
    obtain ⟨h1, h2⟩ := pcs_len r
    unfold pcs
    split
    · refine ⟨by simp; omega, fun w hw => ?_⟩
      rcases List.mem_cons.1 hw with rfl | hw
      · simp
      · have := h2 w hw; simp; omega
    · cases e : pcs r with
      | nil => simp
      | cons x xs =>
        rw [e] at h1 h2
        refine ⟨by simp at h1 ⊢; omega, fun w hw => ?_⟩
        rcases List.mem_cons.1 hw with rfl | hw
        · have := h2 x (by simp); simp; omega
        · have := h2 w (by simp [hw]); simp; omega
abbrev errV (β : Nat) : Value := .iface 62 (ptr β)
abbrev faultB (β : Nat) (at_ : Int) : Heap := blk β (.cells ⟨[i64 7, i64 0, i64 at_]⟩ 33 (0, 0))
/-- The values of the region that makes a fault, and what it turns. -/
def V7 (n : Int) (bf : Nat → Nat) : Nat → Value
  | 0 => i64 n
  | 1 => .agg ⟨[i64 7, i64 0, i64 n]⟩
  | 2 => ptr (bf 2)
  | 3 => errV (bf 2)
  | _ => undef
def B7 (βl βe : Nat) (lv : Value) : Nat → List Heap
  | 4 => [blk βl (.cells ⟨[lv]⟩ 22 (0, 0))]
  | 5 => [blk βe (.cells ⟨[.nilIface]⟩ 26 (0, 0))]
  | _ => []
def D7 (βl βe : Nat) (n : Int) (bf : Nat → Nat) : Nat → List Heap
  | 2 => [faultB (bf 2) n]
  | 4 => [blk βl (.cells ⟨[.slice none 0 0]⟩ 22 (0, 0))]
  | 5 => [blk βe (.cells ⟨[errV (bf 2)]⟩ 26 (0, 0))]
  | _ => []
/-- What Parse answers. -/
def PQ (r : Except Nat (List Pk)) (e : Ending) (o : List Heap) : Prop := match r with
  | .ok l => ∃ h b c, e = .returned (.tuple ⟨[.slice b l.length c, .nilIface]⟩) ∧ OS h b l.length c 42 2 (flatP l) ∧ o = [h]
  | .error q => ∃ β, e = .returned (.tuple ⟨[.slice none 0 0, errV β]⟩) ∧ o = [faultB β (q : Int)]
attribute [local irreducible] SL.T PFn OpV SOL SWP HOp ChU
-- ALIAS Tryz
theorem Parse_calls (s : List UInt8) (hs : s.length ≤ 900000) : SL.T Tryz.prog 10 [str s] [] (PQ (parseF s)) := by
  obtain ⟨hpl, hpw⟩ := pcs_len s
  refine t_of_body Tryz.func10 rfl (Nat.le_of_ble_eq_true rfl) fun F => ?_
  refine swp_emp ?_
  repeat' (first
    | refine swp_seq ?_
    | (refine gk 0 rfl ?_; first | refine sl_op rfl rfl rfl (by first | exact opv_move rfl rfl ) ?_ )
    | (refine gk 4 rfl ?_; first | (refine sl_callT rfl rfl rfl rfl rfl rfl rfl rfl (SplitSeq_calls s [32]) ?_; rintro _ _ ⟨β1, β2, β3, rfl, rfl⟩; refine ⟨_, _, rfl, rfl, ?_⟩))
    | (refine gk 5 rfl ?_; first | refine sl_alloc rfl rfl rfl rfl (by exact rfl) (fun β => ?_) | refine sl_store rfl rfl rfl rfl rfl rfl (by exact rfl) rfl (by exact rfl) ?_)
    | refine sl_region rfl ?_
    | refine sl_nil ?_
    | refine thn_k ?_
    | refine swp_block ?_
    )
  rename_i βl βe
  obtain ⟨βn, rfl⟩ : ∃ x, x = β := ⟨_, rfl⟩
  refine swp_rangeD (hsI := [blk β1 (.cells ⟨[str [32]]⟩ 9 (0, 0)), blk β2 (.cells ⟨[str s]⟩ 9 (0, 0)), blk β3 (.cells ⟨[i64 0]⟩ 3 (0, 0))]) (hk := []) (xs := (pcs s).map fun w => [str w])
    (fun k own1 => ∃ acc h b' c', own1 = [blk βn (.cells ⟨[i64 (acc.length : Int)]⟩ 3 (0, 0)), blk βe (.cells ⟨[.nilIface]⟩ 26 (0, 0)), blk βl (.cells ⟨[.slice b' acc.length c']⟩ 22 (0, 0)), h] ∧ OS h b' acc.length c' 42 2 (flatP acc) ∧ acc.length ≤ k ∧ parseF s = parseW ((pcs s).drop k) acc)
    (fun c own1 => c = .ret ∧ ∃ q β, parseF s = .error q ∧ own1 = [blk βe (.cells ⟨[errV β]⟩ 26 (0, 0)), blk βl (.cells ⟨[.slice none 0 0]⟩ 22 (0, 0)), faultB β (q : Int)]) rfl (split_iter β1 β2 β3 s (by omega)) rfl ?_ ?_ ?_ ?_ ?_
  · exact fun x hx => by obtain ⟨q, -, rfl⟩ := List.mem_map.1 hx; rfl
  · exact ⟨[], emp, none, 0, rfl, OS.nil, Nat.le_refl _, rfl⟩
  · rintro L k x own1 hx ⟨acc, h, b', c', rfl, os, hak, hpar⟩ F1
    rw [List.getElem?_map, Option.map_eq_some_iff] at hx
    obtain ⟨w, hw, rfl⟩ := hx
    have hkl := (List.getElem?_eq_some_iff.1 hw).1
    have hwl := hpw w (List.mem_of_getElem? hw)
    have hd : (pcs s).drop k = w :: (pcs s).drop (k + 1) := by
      rw [List.drop_eq_getElem_cons (by omega), (List.getElem?_eq_some_iff.1 hw).2]
    rw [hd, parseW] at hpar
    refine ⟨_, rfl, ?_⟩
    repeat' (first
      | (refine gk 0 rfl ?_; first | refine sl_op rfl rfl rfl (by first | exact opv_assign rfl rfl ) ?_ )
      | refine sl_region rfl ?_
      | refine sl_nil ?_
      | refine thn_k ?_
      )
    intro F2
    by_cases hw0 : w = []
    · subst hw0
      rw [if_pos rfl] at hpar
      repeat' (first
        | refine sl_tt rfl rfl rfl (opv_eqlStr rfl rfl rfl) (by simp) ?_
        | refine swp_seq ?_
        | (refine gk 0 rfl ?_; first | refine sl_op rfl rfl rfl (by first | exact opv_move rfl rfl ) ?_ )
        | refine sl_region rfl ?_
        | refine sl_nil ?_
        | refine thn_k ?_
        | refine swp_true rfl ?_
        | refine swp_block ?_
        | refine swp_exit ?_
        | refine thn_exit ?_
        | refine inb_exit ?_
        )
      exact round_end [blk βn (.cells ⟨[i64 (acc.length : Int)]⟩ 3 (0, 0)), blk βe (.cells ⟨[.nilIface]⟩ 26 (0, 0)), blk βl (.cells ⟨[.slice b' acc.length c']⟩ 22 (0, 0)), h] ⟨acc, h, b', c', rfl, os, by omega, hpar⟩
    · rw [if_neg hw0] at hpar
      have hpk := pick_calls w (by omega)
      unfold pickV at hpk
      cases hp : pickF w with
      | some p =>
        rw [hp] at hpk hpar
        dsimp only at hpk hpar
        repeat' (first
          | refine sl_ff rfl rfl rfl (opv_eqlStr rfl rfl rfl) (by simpa using hw0) ?_
          | refine swp_seq ?_
          | (refine gk 0 rfl ?_; first | refine sl_op rfl rfl rfl (by first | exact opv_move rfl rfl | exact opv_assign rfl rfl | exact opv_not_t rfl rfl | exact opv_extract rfl rfl rfl ) ?_ )
          | (refine gk 1 rfl ?_; first | refine sl_op rfl rfl rfl (by first | exact opv_add64 rfl rfl rfl (by omega) (by omega) ) ?_ )
          | (refine gk 3 rfl ?_; first | refine sl_op rfl rfl rfl (by first | exact opv_load rfl (by exact rfl) rfl (by exact rfl) | exact opv_loadA rfl (by exact rfl) rfl (by exact rfl) (by exact rfl) ) ?_ )
          | (refine gk 4 rfl ?_; first | refine sl_op rfl rfl rfl (opv_call rfl rfl rfl rfl rfl (hpk)) ?_ | refine sl_appendG rfl rfl rfl rfl rfl rfl rfl rfl rfl (by assumption) (by first | rfl ) (by decide) (by first | rfl ) (by omega) (by omega) (fun h' b'' c'' os' hb' => ?_))
          | (refine gk 5 rfl ?_; first | refine sl_buildSlice rfl rfl rfl rfl rfl (by exact rfl) (by exact rfl) (by exact rfl) (by exact rfl) rfl (fun b => ?_) | refine sl_alloc rfl rfl rfl rfl (by exact rfl) (fun β => ?_) | refine sl_store rfl rfl rfl rfl rfl rfl (by exact rfl) rfl (by exact rfl) ?_)
          | refine sl_region rfl ?_
          | refine sl_nil ?_
          | refine thn_k ?_
          | refine swp_false rfl ?_
          | refine swp_block ?_
          | refine swp_skip ?_
          | refine inb_k ?_
          )
        refine round_end [blk βn (.cells ⟨[i64 ((acc.length : Int) + 1)]⟩ 3 (0, 0)), blk βe (.cells ⟨[.nilIface]⟩ 26 (0, 0)), blk βl (.cells ⟨[.slice b'' (acc.length + 1) c'']⟩ 22 (0, 0)), h'] ⟨acc ++ [p], h', b'', c'', ?_, ?_, by simp; omega, hpar⟩
        · rw [List.length_append]; rfl
        · rw [flatP_append, List.length_append]
          exact os'
      | none =>
        rw [hp] at hpk hpar
        dsimp only at hpk hpar
        repeat' (first
          | refine sl_ff rfl rfl rfl (opv_eqlStr rfl rfl rfl) (by simpa using hw0) ?_
          | refine swp_seq ?_
          | (refine gk 0 rfl ?_; first | refine sl_op rfl rfl rfl (by first | exact opv_move rfl rfl | exact opv_assign rfl rfl | exact opv_not_f rfl rfl | exact opv_extract rfl rfl rfl ) ?_ )
          | (refine gk 4 rfl ?_; first | refine sl_op rfl rfl rfl (opv_call rfl rfl rfl rfl rfl (hpk)) ?_)
          | (refine gk 5 rfl ?_; first | refine sl_alloc rfl rfl rfl rfl (by exact rfl) (fun β => ?_) | refine sl_store rfl rfl rfl rfl rfl rfl (by exact rfl) rfl (by exact rfl) ?_)
          | refine sl_region rfl ?_
          | refine sl_nil ?_
          | refine thn_k ?_
          | refine swp_true rfl ?_
          | refine swp_false rfl ?_
          | refine swp_block ?_
          | refine swp_skip ?_
          )
        refine sl_drawG [0, 1, 2, 3, 4, 5] [2, 4, 5] (V7 (acc.length : Int)) (B7 βl βe (.slice b' acc.length c')) (D7 βl βe (acc.length : Int)) [blk βl (.cells ⟨[.slice b' acc.length c']⟩ 22 (0, 0)), blk βe (.cells ⟨[.nilIface]⟩ 26 (0, 0))] rfl (by kernel_rfl) (by kernel_rfl) (by kernel_rfl) (by kernel_rfl) (by decide) (fun i hi j hj hji => by
            replace hj : j < 6 := hj
            have hjn : j = 0 ∨ j = 1 ∨ j = 2 ∨ j = 3 ∨ j = 4 ∨ j = 5 := by omega
            clear hj
            simp only [List.mem_cons, List.not_mem_nil, or_false] at hi
            rcases hi with rfl | rfl | rfl <;> rcases hjn with rfl | rfl | rfl | rfl | rfl | rfl <;> first | exact absurd rfl hji | exact .inr fun _ _ => ⟨rfl, rfl⟩ | exact .inl (by decide +kernel)) (by decide) (fun bf => ?_)
        refine gn_q rfl rfl rfl rfl rfl (by exact opv_load rfl (by exact rfl) rfl (by exact rfl)) (by exact rfl) ?_
        refine gn_q rfl rfl rfl rfl rfl (by exact opv_build rfl rfl (by exact rfl)) (by exact rfl) ?_
        refine gn_n (vf := fun b => ptr b) rfl rfl rfl rfl (by exact new_box rfl rfl (by exact rfl)) rfl (fun b => ⟨b, rfl, rfl⟩) ?_
        refine gn_q rfl rfl rfl rfl rfl (by exact opv_makeInterface rfl rfl rfl) (by exact rfl) ?_
        refine gn_s rfl rfl rfl rfl (hop_store rfl (by exact rfl) (by exact rfl) rfl rfl rfl (by exact rfl)) ⟨0, rfl⟩ ?_
        refine gn_s rfl rfl rfl rfl (hop_store rfl (by exact rfl) (by exact rfl) rfl rfl rfl (by exact rfl)) ⟨0, rfl⟩ ?_
        refine gn_nil ?_
        simp only [List.map_cons, List.map_nil, D7, List.flatten_cons, List.flatten_nil, List.cons_append, List.nil_append]
        refine thn_k ?_
        repeat' (first
          | refine swp_ret ?_
          | refine thn_ret ?_
          | refine inb_ret ?_
          )
        exact round_ret [blk βe (.cells ⟨[errV (bf 2)]⟩ 26 (0, 0)), blk βl (.cells ⟨[.slice none 0 0]⟩ 22 (0, 0)), faultB (bf 2) (acc.length : Int)] ⟨rfl, acc.length, bf 2, hpar, rfl⟩
  · rintro D own1 ⟨acc, h, b', c', rfl, os, hak, hpar⟩
    refine ⟨_, rfl, ?_⟩
    rw [List.length_map, List.drop_length, parseW] at hpar
    rw [hpar]
    repeat' (first
      | refine swp_seq ?_
      | (refine gk 3 rfl ?_; first | refine sl_op rfl rfl rfl (by first | exact opv_load rfl (by exact rfl) rfl (by exact rfl) ) ?_ )
      | (refine gk 5 rfl ?_; first | refine sl_store rfl rfl rfl rfl rfl rfl (by exact rfl) rfl (by exact rfl) ?_)
      | refine sl_region rfl ?_
      | refine sl_nil ?_
      | refine thn_k ?_
      | refine swp_ret ?_
      )
    exact end_retZ [h] (resOk_two (resV_cell rfl rfl rfl) (resV_cell rfl rfl rfl)) ⟨h, b', c', rfl, os, rfl⟩
  · rintro D c own1 ⟨rfl, q, β, hpar, rfl⟩
    refine ⟨_, rfl, ?_⟩
    rw [hpar]
    repeat' (first
      | refine swp_ret ?_
      | refine thn_ret ?_
      | refine inb_ret ?_
      )
    exact end_retZ [faultB β (q : Int)] (resOk_two (resV_cell rfl rfl rfl) (resV_cell rfl rfl rfl)) ⟨β, rfl, rfl⟩
end Go.Proofs.YtobcmglbdmaceaaGreatDoor
