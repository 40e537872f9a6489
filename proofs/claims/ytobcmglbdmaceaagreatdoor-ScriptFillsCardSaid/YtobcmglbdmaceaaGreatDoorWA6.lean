/- How picks are written: walked. -/
import Derived.Test.YtobcmglbdmaceaaGreatDoorWA1
import Derived.Test.YtobcmglbdmaceaaGreatDoorWL1
set_option linter.unusedVariables false
set_option linter.unusedSimpArgs false
set_option linter.unusedSectionVars false
namespace Go.Proofs.YtobcmglbdmaceaaGreatDoor
open Go.SL
set_option maxRecDepth 100000
set_option maxHeartbeats 16000000
/-- The letters of kinds, as entries. -/
def lets : Array MapEntry := ⟨[⟨i64 0, str [], 0⟩, ⟨i64 1, str [116], 1⟩, ⟨i64 2, str [115], 2⟩]⟩
abbrev lettersH (b : Nat) : Heap := blk b (.map lets 3)
def letF (z : Int) : Option (List UInt8) := if z = 0 then some [] else if z = 1 then some [116] else if z = 2 then some [115] else none
theorem lets_mp (b : Nat) : MP (lettersH b) b .i64 (fun z => (letF z).map str) := by
  refine ⟨lets, 3, rfl, fun e he => ?_, fun z => ?_⟩
  · simp [lets] at he
    rcases he with rfl | rfl | rfl <;> exact ⟨_, rfl⟩
  · simp only [lets, lookE, letF]
    by_cases h0 : z = 0
    · simp [h0]
    · by_cases h1 : z = 1
      · simp [h1]
      · by_cases h2 : z = 2
        · simp [h2]
        · simp [h0, h1, h2]
/-- The word of a pick. -/
def wordP (p : Pk) : List UInt8 := match letF p.kd with
  | some s => if 0 ≤ p.th ∧ p.th ≤ 99999 then Lib.itoa p.th ++ s else [45]
  | none => [45]
def printF (l : List Pk) : List UInt8 := Lib.join (l.map wordP) [32]
theorem dd_len : ∀ (k u : Nat), u < 10 ^ (k + 1) → (Lib.decDigits u).length ≤ k + 1
  | 0, u, h => by
    rw [Lib.decDigits, dif_pos (by simpa using h)]
    simp
  | k + 1, u, h => by
    rw [Lib.decDigits]
    split
    · simp
    · rw [List.length_append]
      have := dd_len k (u / 10) (by rw [Nat.div_lt_iff_lt_mul (by decide)]; rw [Nat.pow_succ] at h; exact h)
      simp; omega
theorem wordP_len (p : Pk) : (wordP p).length ≤ 6 := by
  unfold wordP
  cases h : letF p.kd with
  | none => simp
  | some s =>
    have hs : s.length ≤ 1 := by
      unfold letF at h
      split at h
      · cases h; simp
      · split at h
        · cases h; simp
        · split at h
          · cases h; simp
          · cases h
    dsimp only
    split
    · rename_i hb
      rw [List.length_append]
      have : (Lib.itoa p.th).length ≤ 5 := by
        unfold Lib.itoa
        rw [if_neg (by omega)]
        exact dd_len 4 _ (by simp; omega)
      omega
    · simp
theorem join_len (sep : List UInt8) (m : Nat) : ∀ (xs : List (List UInt8)), (∀ x ∈ xs, x.length ≤ m) → (Lib.join xs sep).length ≤ xs.length * (m + sep.length)
  | [], _ => by simp [Lib.join_nil]
  | x :: r, h => by
    have hx := h x (by simp)
    rw [Lib.join_length]
    have : Lib.lens r ≤ r.length * m := by
      have hr : ∀ y ∈ r, y.length ≤ m := fun y hy => h y (by simp [hy])
      clear h hx
      induction r with
      | nil => simp [Lib.lens]
      | cons y r ih =>
        have h1 := hr y (by simp)
        have h2 := ih (fun z hz => hr z (by simp [hz]))
        simp only [Lib.lens, List.map_cons, List.sum_cons, List.length_cons] at h2 ⊢
        rw [Nat.add_mul]; omega
    have e : Lib.lens (x :: r) = x.length + Lib.lens r := by simp [Lib.lens]
    rw [e, List.length_cons, Nat.add_mul, Nat.mul_add, Nat.mul_comm sep.length]
    omega
attribute [local irreducible] SL.T PFn OpV SOL SWP HOp ChU
-- ALIAS Tryz
theorem letters_calls : SL.T Tryz.prog 20 [] [] fun e o => ∃ b, e = .returned (.map (some b)) ∧ o = [lettersH b] := by
  refine t_of_body Tryz.func20 rfl (Nat.le_of_ble_eq_true rfl) fun F => ?_
  repeat' (first
    | refine sl_makeMap rfl rfl rfl rfl (fun b => ?_)
    | refine sl_insertC (es := #[]) (clk := 0) rfl rfl rfl rfl rfl rfl rfl ?_
    | refine sl_insertC (es := ((#[] : Array MapEntry).push ⟨i64 0, str [], 0⟩)) (clk := 0 + 1) rfl rfl rfl rfl rfl rfl rfl ?_
    | refine sl_insertC (es := (((#[] : Array MapEntry).push ⟨i64 0, str [], 0⟩).push ⟨i64 1, str [116], 0 + 1⟩)) (clk := 0 + 1 + 1) rfl rfl rfl rfl rfl rfl rfl ?_
    | refine swp_seq ?_
    | (refine gk 0 rfl ?_; first | refine sl_op rfl rfl rfl (by first | exact opv_move rfl rfl | exact opv_assign rfl rfl | exact opv_pick_t rfl rfl rfl | exact opv_pick_f rfl rfl rfl | exact opv_not_t rfl rfl | exact opv_not_f rfl rfl | exact opv_not rfl rfl | exact opv_extract rfl rfl rfl | exact opv_makeFunc rfl rfl rfl) ?_ | refine sl_bool rfl rfl rfl (by first | exact opv_move rfl rfl | exact opv_assign rfl rfl | exact opv_pick_t rfl rfl rfl | exact opv_pick_f rfl rfl rfl | exact opv_not_t rfl rfl | exact opv_not_f rfl rfl | exact opv_not rfl rfl | exact opv_extract rfl rfl rfl | exact opv_makeFunc rfl rfl rfl) (fun h => ?_) (fun h => ?_) | refine sl_pass rfl rfl rfl rfl ?_)
    | (refine gk 1 rfl ?_; first | refine sl_op rfl rfl rfl (by first | exact opv_add64 rfl rfl rfl (by omega) (by omega) | exact opv_sub64 rfl rfl rfl (by omega) (by omega) | exact opv_add rfl rfl rfl | exact opv_sub rfl rfl rfl | exact opv_mul rfl rfl rfl | exact opv_rem rfl rfl rfl (by omega) | exact opv_quo rfl rfl rfl (by omega) | exact opv_shl rfl rfl rfl (by omega) | exact opv_shr rfl rfl rfl (by omega) | exact opv_bits rfl rfl rfl (by decide)) ?_ | refine sl_pass rfl rfl rfl rfl ?_)
    | (refine gk 2 rfl ?_; first | refine sl_pass rfl rfl rfl rfl ?_ | refine sl_yes rfl rfl rfl (by first | exact opv_lss rfl rfl rfl | exact opv_leq rfl rfl rfl | exact opv_gtr rfl rfl rfl | exact opv_geq rfl rfl rfl | exact opv_eql rfl rfl rfl | exact opv_neq rfl rfl rfl) (by first | omega | decide +kernel) ?_ | refine sl_no rfl rfl rfl (by first | exact opv_lss rfl rfl rfl | exact opv_leq rfl rfl rfl | exact opv_gtr rfl rfl rfl | exact opv_geq rfl rfl rfl | exact opv_eql rfl rfl rfl | exact opv_neq rfl rfl rfl) (by first | omega | decide +kernel) ?_ | refine sl_if rfl rfl rfl (by first | exact opv_lss rfl rfl rfl | exact opv_leq rfl rfl rfl | exact opv_gtr rfl rfl rfl | exact opv_geq rfl rfl rfl | exact opv_eql rfl rfl rfl | exact opv_neq rfl rfl rfl) (fun h => ?_) (fun h => ?_) | refine sl_op rfl rfl rfl (by first | exact opv_isNil rfl rfl | exact opv_ptrEql rfl rfl | exact opv_ptrNeq rfl rfl) ?_ | refine sl_tt rfl rfl rfl (by first | exact opv_eqlB Tryz.underlying4 rfl rfl rfl | exact opv_neqB Tryz.underlying4 rfl rfl rfl | exact opv_eqlS rfl rfl rfl rfl | exact opv_neqS rfl rfl rfl rfl) (by first | rfl | assumption) ?_ | refine sl_ff rfl rfl rfl (by first | exact opv_eqlB Tryz.underlying4 rfl rfl rfl | exact opv_neqB Tryz.underlying4 rfl rfl rfl | exact opv_eqlS rfl rfl rfl rfl | exact opv_neqS rfl rfl rfl rfl) (by first | rfl | assumption) ?_ | refine sl_bool rfl rfl rfl (by first | exact opv_eqlB Tryz.underlying4 rfl rfl rfl | exact opv_neqB Tryz.underlying4 rfl rfl rfl | exact opv_eqlS rfl rfl rfl rfl | exact opv_neqS rfl rfl rfl rfl) (fun h => ?_) (fun h => ?_))
    | (refine gk 3 rfl ?_; first | refine sl_op rfl rfl rfl (by first | exact opv_load rfl (by exact rfl) rfl (by exact rfl) | exact opv_fieldAddr rfl rfl | exact opv_loadA rfl (by exact rfl) rfl (by exact rfl) (by exact rfl) | exact opv_indexAddrI rfl rfl rfl (by omega) (by omega) (by first | omega | (simp only [List.length_map]; omega) | (simp only [List.length_cons, List.length_nil]; omega)) | exact opv_index rfl rfl rfl (by omega) (by omega) (by first | assumption | exact rfl) | exact opv_indexA rfl rfl rfl (by omega) (by omega) (by first | assumption | exact rfl) | exact opv_indexAddrR rfl rfl rfl (by omega) (by omega) | exact opv_fieldAddrE rfl rfl (by first | assumption | omega) | exact opv_loadELx rfl (by exact rfl) (by infer_instance) rfl rfl rfl | exact opv_loadEx rfl (by exact rfl) (by infer_instance) (by first | assumption | exact rfl) | exact opv_load2 rfl (by exact rfl) (by infer_instance) (by assumption) (by assumption) | exact opv_load3 rfl (by exact rfl) (by infer_instance) (by assumption) (by assumption) (by assumption)) ?_ | refine sl_pass rfl rfl rfl rfl ?_)
    | (refine gk 4 rfl ?_; first | refine sl_pass rfl rfl rfl rfl ?_ | refine sl_op rfl rfl rfl (by first | exact opv_len rfl rfl rfl rfl rfl | exact opv_min rfl rfl rfl rfl rfl | exact opv_max rfl rfl rfl rfl rfl) ?_)
    | (refine gk 5 rfl ?_; first | refine sl_op rfl rfl rfl (by first | exact opv_nilCheck rfl rfl | exact opv_nilCheckE rfl rfl | exact opv_build rfl rfl (by exact rfl) | exact opv_slice3 rfl rfl rfl rfl (by omega) (by omega) (by omega) | exact opv_sliceLo rfl rfl rfl (by omega) (by omega) | exact opv_convert rfl rfl | exact opv_sliceHi rfl rfl rfl (by omega) (by omega) | exact opv_arrayAt rfl rfl rfl rfl) ?_ | refine sl_pass rfl rfl rfl rfl ?_ | refine sl_buildSlice rfl rfl rfl rfl rfl (by exact rfl) (by exact rfl) (by exact rfl) (by exact rfl) rfl (fun b => ?_) | refine sl_box rfl rfl rfl rfl rfl rfl (fun β => ?_) | refine sl_alloc rfl rfl rfl rfl (by exact rfl) (fun β => ?_) | refine sl_store rfl rfl rfl rfl rfl rfl (by exact rfl) rfl (by exact rfl) ?_)
    | refine sl_region rfl ?_
    | refine sl_draw (by kernel_rfl) (by kernel_rfl) rfl ?_
    | refine chu_nil ?_
    | refine chu_q rfl ?_
    | refine chu_f rfl ?_
    | refine chu_r rfl ?_
    | refine chu_new rfl rfl (by first | exact new_alloc rfl (by exact rfl) | exact new_box rfl rfl rfl | exact new_makeSlice rfl rfl rfl rfl (by omega) (by omega) | exact new_buildSlice rfl rfl (by exact rfl) (by exact rfl) (by exact rfl) (by exact rfl) (by exact rfl)) ?_
    | refine chu_rv rfl rfl rfl (fun β => ?_)
    | refine chu_pass rfl rfl rfl rfl ?_
    | refine chu_store rfl rfl rfl rfl rfl rfl (by exact rfl) rfl (by exact rfl) (by exact rfl) ?_
    | refine chu_storeL rfl (by decide +kernel) rfl rfl rfl rfl rfl (by exact rfl) rfl (by exact rfl) (by exact rfl) ?_
    | refine sl_nil ?_
    | refine thn_k ?_
    | refine swp_true rfl ?_
    | refine swp_false rfl ?_
    | refine swp_block ?_
    | refine swp_ret ?_
    | refine swp_exit ?_
    | refine swp_skip ?_
    | refine thn_ret ?_
    | refine inb_ret ?_
    | refine inb_k ?_
    | refine thn_exit ?_
    | refine inb_exit ?_
    | refine inb_out rfl ?_)
  exact end_retZ [blk b (.map ((((#[] : Array MapEntry).push ⟨i64 0, str [], 0⟩).push ⟨i64 1, str [116], 0 + 1⟩).push ⟨i64 2, str [115], 0 + 1 + 1⟩) (0 + 1 + 1 + 1))] (resOk_one (resV_tmp rfl)) ⟨b, rfl, rfl⟩
end Go.Proofs.YtobcmglbdmaceaaGreatDoor
