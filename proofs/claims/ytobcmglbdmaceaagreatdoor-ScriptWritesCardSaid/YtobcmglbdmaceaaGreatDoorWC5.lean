/- The document's word: walked. -/
import Derived.Test.YtobcmglbdmaceaaGreatDoorWC2
set_option linter.unusedVariables false
set_option linter.unusedSimpArgs false
set_option linter.unusedSectionVars false
namespace Go.Proofs.YtobcmglbdmaceaaGreatDoor
open Go.SL
set_option maxRecDepth 100000
set_option maxHeartbeats 16000000
/-- What the document's word answers. -/
def WQ (r : Option Pk) (e : Ending) (o : List Heap) : Prop := o = [] ∧ match r with
  | some p => e = .returned (.tuple ⟨[.agg ⟨[i64 p.th, i64 p.kd]⟩, .bool true]⟩)
  | none => ∃ x y, e = .returned (.tuple ⟨[.agg ⟨[i64 x, i64 y]⟩, .bool false]⟩)
theorem wq_none {fn : Func} {n : Nat} {env : Env} {own own1 : List Heap} {ds : List Deferred} {x y : Int} [m : Marks ds own own1] (hr : ResOk Tryz.prog fn.results.toList own1 env n (.tuple ⟨[.agg ⟨[i64 x, i64 y]⟩, .bool false]⟩)) : bodyQ Tryz.prog fn n (WQ none) .ret env own ds :=
  end_retZ (rest := own1) [] (t := ⟨List.Perm.refl _⟩) hr ⟨rfl, x, y, rfl⟩
theorem stripF_last {s : List UInt8} {c : UInt8} (h : s.getLast? = some c) : (c = 116 ∧ stripF s = (s.dropLast, 1)) ∨ (c = 115 ∧ stripF s = (s.dropLast, 2)) ∨ (c ≠ 116 ∧ c ≠ 115 ∧ stripF s = (s, 0)) := by
  obtain ⟨t, rfl⟩ := List.getLast?_eq_some_iff.1 h
  unfold stripF
  by_cases h1 : c = 116
  · subst h1
    refine .inl ⟨rfl, ?_⟩
    rw [if_pos ((suffix_last _ _).2 (by simp)), trim_snoc]; simp
  · by_cases h2 : c = 115
    · subst h2
      refine .inr (.inl ⟨rfl, ?_⟩)
      rw [if_neg (by rw [suffix_other ((suffix_last _ _).2 (by simp)) (by decide : (115 : UInt8) ≠ 116)]; simp), if_pos ((suffix_last _ _).2 (by simp)), trim_snoc]; simp
    · refine .inr (.inr ⟨h1, h2, ?_⟩)
      rw [if_neg (fun e => h1 (by have := (suffix_last _ _).1 e; simp at this; exact this)), if_neg (fun e => h2 (by have := (suffix_last _ _).1 e; simp at this; exact this))]
theorem decFrom_bad {d : List UInt8} {k : Nat} {b : UInt8} (hb : d[k]? = some b) (hd : Lib.digitVal b = none) : Lib.decNat d = none := by
  refine decNat_not fun h => ?_
  obtain ⟨v, hv⟩ := (dig_iff b).1 (h b (List.mem_of_getElem? hb))
  rw [hd] at hv; cases hv
theorem decFrom_le {d : List UInt8} : ∀ {acc m : Nat}, Lib.decFrom acc d = some m → m < (acc + 1) * 10 ^ d.length := by
  induction d with
  | nil => intro acc m h; rw [Lib.decFrom] at h; cases h; simp
  | cons b d ih =>
    intro acc m h
    rw [Lib.decFrom] at h
    cases e : Lib.digitVal b with
    | none => rw [e] at h; cases h
    | some v =>
      rw [e] at h
      have hv := Lib.digitVal_eq e
      have := ih h
      rw [List.length_cons, Nat.pow_succ]
      have h2 : (acc * 10 + v + 1) * 10 ^ d.length ≤ ((acc + 1) * 10) * 10 ^ d.length := Nat.mul_le_mul_right _ (by omega)
      calc m < (acc * 10 + v + 1) * 10 ^ d.length := this
        _ ≤ ((acc + 1) * 10) * 10 ^ d.length := h2
        _ = (acc + 1) * (10 ^ d.length * 10) := by rw [Nat.mul_assoc, Nat.mul_comm 10]
theorem wrap_small : ∀ n : Fin 256, IntKind.u8.wrap (n.val : Int) = (n.val : Int) := by decide +kernel
attribute [local irreducible] SL.T PFn OpV SOL SWP HOp ChU
-- ALIAS Tryz
theorem word_calls (s : List UInt8) (hs : s.length ≤ 1000000) (h0 : s ≠ []) : SL.T Tryz.prog 26 [str s] [] (WQ (pickF s)) := by
  obtain ⟨c, hc⟩ : ∃ c, s.getLast? = some c := by
    cases e : s.getLast? with
    | none => exact absurd (List.getLast?_eq_none_iff.1 e) h0
    | some c => exact ⟨c, rfl⟩
  have hl0 : 0 < s.length := List.length_pos_iff.2 h0
  have hix : s[((s.length : Int) - 1).toNat]? = some c := by
    rw [List.getLast?_eq_getElem?] at hc
    rw [show ((s.length : Int) - 1).toNat = s.length - 1 by omega]; exact hc
  have hdl : s.take ((s.length : Int) - 1).toNat = s.dropLast := by
    rw [show ((s.length : Int) - 1).toNat = s.length - 1 by omega, List.dropLast_eq_take]
  refine t_of_body Tryz.func26 rfl (Nat.le_of_ble_eq_true rfl) fun F => ?_
  repeat' ((fail_if_success (refine stop_at 2 ?_)); (first
    | refine swp_seq ?_
    | (refine gk 0 rfl ?_; first | refine sl_op rfl rfl rfl (by first | exact opv_assign rfl rfl ) ?_ )
    | (refine gk 5 rfl ?_; first | refine sl_op rfl rfl rfl (by first | exact opv_build rfl rfl (by exact rfl) ) ?_ | refine sl_alloc rfl rfl rfl rfl (by exact rfl) (fun β => ?_) | refine sl_store rfl rfl rfl rfl rfl rfl (by exact rfl) rfl (by exact rfl) ?_)
    | refine sl_region rfl ?_
    | refine sl_nil ?_
    ))
  obtain ⟨β4, rfl⟩ : ∃ x, x = β := ⟨_, rfl⟩
  obtain ⟨β2, rfl⟩ : ∃ x, x = β := ⟨_, rfl⟩
  obtain ⟨k1, hk1⟩ : ∃ k1 : Int, k1 = if c.toNat = 116 then 1 else 0 := ⟨_, rfl⟩
  obtain ⟨k2, hk2⟩ : ∃ k2 : Int, k2 = if c.toNat = 115 then 2 else k1 := ⟨_, rfl⟩
  have hd : (stripF s).2 = k2 ∧ (stripF s).1 = if k2 = 0 then s else s.dropLast := by
    rcases stripF_last hc with ⟨rfl, h⟩ | ⟨rfl, h⟩ | ⟨h1, h2, h⟩
    · rw [h]; subst hk2; subst hk1; exact ⟨rfl, rfl⟩
    · rw [h]; subst hk2; subst hk1; exact ⟨rfl, rfl⟩
    · have n1 : ¬ c.toNat = 116 := fun e => h1 (UInt8.toNat_inj.1 e)
      have n2 : ¬ c.toNat = 115 := fun e => h2 (UInt8.toNat_inj.1 e)
      rw [h, hk2, hk1, if_neg n2, if_neg n1]; exact ⟨rfl, rfl⟩
  refine swp_seq ?_
  refine swp_joinS (S := Unit) (fun _ => [(0, str s), (2, ptr β2), (4, ptr β4)]) (fun _ => [blk β4 (.cells ⟨[i64 0, i64 k1]⟩ 42 (0, 0)), blk β2 (.cells ⟨[i64 0, i64 0]⟩ 42 (0, 0))]) (fun _ => True) ?_ ?_
  · by_cases h : c.toNat = 116
    · rw [if_pos h] at hk1
      subst hk1
      repeat' (first
        | refine sl_op rfl rfl rfl (opv_lenS rfl rfl rfl rfl rfl) ?_
        | refine sl_op rfl rfl rfl (opv_indexS rfl rfl rfl (by omega) hix) ?_
        | refine swp_seq ?_
        | (refine gk 0 rfl ?_; first | refine sl_op rfl rfl rfl (by first | exact opv_move rfl rfl ) ?_ )
        | (refine gk 1 rfl ?_; first | refine sl_op rfl rfl rfl (by first | exact opv_sub64 rfl rfl rfl (by omega) (by omega) ) ?_ )
        | (refine gk 2 rfl ?_; first | refine sl_yes rfl rfl rfl (by first | exact opv_eql rfl rfl rfl ) (by first | omega ) ?_ )
        | (refine gk 3 rfl ?_; first | refine sl_op rfl rfl rfl (by first | exact opv_fieldAddr rfl rfl ) ?_ )
        | (refine gk 5 rfl ?_; first | refine sl_store rfl rfl rfl rfl rfl rfl (by exact rfl) rfl (by exact rfl) ?_)
        | refine sl_region rfl ?_
        | refine sl_nil ?_
        | refine thn_k ?_
        | refine swp_true rfl ?_
        )
      exact ⟨rfl, (), next_ok (by repeat first | exact Sub.nil _ | refine Sub.cons rfl ?_), trivial⟩
    · rw [if_neg h] at hk1
      subst hk1
      repeat' (first
        | refine sl_op rfl rfl rfl (opv_lenS rfl rfl rfl rfl rfl) ?_
        | refine sl_op rfl rfl rfl (opv_indexS rfl rfl rfl (by omega) hix) ?_
        | refine swp_seq ?_
        | (refine gk 0 rfl ?_; first | refine sl_op rfl rfl rfl (by first | exact opv_move rfl rfl ) ?_ )
        | (refine gk 1 rfl ?_; first | refine sl_op rfl rfl rfl (by first | exact opv_sub64 rfl rfl rfl (by omega) (by omega) ) ?_ )
        | (refine gk 2 rfl ?_; first | refine sl_no rfl rfl rfl (by first | exact opv_eql rfl rfl rfl ) (by first | omega ) ?_ )
        | refine sl_region rfl ?_
        | refine sl_nil ?_
        | refine thn_k ?_
        | refine swp_false rfl ?_
        | refine swp_skip ?_
        )
      exact ⟨rfl, (), next_ok (by repeat first | exact Sub.nil _ | refine Sub.cons rfl ?_), trivial⟩
  rintro - -
  clear hk1
  refine swp_seq ?_
  refine swp_joinS (S := Unit) (fun _ => [(0, str s), (2, ptr β2), (4, ptr β4)]) (fun _ => [blk β4 (.cells ⟨[i64 0, i64 k2]⟩ 42 (0, 0)), blk β2 (.cells ⟨[i64 0, i64 0]⟩ 42 (0, 0))]) (fun _ => True) ?_ ?_
  · by_cases h : c.toNat = 115
    · rw [if_pos h] at hk2
      subst hk2
      repeat' (first
        | refine sl_op rfl rfl rfl (opv_lenS rfl rfl rfl rfl rfl) ?_
        | refine sl_op rfl rfl rfl (opv_indexS rfl rfl rfl (by omega) hix) ?_
        | refine swp_seq ?_
        | (refine gk 0 rfl ?_; first | refine sl_op rfl rfl rfl (by first | exact opv_move rfl rfl ) ?_ )
        | (refine gk 1 rfl ?_; first | refine sl_op rfl rfl rfl (by first | exact opv_sub64 rfl rfl rfl (by omega) (by omega) ) ?_ )
        | (refine gk 2 rfl ?_; first | refine sl_yes rfl rfl rfl (by first | exact opv_eql rfl rfl rfl ) (by first | omega ) ?_ )
        | (refine gk 3 rfl ?_; first | refine sl_op rfl rfl rfl (by first | exact opv_fieldAddr rfl rfl ) ?_ )
        | (refine gk 5 rfl ?_; first | refine sl_store rfl rfl rfl rfl rfl rfl (by exact rfl) rfl (by exact rfl) ?_)
        | refine sl_region rfl ?_
        | refine sl_nil ?_
        | refine thn_k ?_
        | refine swp_true rfl ?_
        )
      exact ⟨rfl, (), next_ok (by repeat first | exact Sub.nil _ | refine Sub.cons rfl ?_), trivial⟩
    · rw [if_neg h] at hk2
      subst hk2
      repeat' (first
        | refine sl_op rfl rfl rfl (opv_lenS rfl rfl rfl rfl rfl) ?_
        | refine sl_op rfl rfl rfl (opv_indexS rfl rfl rfl (by omega) hix) ?_
        | refine swp_seq ?_
        | (refine gk 0 rfl ?_; first | refine sl_op rfl rfl rfl (by first | exact opv_move rfl rfl ) ?_ )
        | (refine gk 1 rfl ?_; first | refine sl_op rfl rfl rfl (by first | exact opv_sub64 rfl rfl rfl (by omega) (by omega) ) ?_ )
        | (refine gk 2 rfl ?_; first | refine sl_no rfl rfl rfl (by first | exact opv_eql rfl rfl rfl ) (by first | omega ) ?_ )
        | refine sl_region rfl ?_
        | refine sl_nil ?_
        | refine thn_k ?_
        | refine swp_false rfl ?_
        | refine swp_skip ?_
        )
      exact ⟨rfl, (), next_ok (by repeat first | exact Sub.nil _ | refine Sub.cons rfl ?_), trivial⟩
  rintro - -
  clear hk2
  unfold pickF
  rw [hd.1, hd.2]
  obtain ⟨d, hdd⟩ : ∃ d, d = if k2 = 0 then s else s.dropLast := ⟨_, rfl⟩
  have hdlen : d.length ≤ 1000000 := by
    rw [hdd]; split
    · exact hs
    · rw [List.length_dropLast]; omega
  rw [← hdd]
  refine swp_seq ?_
  refine swp_joinS (S := Unit) (fun _ => [(0, str d), (2, ptr β2), (4, ptr β4)]) (fun _ => [blk β4 (.cells ⟨[i64 0, i64 k2]⟩ 42 (0, 0)), blk β2 (.cells ⟨[i64 0, i64 0]⟩ 42 (0, 0))]) (fun _ => True) ?_ ?_
  · by_cases h : k2 = 0
    · rw [if_pos h] at hdd
      subst hdd
      repeat' (first
        | refine swp_seq ?_
        | (refine gk 2 rfl ?_; first | refine sl_no rfl rfl rfl (by first | exact opv_neq rfl rfl rfl) (by first | omega ) ?_ )
        | (refine gk 3 rfl ?_; first | refine sl_op rfl rfl rfl (by first | exact opv_load rfl (by exact rfl) rfl (by exact rfl) | exact opv_fieldAddr rfl rfl ) ?_ )
        | refine sl_region rfl ?_
        | refine sl_nil ?_
        | refine thn_k ?_
        | refine swp_false rfl ?_
        | refine swp_skip ?_
        )
      exact ⟨rfl, (), next_ok (by repeat first | exact Sub.nil _ | refine Sub.cons rfl ?_), trivial⟩
    · rw [if_neg h] at hdd
      subst hdd
      repeat' (first
        | refine sl_op rfl rfl rfl (opv_lenS rfl rfl rfl rfl rfl) ?_
        | refine sl_op rfl rfl rfl ((opv_sliceSHi rfl rfl rfl (by omega) (by omega)).to (congrArg str hdl)) ?_
        | refine swp_seq ?_
        | (refine gk 0 rfl ?_; first | refine sl_op rfl rfl rfl (by first | exact opv_move rfl rfl | exact opv_assign rfl rfl ) ?_ )
        | (refine gk 1 rfl ?_; first | refine sl_op rfl rfl rfl (by first | exact opv_sub64 rfl rfl rfl (by omega) (by omega) ) ?_ )
        | (refine gk 2 rfl ?_; first | refine sl_yes rfl rfl rfl (by first | exact opv_neq rfl rfl rfl) (by first | omega ) ?_ )
        | (refine gk 3 rfl ?_; first | refine sl_op rfl rfl rfl (by first | exact opv_load rfl (by exact rfl) rfl (by exact rfl) | exact opv_fieldAddr rfl rfl ) ?_ )
        | refine sl_region rfl ?_
        | refine sl_nil ?_
        | refine thn_k ?_
        | refine swp_true rfl ?_
        )
      exact ⟨rfl, (), next_ok (by repeat first | exact Sub.nil _ | refine Sub.cons rfl ?_), trivial⟩
  rintro - -
  clear hdd hd hix hdl hl0 hc h0 hs
  by_cases hz : d = []
  · subst hz
    have hf : decF [] = none := by decide
    rw [hf]
    repeat' (first
      | refine sl_op rfl rfl rfl ((opv_lenS rfl rfl rfl rfl rfl).to (show _ = i64 0 from rfl)) ?_
      | refine swp_seq ?_
      | (refine gk 0 rfl ?_; first | refine sl_op rfl rfl rfl (by first | exact opv_move rfl rfl | exact opv_assign rfl rfl | exact opv_pick_t rfl rfl rfl ) ?_ | refine sl_pass rfl rfl rfl rfl ?_)
      | (refine gk 2 rfl ?_; first | refine sl_pass rfl rfl rfl rfl ?_ | refine sl_yes rfl rfl rfl (by first | exact opv_lss rfl rfl rfl ) (by first | omega ) ?_ )
      | (refine gk 3 rfl ?_; first | refine sl_op rfl rfl rfl (by first | exact opv_loadA rfl (by exact rfl) rfl (by exact rfl) (by exact rfl) ) ?_ | refine sl_pass rfl rfl rfl rfl ?_)
      | (refine gk 4 rfl ?_; first | refine sl_pass rfl rfl rfl rfl ?_ )
      | (refine gk 5 rfl ?_; first | refine sl_store rfl rfl rfl rfl rfl rfl (by exact rfl) rfl (by exact rfl) ?_)
      | refine sl_region rfl ?_
      | refine sl_nil ?_
      | refine thn_k ?_
      | refine swp_true rfl ?_
      | refine swp_ret ?_
      | refine thn_ret ?_
      )
    exact wq_none (resOk_two (resV_cellA rfl rfl rfl rfl) (resV_tmp rfl))
  have hl1 : 0 < d.length := List.length_pos_iff.2 hz
  by_cases h5 : 5 < d.length
  · have hf : decF d = none := by unfold decF; rw [if_pos (.inl h5)]
    rw [hf]
    repeat' (first
      | refine sl_op rfl rfl rfl (opv_lenS rfl rfl rfl rfl rfl) ?_
      | refine swp_seq ?_
      | (refine gk 0 rfl ?_; first | refine sl_op rfl rfl rfl (by first | exact opv_move rfl rfl | exact opv_assign rfl rfl | exact opv_pick_t rfl rfl rfl | exact opv_pick_f rfl rfl rfl ) ?_ | refine sl_pass rfl rfl rfl rfl ?_)
      | (refine gk 2 rfl ?_; first | refine sl_pass rfl rfl rfl rfl ?_ | refine sl_yes rfl rfl rfl (by first | exact opv_lss rfl rfl rfl | exact opv_gtr rfl rfl rfl ) (by first | omega ) ?_ | refine sl_no rfl rfl rfl (by first | exact opv_lss rfl rfl rfl ) (by first | omega ) ?_ )
      | (refine gk 3 rfl ?_; first | refine sl_op rfl rfl rfl (by first | exact opv_loadA rfl (by exact rfl) rfl (by exact rfl) (by exact rfl) ) ?_ | refine sl_pass rfl rfl rfl rfl ?_)
      | (refine gk 4 rfl ?_; first | refine sl_pass rfl rfl rfl rfl ?_ )
      | (refine gk 5 rfl ?_; first | refine sl_store rfl rfl rfl rfl rfl rfl (by exact rfl) rfl (by exact rfl) ?_)
      | refine sl_region rfl ?_
      | refine sl_nil ?_
      | refine thn_k ?_
      | refine swp_true rfl ?_
      | refine swp_ret ?_
      | refine thn_ret ?_
      )
    exact wq_none (resOk_two (resV_cellA rfl rfl rfl rfl) (resV_tmp rfl))
  obtain ⟨b0, hb0⟩ : ∃ b0, d[0]? = some b0 := ⟨_, List.getElem?_eq_getElem hl1⟩
  have hhead : d.head? = some b0 := by rw [List.head?_eq_getElem?]; exact hb0
  have hlb := b0.toNat_lt
  have hb0' : d[(0 : Int).toNat]? = some b0 := hb0
  by_cases h48 : b0.toNat = 48 ∧ 1 < d.length
  · have hf : decF d = none := by
      unfold decF; rw [if_pos (.inr ⟨by rw [hhead]; congr 1; exact UInt8.toNat_inj.1 h48.1, h48.2⟩)]
    rw [hf]
    obtain ⟨h48, h1⟩ := h48
    repeat' (first
      | refine sl_op rfl rfl rfl (opv_lenS rfl rfl rfl rfl rfl) ?_
      | refine sl_op rfl rfl rfl (opv_indexS rfl rfl rfl (by omega) hb0') ?_
      | refine swp_seq ?_
      | (refine gk 0 rfl ?_; first | refine sl_op rfl rfl rfl (by first | exact opv_move rfl rfl | exact opv_assign rfl rfl | exact opv_pick_t rfl rfl rfl | exact opv_pick_f rfl rfl rfl ) ?_ )
      | (refine gk 2 rfl ?_; first | refine sl_yes rfl rfl rfl (by first | exact opv_lss rfl rfl rfl | exact opv_gtr rfl rfl rfl | exact opv_eql rfl rfl rfl ) (by first | omega ) ?_ | refine sl_no rfl rfl rfl (by first | exact opv_lss rfl rfl rfl | exact opv_gtr rfl rfl rfl ) (by first | omega ) ?_ )
      | (refine gk 3 rfl ?_; first | refine sl_op rfl rfl rfl (by first | exact opv_loadA rfl (by exact rfl) rfl (by exact rfl) (by exact rfl) ) ?_ )
      | (refine gk 5 rfl ?_; first | refine sl_store rfl rfl rfl rfl rfl rfl (by exact rfl) rfl (by exact rfl) ?_)
      | refine sl_region rfl ?_
      | refine sl_nil ?_
      | refine thn_k ?_
      | refine swp_true rfl ?_
      | refine swp_ret ?_
      | refine thn_ret ?_
      )
    exact wq_none (resOk_two (resV_cellA rfl rfl rfl rfl) (resV_tmp rfl))
  have hf : decF d = Lib.decNat d := by
    unfold decF
    rw [if_neg]
    rintro (h | ⟨h, h1⟩)
    · exact h5 h
    · rw [hhead] at h
      exact h48 ⟨by rw [Option.some.inj h]; rfl, h1⟩
  rw [hf]
  have hdn : Lib.decNat d = Lib.decFrom 0 d := by unfold Lib.decNat; rw [if_neg (by simpa using hz)]
  rw [hdn]
  refine swp_seq ?_
  refine swp_joinS (S := Unit) (fun _ => [(0, str d), (2, ptr β2), (4, ptr β4)]) (fun _ => [blk β4 (.cells ⟨[i64 0, i64 k2]⟩ 42 (0, 0)), blk β2 (.cells ⟨[i64 0, i64 0]⟩ 42 (0, 0))]) (fun _ => True) ?_ ?_
  · by_cases e48 : b0.toNat = 48
    · have h1 : ¬ 1 < d.length := fun h => h48 ⟨e48, h⟩
      repeat' (first
        | refine sl_op rfl rfl rfl (opv_lenS rfl rfl rfl rfl rfl) ?_
        | refine sl_op rfl rfl rfl (opv_indexS rfl rfl rfl (by omega) hb0') ?_
        | refine swp_seq ?_
        | (refine gk 0 rfl ?_; first | refine sl_op rfl rfl rfl (by first | exact opv_move rfl rfl | exact opv_pick_t rfl rfl rfl | exact opv_pick_f rfl rfl rfl ) ?_ )
        | (refine gk 2 rfl ?_; first | refine sl_yes rfl rfl rfl (by first | exact opv_lss rfl rfl rfl | exact opv_gtr rfl rfl rfl | exact opv_eql rfl rfl rfl ) (by first | omega ) ?_ | refine sl_no rfl rfl rfl (by first | exact opv_lss rfl rfl rfl | exact opv_gtr rfl rfl rfl ) (by first | omega ) ?_ )
        | refine sl_region rfl ?_
        | refine sl_nil ?_
        | refine thn_k ?_
        | refine swp_false rfl ?_
        | refine swp_skip ?_
        )
      exact ⟨rfl, (), next_ok (by repeat first | exact Sub.nil _ | refine Sub.cons rfl ?_), trivial⟩
    · repeat' (first
        | refine sl_op rfl rfl rfl (opv_lenS rfl rfl rfl rfl rfl) ?_
        | refine sl_op rfl rfl rfl (opv_indexS rfl rfl rfl (by omega) hb0') ?_
        | refine swp_seq ?_
        | (refine gk 0 rfl ?_; first | refine sl_op rfl rfl rfl (by first | exact opv_move rfl rfl | exact opv_pick_f rfl rfl rfl ) ?_ | refine sl_pass rfl rfl rfl rfl ?_)
        | (refine gk 2 rfl ?_; first | refine sl_pass rfl rfl rfl rfl ?_ | refine sl_no rfl rfl rfl (by first | exact opv_lss rfl rfl rfl | exact opv_gtr rfl rfl rfl | exact opv_eql rfl rfl rfl ) (by first | omega ) ?_ )
        | (refine gk 4 rfl ?_; first | refine sl_pass rfl rfl rfl rfl ?_ )
        | refine sl_region rfl ?_
        | refine sl_nil ?_
        | refine thn_k ?_
        | refine swp_false rfl ?_
        | refine swp_skip ?_
        )
      exact ⟨rfl, (), next_ok (by repeat first | exact Sub.nil _ | refine Sub.cons rfl ?_), trivial⟩
  rintro - -
  clear hf h48 hb0' hb0 hhead hlb
  repeat' (first
    | refine swp_seq ?_
    | (refine gk 0 rfl ?_; first | refine sl_op rfl rfl rfl (by first | exact opv_assign rfl rfl ) ?_ )
    | refine sl_region rfl ?_
    | refine sl_nil ?_
    | refine thn_k ?_
    | refine swp_block ?_
    )
  refine swp_loopS (fun t : Nat × Nat => [(0, str d), (2, ptr β2), (4, ptr β4), (5, i64 (t.1 : Int))]) (fun t => [blk β4 (.cells ⟨[i64 (t.2 : Int), i64 k2]⟩ 42 (0, 0)), blk β2 (.cells ⟨[i64 0, i64 0]⟩ 42 (0, 0))])
    (fun t => t.1 ≤ d.length ∧ Lib.decFrom 0 (d.take t.1) = some t.2) (fun t => d.length - t.1) (0, 0) (by repeat first | exact Sub.nil _ | refine Sub.cons rfl ?_) ⟨Nat.zero_le _, by simp [Lib.decFrom]⟩ ?_
  rintro ⟨i, m⟩ ⟨hi, hm⟩
  dsimp only at hi hm ⊢
  have hmb := decFrom_le hm
  have hpw : (0 + 1) * 10 ^ (d.take i).length ≤ 100000 := by
    rw [List.length_take]
    have : min i d.length ≤ 5 := by omega
    have := Nat.pow_le_pow_right (show 0 < 10 by decide) this
    simpa using this
  by_cases hi2 : i < d.length
  · obtain ⟨b, hb⟩ : ∃ b, d[i]? = some b := ⟨_, List.getElem?_eq_getElem hi2⟩
    have hb' : d[((i : Nat) : Int).toNat]? = some b := by simpa using hb
    have hbl := b.toNat_lt
    by_cases hlo : b.toNat < 48
    · have hbad : Lib.decFrom 0 d = none := by
        rw [← hdn]
        exact decFrom_bad hb (by unfold Lib.digitVal; rw [if_neg (by omega)])
      rw [hbad]
      repeat' (first
        | refine sl_op rfl rfl rfl (opv_lenS rfl rfl rfl rfl rfl) ?_
        | refine sl_op rfl rfl rfl (opv_indexS rfl rfl rfl (by omega) hb') ?_
        | refine swp_seq ?_
        | (refine gk 0 rfl ?_; first | refine sl_op rfl rfl rfl (by first | exact opv_move rfl rfl | exact opv_assign rfl rfl | exact opv_pick_t rfl rfl rfl ) ?_ | refine sl_pass rfl rfl rfl rfl ?_)
        | (refine gk 2 rfl ?_; first | refine sl_pass rfl rfl rfl rfl ?_ | refine sl_yes rfl rfl rfl (by first | exact opv_lss rfl rfl rfl ) (by first | omega ) ?_ )
        | (refine gk 3 rfl ?_; first | refine sl_op rfl rfl rfl (by first | exact opv_loadA rfl (by exact rfl) rfl (by exact rfl) (by exact rfl) ) ?_ | refine sl_pass rfl rfl rfl rfl ?_)
        | (refine gk 5 rfl ?_; first | refine sl_store rfl rfl rfl rfl rfl rfl (by exact rfl) rfl (by exact rfl) ?_)
        | refine sl_region rfl ?_
        | refine sl_nil ?_
        | refine thn_k ?_
        | refine swp_true rfl ?_
        | refine swp_block ?_
        | refine swp_ret ?_
        | refine swp_skip ?_
        | refine thn_ret ?_
        | refine inb_ret ?_
        )
      exact wq_none (resOk_two (resV_cellA rfl rfl rfl rfl) (resV_tmp rfl))
    · by_cases hhi : 57 < b.toNat
      · have hbad : Lib.decFrom 0 d = none := by
          rw [← hdn]
          exact decFrom_bad hb (by unfold Lib.digitVal; rw [if_neg (by omega)])
        rw [hbad]
        repeat' (first
          | refine sl_op rfl rfl rfl (opv_lenS rfl rfl rfl rfl rfl) ?_
          | refine sl_op rfl rfl rfl (opv_indexS rfl rfl rfl (by omega) hb') ?_
          | refine swp_seq ?_
          | (refine gk 0 rfl ?_; first | refine sl_op rfl rfl rfl (by first | exact opv_move rfl rfl | exact opv_assign rfl rfl | exact opv_pick_f rfl rfl rfl ) ?_ )
          | (refine gk 2 rfl ?_; first | refine sl_yes rfl rfl rfl (by first | exact opv_lss rfl rfl rfl | exact opv_gtr rfl rfl rfl ) (by first | omega ) ?_ | refine sl_no rfl rfl rfl (by first | exact opv_lss rfl rfl rfl ) (by first | omega ) ?_ )
          | (refine gk 3 rfl ?_; first | refine sl_op rfl rfl rfl (by first | exact opv_loadA rfl (by exact rfl) rfl (by exact rfl) (by exact rfl) ) ?_ )
          | (refine gk 5 rfl ?_; first | refine sl_store rfl rfl rfl rfl rfl rfl (by exact rfl) rfl (by exact rfl) ?_)
          | refine sl_region rfl ?_
          | refine sl_nil ?_
          | refine thn_k ?_
          | refine swp_true rfl ?_
          | refine swp_block ?_
          | refine swp_ret ?_
          | refine swp_skip ?_
          | refine thn_ret ?_
          | refine inb_ret ?_
          )
        exact wq_none (resOk_two (resV_cellA rfl rfl rfl rfl) (resV_tmp rfl))
      · have hstep : Lib.decFrom 0 (d.take (i + 1)) = some (m * 10 + (b.toNat - 48)) := by
          rw [List.take_add_one, hb]
          exact decFrom_snoc (by unfold Lib.digitVal; rw [if_pos (by omega)]) hm
        have hsub : Value.int .u8 (IntKind.u8.wrap ((b.toNat : Int) - 48)) = .int .u8 ((b.toNat - 48 : Nat) : Int) := congrArg _ (by
          have h1 : ((b.toNat : Int) - 48) = ((b.toNat - 48 : Nat) : Int) := by omega
          rw [h1]
          exact wrap_small ⟨b.toNat - 48, by omega⟩)
        have hcv : Value.int .i64 (IntKind.i64.wrap ((b.toNat - 48 : Nat) : Int)) = i64 ((b.toNat - 48 : Nat) : Int) := congrArg _ (wrap64_id (by omega) (by omega))
        have hmul : Value.int .i64 (IntKind.i64.wrap (10 * (m : Int))) = i64 (10 * (m : Int)) := congrArg _ (wrap64_id (by omega) (by omega))
        repeat' (first
          | refine sl_op rfl rfl rfl (opv_lenS rfl rfl rfl rfl rfl) ?_
          | refine sl_op rfl rfl rfl (opv_indexS rfl rfl rfl (by omega) hb') ?_
          | refine swp_seq ?_
          | (refine gk 0 rfl ?_; first | refine sl_op rfl rfl rfl (by first | exact opv_move rfl rfl | exact opv_pick_f rfl rfl rfl ) ?_ )
          | (refine gk 2 rfl ?_; first | refine sl_yes rfl rfl rfl (by first | exact opv_lss rfl rfl rfl | exact opv_gtr rfl rfl rfl ) (by first | omega ) ?_ | refine sl_no rfl rfl rfl (by first | exact opv_lss rfl rfl rfl | exact opv_gtr rfl rfl rfl ) (by first | omega ) ?_ )
          | refine sl_region rfl ?_
          | refine sl_nil ?_
          | refine thn_k ?_
          | refine swp_true rfl ?_
          | refine swp_false rfl ?_
          | refine swp_block ?_
          | refine swp_skip ?_
          )
        refine sl_drawC [.q [0, 1, 2, 3, 4, 5, 6, 7, 8, 9], .h true 10] [] (by kernel_rfl) (by kernel_rfl) (by kernel_rfl) (by kernel_rfl) ?_
        repeat' (first
          | refine sl_op rfl rfl rfl (opv_indexS rfl rfl rfl (by omega) hb') ?_
          | refine sl_op rfl rfl rfl ((opv_sub rfl rfl rfl).to hsub) ?_
          | refine sl_op rfl rfl rfl ((opv_convert rfl rfl).to hcv) ?_
          | refine sl_op rfl rfl rfl ((opv_mul rfl rfl rfl).to hmul) ?_
          | (refine gk 0 rfl ?_; first | refine sl_op rfl rfl rfl (by first | exact opv_move rfl rfl | exact opv_assign rfl rfl ) ?_ )
          | (refine gk 1 rfl ?_; first | refine sl_op rfl rfl rfl (by first | exact opv_add64 rfl rfl rfl (by omega) (by omega) ) ?_ )
          | (refine gk 3 rfl ?_; first | refine sl_op rfl rfl rfl (by first | exact opv_load rfl (by exact rfl) rfl (by exact rfl) | exact opv_fieldAddr rfl rfl ) ?_ )
          | refine sl_region rfl ?_
          | refine chu_nil ?_
          | refine chu_q rfl ?_
          | refine chu_store rfl rfl rfl rfl rfl rfl (by exact rfl) rfl (by exact rfl) (by exact rfl) ?_
          | refine sl_nil ?_
          | refine thn_k ?_
          )
        have he : (10 * (m : Int) + ((b.toNat - 48 : Nat) : Int)) = ((m * 10 + (b.toNat - 48) : Nat) : Int) := by omega
        rw [he]
        exact ⟨rfl, (i + 1, m * 10 + (b.toNat - 48)), next_ok (by repeat first | exact Sub.nil _ | refine Sub.cons rfl ?_), ⟨hi2, hstep⟩, by dsimp only; omega⟩
  · obtain rfl : i = d.length := by omega
    rw [List.take_length] at hm
    rw [hm]
    repeat' (first
      | refine sl_op rfl rfl rfl (opv_lenS rfl rfl rfl rfl rfl) ?_
      | refine swp_seq ?_
      | (refine gk 0 rfl ?_; first | refine sl_op rfl rfl rfl (by first | exact opv_move rfl rfl | exact opv_assign rfl rfl ) ?_ )
      | (refine gk 2 rfl ?_; first | refine sl_no rfl rfl rfl (by first | exact opv_lss rfl rfl rfl ) (by first | omega ) ?_ )
      | (refine gk 3 rfl ?_; first | refine sl_op rfl rfl rfl (by first | exact opv_loadA rfl (by exact rfl) rfl (by exact rfl) (by exact rfl) ) ?_ )
      | (refine gk 5 rfl ?_; first | refine sl_store rfl rfl rfl rfl rfl rfl (by exact rfl) rfl (by exact rfl) ?_)
      | refine sl_region rfl ?_
      | refine sl_nil ?_
      | refine thn_k ?_
      | refine swp_false rfl ?_
      | refine swp_ret ?_
      | refine swp_exit ?_
      )
    refine end_retZ [] (resOk_two (resV_cellA rfl rfl rfl rfl) (resV_tmp rfl)) ⟨rfl, rfl⟩
end Go.Proofs.YtobcmglbdmaceaaGreatDoor
