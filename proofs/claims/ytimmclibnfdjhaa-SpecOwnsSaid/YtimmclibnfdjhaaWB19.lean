/- What is seen. -/
import Derived.Test.YtimmclibnfdjhaaWB15
import Derived.Test.YtimmclibnfdjhaaWB18
set_option linter.unusedVariables false
set_option linter.unusedSimpArgs false
set_option linter.unusedSectionVars false
namespace Go.Proofs.Ytimmclibnfdjhaa
open Go.SL
set_option maxRecDepth 100000
set_option maxHeartbeats 16000000
attribute [local irreducible] SL.T PFn OpV SOL SWP HOp ChU
def natI (l : List Nat) : List Int := l.map fun u : Nat => (u : Int)
theorem natI_V (l : List Nat) : natV l = (natI l).map i64 := by simp [natV, natI]
theorem natI_length (l : List Nat) : (natI l).length = l.length := by simp [natI]
/-- Is that seen of the object 0? -/
def seenB (σ : St) (ow dp : Int) (ws : List Int) : Bool := decide (σ.ob[0]? = some (ow, dp) ∧ natI (wlist [2, 3] 0 0 σ.th) = ws)
section
variable {βs : Nat} {bt bo bw : Option Addr} {n ct k co m c : Nat} {HT HO OP WH : Heap} {bs : List (Option Nat)} {σ : St} {ws : List Int}
theorem seen0_calls (mo : MemOk bt bo ct co HT HO OP bs σ) (hn : σ.th.length = n) (hk : σ.ob.length = k) (hsm : n ≤ 1000000) (hsk : k ≤ 1000000) (h0 : 0 < k) (ow dp : Int) :
    SL.T Try.prog 17 [ptr βs, i64 ow, i64 dp, .slice none 0 0] [specB βs bt bo n ct k co σ.rel, HT, HO, OP] fun en w => en = .returned (.bool (seenB σ ow dp [])) ∧ w = [specB βs bt bo n ct k co σ.rel, HT, HO, OP] := by
  obtain ⟨p, hp⟩ : ∃ z, σ.ob[0]? = some z := ⟨_, List.getElem?_eq_getElem (by omega)⟩
  have hV := view_calls (βs := βs) mo hn hk hsm hsk (o := 0) (by omega) (by omega) hp
  have hwl := wlist_length [2, 3] 0 σ.th 0
  have fin : ∀ b : Bool, seenB σ ow dp [] = b → SL.T Try.prog 17 [ptr βs, i64 ow, i64 dp, .slice none 0 0] [specB βs bt bo n ct k co σ.rel, HT, HO, OP] (fun en w => en = .returned (.bool b) ∧ w = [specB βs bt bo n ct k co σ.rel, HT, HO, OP]) → SL.T Try.prog 17 [ptr βs, i64 ow, i64 dp, .slice none 0 0] [specB βs bt bo n ct k co σ.rel, HT, HO, OP] fun en w => en = .returned (.bool (seenB σ ow dp [])) ∧ w = [specB βs bt bo n ct k co σ.rel, HT, HO, OP] := fun b e h => by
    rw [e]; exact h
  by_cases h1 : p.1 = ow
  · by_cases h2 : p.2 = dp
    · by_cases h3 : (wlist [2, 3] 0 0 σ.th).length = 0
      · refine fin true ?_ ?_
        · exact decide_eq_true ⟨by rw [hp, ← h1, ← h2], by rw [List.length_eq_zero_iff] at h3; rw [h3]; rfl⟩
        rw [h3] at hV
        refine t_of_body Try.func17 rfl (Nat.le_of_ble_eq_true rfl) fun F => ?_
        repeat' (first
          | refine swp_seq ?_
          | (refine gk 0 rfl ?_; first | refine sl_op rfl rfl rfl (by first | exact opv_move rfl rfl | exact opv_assign rfl rfl | exact opv_pick_f rfl rfl rfl ) ?_ )
          | (refine gk 2 rfl ?_; first | refine sl_no rfl rfl rfl (by first | exact opv_neq rfl rfl rfl) (by first | omega ) ?_ )
          | (refine gk 3 rfl ?_; first | refine sl_op rfl rfl rfl (by first | exact opv_load rfl (by exact rfl) rfl (by exact rfl) | exact opv_fieldAddr rfl rfl ) ?_ )
          | (refine gk 4 rfl ?_; first | refine sl_op rfl rfl rfl (by first | exact opv_len rfl rfl rfl rfl rfl ) ?_ | (refine sl_callT rfl rfl rfl rfl rfl rfl rfl rfl (hV) ?_; rintro _ _ ⟨N, b, c, rfl, rfl, os⟩; refine ⟨_, _, rfl, rfl, ?_⟩))
          | (refine gk 5 rfl ?_; first | refine sl_alloc rfl rfl rfl rfl (by exact rfl) (fun β => ?_) | refine sl_store rfl rfl rfl rfl rfl rfl (by exact rfl) rfl (by exact rfl) ?_)
          | refine sl_region rfl ?_
          | refine sl_nil ?_
          | refine thn_k ?_
          | refine swp_false rfl ?_
          | refine swp_block ?_
          | refine swp_skip ?_
          )
        refine swp_rounds 1 (srounds ?_)
        repeat' (first
          | refine swp_seq ?_
          | (refine gk 0 rfl ?_; first | refine sl_op rfl rfl rfl (by first | exact opv_move rfl rfl | exact opv_assign rfl rfl ) ?_ )
          | (refine gk 2 rfl ?_; first | refine sl_no rfl rfl rfl (by first | exact opv_lss rfl rfl rfl ) (by first | omega ) ?_ )
          | (refine gk 4 rfl ?_; first | refine sl_op rfl rfl rfl (by first | exact opv_len rfl rfl rfl rfl rfl ) ?_)
          | refine sl_region rfl ?_
          | refine sl_nil ?_
          | refine thn_k ?_
          | refine swp_false rfl ?_
          | refine swp_ret ?_
          | refine swp_exit ?_
          )
        exact end_retL [specB βs bt bo n ct k co σ.rel, HT, HO, OP] (resOk_one (resV_tmp rfl)) ⟨rfl, rfl⟩
      · refine fin false ?_ ?_
        · exact decide_eq_false fun h => h3 (by rw [← natI_length, h.2]; rfl)
        refine t_of_body Try.func17 rfl (Nat.le_of_ble_eq_true rfl) fun F => ?_
        repeat' (first
          | refine swp_seq ?_
          | (refine gk 0 rfl ?_; first | refine sl_op rfl rfl rfl (by first | exact opv_move rfl rfl | exact opv_assign rfl rfl | exact opv_pick_f rfl rfl rfl ) ?_ )
          | (refine gk 2 rfl ?_; first | refine sl_yes rfl rfl rfl (by first | exact opv_neq rfl rfl rfl) (by first | omega ) ?_ | refine sl_no rfl rfl rfl (by first | exact opv_neq rfl rfl rfl) (by first | omega ) ?_ )
          | (refine gk 3 rfl ?_; first | refine sl_op rfl rfl rfl (by first | exact opv_load rfl (by exact rfl) rfl (by exact rfl) | exact opv_fieldAddr rfl rfl ) ?_ )
          | (refine gk 4 rfl ?_; first | refine sl_op rfl rfl rfl (by first | exact opv_len rfl rfl rfl rfl rfl ) ?_ | (refine sl_callT rfl rfl rfl rfl rfl rfl rfl rfl (hV) ?_; rintro _ _ ⟨N, b, c, rfl, rfl, os⟩; refine ⟨_, _, rfl, rfl, ?_⟩))
          | (refine gk 5 rfl ?_; first | refine sl_alloc rfl rfl rfl rfl (by exact rfl) (fun β => ?_) | refine sl_store rfl rfl rfl rfl rfl rfl (by exact rfl) rfl (by exact rfl) ?_)
          | refine sl_region rfl ?_
          | refine sl_nil ?_
          | refine thn_k ?_
          | refine swp_true rfl ?_
          | refine swp_ret ?_
          | refine thn_ret ?_
          )
        exact end_retL [specB βs bt bo n ct k co σ.rel, HT, HO, OP] (resOk_one (resV_tmp rfl)) ⟨rfl, rfl⟩
    · refine fin false ?_ ?_
      · exact decide_eq_false fun h => h2 (by have := h.1; rw [hp] at this; cases this; rfl)
      refine t_of_body Try.func17 rfl (Nat.le_of_ble_eq_true rfl) fun F => ?_
      repeat' (first
        | refine swp_seq ?_
        | (refine gk 0 rfl ?_; first | refine sl_op rfl rfl rfl (by first | exact opv_move rfl rfl | exact opv_assign rfl rfl | exact opv_pick_t rfl rfl rfl | exact opv_pick_f rfl rfl rfl ) ?_ | refine sl_pass rfl rfl rfl rfl ?_)
        | (refine gk 2 rfl ?_; first | refine sl_pass rfl rfl rfl rfl ?_ | refine sl_yes rfl rfl rfl (by first | exact opv_neq rfl rfl rfl) (by first | omega ) ?_ | refine sl_no rfl rfl rfl (by first | exact opv_neq rfl rfl rfl) (by first | omega ) ?_ )
        | (refine gk 3 rfl ?_; first | refine sl_op rfl rfl rfl (by first | exact opv_load rfl (by exact rfl) rfl (by exact rfl) | exact opv_fieldAddr rfl rfl ) ?_ | refine sl_pass rfl rfl rfl rfl ?_)
        | (refine gk 4 rfl ?_; first | refine sl_pass rfl rfl rfl rfl ?_ | (refine sl_callT rfl rfl rfl rfl rfl rfl rfl rfl (hV) ?_; rintro _ _ ⟨N, b, c, rfl, rfl, os⟩; refine ⟨_, _, rfl, rfl, ?_⟩))
        | (refine gk 5 rfl ?_; first | refine sl_alloc rfl rfl rfl rfl (by exact rfl) (fun β => ?_) | refine sl_store rfl rfl rfl rfl rfl rfl (by exact rfl) rfl (by exact rfl) ?_)
        | refine sl_region rfl ?_
        | refine sl_nil ?_
        | refine thn_k ?_
        | refine swp_true rfl ?_
        | refine swp_ret ?_
        | refine thn_ret ?_
        )
      exact end_retL [specB βs bt bo n ct k co σ.rel, HT, HO, OP] (resOk_one (resV_tmp rfl)) ⟨rfl, rfl⟩
  · refine fin false ?_ ?_
    · exact decide_eq_false fun h => h1 (by have := h.1; rw [hp] at this; cases this; rfl)
    refine t_of_body Try.func17 rfl (Nat.le_of_ble_eq_true rfl) fun F => ?_
    repeat' (first
      | refine swp_seq ?_
      | (refine gk 0 rfl ?_; first | refine sl_op rfl rfl rfl (by first | exact opv_move rfl rfl | exact opv_assign rfl rfl | exact opv_pick_t rfl rfl rfl ) ?_ | refine sl_pass rfl rfl rfl rfl ?_)
      | (refine gk 2 rfl ?_; first | refine sl_pass rfl rfl rfl rfl ?_ | refine sl_yes rfl rfl rfl (by first | exact opv_neq rfl rfl rfl) (by first | omega ) ?_ )
      | (refine gk 3 rfl ?_; first | refine sl_op rfl rfl rfl (by first | exact opv_load rfl (by exact rfl) rfl (by exact rfl) | exact opv_fieldAddr rfl rfl ) ?_ | refine sl_pass rfl rfl rfl rfl ?_)
      | (refine gk 4 rfl ?_; first | refine sl_pass rfl rfl rfl rfl ?_ | (refine sl_callT rfl rfl rfl rfl rfl rfl rfl rfl (hV) ?_; rintro _ _ ⟨N, b, c, rfl, rfl, os⟩; refine ⟨_, _, rfl, rfl, ?_⟩))
      | (refine gk 5 rfl ?_; first | refine sl_alloc rfl rfl rfl rfl (by exact rfl) (fun β => ?_) | refine sl_store rfl rfl rfl rfl rfl rfl (by exact rfl) rfl (by exact rfl) ?_)
      | refine sl_region rfl ?_
      | refine sl_nil ?_
      | refine thn_k ?_
      | refine swp_true rfl ?_
      | refine swp_ret ?_
      | refine thn_ret ?_
      )
    exact end_retL [specB βs bt bo n ct k co σ.rel, HT, HO, OP] (resOk_one (resV_tmp rfl)) ⟨rfl, rfl⟩
/-- One thread waits, where one is looked for. -/
theorem seen1_calls [slW : Sl WH bw [i64 0]] (mo : MemOk bt bo ct co HT HO OP bs σ) (hn : σ.th.length = n) (hk : σ.ob.length = k) (hsm : n ≤ 1000000) (hsk : k ≤ 1000000) (h0 : 0 < k) (hw : wlist [2, 3] 0 0 σ.th = [0]) {p : Int × Int} (hp : σ.ob[0]? = some p) :
    SL.T Try.prog 17 [ptr βs, i64 p.1, i64 p.2, .slice bw 1 c] [specB βs bt bo n ct k co σ.rel, HT, HO, OP, WH] fun en w => en = .returned (.bool true) ∧ w = [specB βs bt bo n ct k co σ.rel, HT, HO, OP, WH] := by
  have hV := view_calls (βs := βs) mo hn hk hsm hsk (o := 0) (by omega) (by omega) hp
  rw [hw] at hV
  simp only [List.length_singleton] at hV
  refine t_of_body Try.func17 rfl (Nat.le_of_ble_eq_true rfl) fun F => ?_
  repeat' (first
    | refine swp_seq ?_
    | (refine gk 0 rfl ?_; first | refine sl_op rfl rfl rfl (by first | exact opv_move rfl rfl | exact opv_assign rfl rfl | exact opv_pick_f rfl rfl rfl ) ?_ )
    | (refine gk 2 rfl ?_; first | refine sl_no rfl rfl rfl (by first | exact opv_neq rfl rfl rfl) (by first | omega ) ?_ )
    | (refine gk 3 rfl ?_; first | refine sl_op rfl rfl rfl (by first | exact opv_load rfl (by exact rfl) rfl (by exact rfl) | exact opv_fieldAddr rfl rfl ) ?_ )
    | (refine gk 4 rfl ?_; first | refine sl_op rfl rfl rfl (by first | exact opv_len rfl rfl rfl rfl rfl ) ?_ | (refine sl_callT rfl rfl rfl rfl rfl rfl rfl rfl (hV) ?_; rintro _ _ ⟨N, b, c, rfl, rfl, os⟩; refine ⟨_, _, rfl, rfl, ?_⟩))
    | (refine gk 5 rfl ?_; first | refine sl_alloc rfl rfl rfl rfl (by exact rfl) (fun β => ?_) | refine sl_store rfl rfl rfl rfl rfl rfl (by exact rfl) rfl (by exact rfl) ?_)
    | refine sl_region rfl ?_
    | refine sl_nil ?_
    | refine thn_k ?_
    | refine swp_false rfl ?_
    | refine swp_block ?_
    | refine swp_skip ?_
    )
  haveI slN : Sl N b [i64 0] := os.sl
  refine swp_rounds 2 (srounds ?_)
  repeat' (first
    | refine swp_seq ?_
    | (refine gk 0 rfl ?_; first | refine sl_op rfl rfl rfl (by first | exact opv_move rfl rfl | exact opv_assign rfl rfl ) ?_ )
    | (refine gk 1 rfl ?_; first | refine sl_op rfl rfl rfl (by first | exact opv_add64 rfl rfl rfl (by omega) (by omega) ) ?_ )
    | (refine gk 2 rfl ?_; first | refine sl_yes rfl rfl rfl (by first | exact opv_lss rfl rfl rfl | exact opv_neq rfl rfl rfl) (by first | omega ) ?_ | refine sl_no rfl rfl rfl (by first | exact opv_lss rfl rfl rfl | exact opv_neq rfl rfl rfl) (by first | omega ) ?_ )
    | (refine gk 3 rfl ?_; first | refine sl_op rfl rfl rfl (by first | exact opv_load rfl (by exact rfl) rfl (by exact rfl) | exact opv_fieldAddr rfl rfl | exact opv_indexAddrI rfl rfl rfl (by omega) (by omega) (by first | (simp only [List.length_cons, List.length_nil]; omega)) | exact opv_loadEx rfl (by exact rfl) (by infer_instance) (by first | exact rfl) ) ?_ )
    | (refine gk 4 rfl ?_; first | refine sl_op rfl rfl rfl (by first | exact opv_len rfl rfl rfl rfl rfl ) ?_)
    | refine sl_region rfl ?_
    | refine sl_draw (by kernel_rfl) (by kernel_rfl) rfl ?_
    | refine sl_nil ?_
    | refine thn_k ?_
    | refine swp_true rfl ?_
    | refine swp_false rfl ?_
    | refine swp_block ?_
    | refine swp_ret ?_
    | refine swp_exit ?_
    | refine swp_skip ?_
    )
  exact end_retL [specB βs bt bo n ct k co σ.rel, HT, HO, OP, WH] (resOk_one (resV_tmp rfl)) ⟨rfl, rfl⟩
end
end Go.Proofs.Ytimmclibnfdjhaa
