/- The chapter's examples. -/
import Derived.Test.YtimmclibnfdjhaaWB20
set_option linter.unusedVariables false
set_option linter.unusedSimpArgs false
set_option linter.unusedSectionVars false
namespace Go.Proofs.Ytimmclibnfdjhaa
open Go.SL
set_option maxRecDepth 100000
set_option maxHeartbeats 16000000
attribute [local irreducible] SL.T PFn OpV SOL SWP HOp ChU
def esA : List Ev := [Ev.call 0 0 0 0, Ev.act' 0 0 0, Ev.back 0 0 0 0, Ev.call 1 0 0 0]
theorem runA : takesF (newF 2 1) esA = (true, (takesF (newF 2 1) esA).2) := Prod.ext (by decide +kernel) rfl
theorem relA : (takesF (newF 2 1) esA).2.rel = 0 := by decide +kernel
def esB : List Ev := [Ev.call 0 0 1 0, Ev.act' 0 8 4, Ev.back 0 0 4 0]
theorem runB : takesF (newF 2 1) esB = (true, (takesF (newF 2 1) esB).2) := Prod.ext (by decide +kernel) rfl
theorem relB : (takesF (newF 2 1) esB).2.rel = 0 := by decide +kernel
def esC : List Ev := [Ev.call 0 0 0 0, Ev.act' 0 0 0, Ev.back 0 0 0 0, Ev.call 0 1 0 0, Ev.act' 0 0 0, Ev.back 0 1 0 0, Ev.call 0 2 2 0, Ev.act' 0 2 0, Ev.call 1 0 0 0, Ev.act' 1 0 0]
theorem runC : takesF (newF 2 1) esC = (true, (takesF (newF 2 1) esC).2) := Prod.ext (by decide +kernel) rfl
theorem relC : (takesF (newF 2 1) esC).2.rel = 1 := by decide +kernel
theorem runA2 : takeF (takesF (newF 2 1) esA).2 (Ev.act' 1 0 0) = (false, (takeF (takesF (newF 2 1) esA).2 (Ev.act' 1 0 0)).2) := Prod.ext (by decide +kernel) rfl
theorem relA2 : (takeF (takesF (newF 2 1) esA).2 (Ev.act' 1 0 0)).2.rel = 0 := by decide +kernel
theorem obC : (takesF (newF 2 1) esC).2.ob[0]? = some (1, 1) := by decide +kernel
theorem wC : wlist [2, 3] 0 0 (takesF (newF 2 1) esC).2.th = [0] := by decide +kernel
theorem works_calls : PFn Try.prog 7 [] [] (.bool true) := by
  have hn := new_1 2 (by decide) (by decide)
  unfold NewQ at hn
  refine pure_of_body Try.func7 rfl (Nat.le_of_ble_eq_true rfl) fun F => ?_
  repeat' (first
    | refine swp_seq ?_
    | (refine gk 0 rfl ?_; first | refine sl_op rfl rfl rfl (by first | exact opv_move rfl rfl | exact opv_assign rfl rfl ) ?_ )
    | (refine gk 2 rfl ?_; first | refine sl_op rfl rfl rfl (by first | exact opv_ptrEql rfl rfl ) ?_ )
    | (refine gk 4 rfl ?_; first | (refine sl_callT rfl rfl rfl rfl rfl rfl rfl rfl (hn) ?_; rintro _ _ ⟨βs, bt, bo, HT, HO, OP, rfl, rfl, m⟩; refine ⟨_, _, rfl, rfl, ?_⟩))
    | refine sl_region rfl ?_
    | refine sl_nil ?_
    | refine thn_k ?_
    | refine swp_false rfl ?_
    | refine swp_skip ?_
    )
  rename_i β1 t1 o1 T1 O1 P1 m1 β2 t2 o2 T2 O2 P2 m2
  have a1 := Au.new m1
  have a2 := Au.new m2
  have a3 := Au.new m
  repeat' (first
    | refine swp_seq ?_
    | (refine gk 0 rfl ?_; first | refine sl_op rfl rfl rfl (by first | exact opv_move rfl rfl | exact opv_assign rfl rfl | exact opv_pick_t rfl rfl rfl | exact opv_not_f rfl rfl ) ?_ )
    | (refine gk 4 rfl ?_; first | refine sl_op rfl rfl rfl (opv_call rfl rfl rfl rfl rfl (mkCall _ _ _ _)) ?_ | refine sl_op rfl rfl rfl (opv_call rfl rfl rfl rfl rfl (mkAct _ _ _)) ?_ | refine sl_op rfl rfl rfl (opv_call rfl rfl rfl rfl rfl (mkBack _ _ _ _)) ?_ | (refine sl_callT rfl rfl rfl rfl rfl rfl rfl rfl (takes_ok (r := 0) esA [i64 0, i64 0, i64 0, i64 0, i64 0, i64 0, i64 0, i64 0, i64 1, i64 0, i64 0, i64 0, i64 0, i64 0, i64 0, i64 0, i64 2, i64 0, i64 0, i64 0, i64 0, i64 0, i64 0, i64 0, i64 0, i64 1, i64 0, i64 0, i64 0, i64 0, i64 0, i64 0] a1 (by decide) (by decide) rfl rfl (by decide) runA rfl relA) ?_; rintro _ _ ⟨rfl, HTA, HOA, OPA, rfl, aA⟩; refine ⟨_, _, rfl, rfl, ?_⟩) | (refine sl_callT rfl rfl rfl rfl rfl rfl rfl rfl (takes_ok (r := 0) esB [i64 0, i64 0, i64 0, i64 1, i64 0, i64 0, i64 0, i64 0, i64 1, i64 0, i64 0, i64 8, i64 0, i64 4, i64 0, i64 0, i64 2, i64 0, i64 0, i64 0, i64 0, i64 0, i64 4, i64 0] a2 (by decide) (by decide) rfl rfl (by decide) runB rfl relB) ?_; rintro _ _ ⟨rfl, HTB, HOB, OPB, rfl, aB⟩; refine ⟨_, _, rfl, rfl, ?_⟩) | (refine sl_callT rfl rfl rfl rfl rfl rfl rfl rfl (takes_ok (r := 0) esC [i64 0, i64 0, i64 0, i64 0, i64 0, i64 0, i64 0, i64 0, i64 1, i64 0, i64 0, i64 0, i64 0, i64 0, i64 0, i64 0, i64 2, i64 0, i64 0, i64 0, i64 0, i64 0, i64 0, i64 0, i64 0, i64 0, i64 1, i64 0, i64 0, i64 0, i64 0, i64 0, i64 1, i64 0, i64 0, i64 0, i64 0, i64 0, i64 0, i64 0, i64 2, i64 0, i64 1, i64 0, i64 0, i64 0, i64 0, i64 0, i64 0, i64 0, i64 2, i64 2, i64 0, i64 0, i64 0, i64 0, i64 1, i64 0, i64 0, i64 2, i64 0, i64 0, i64 0, i64 0, i64 0, i64 1, i64 0, i64 0, i64 0, i64 0, i64 0, i64 0, i64 1, i64 1, i64 0, i64 0, i64 0, i64 0, i64 0, i64 0] a3 (by decide) (by decide) rfl rfl (by decide) runC rfl relC) ?_; rintro _ _ ⟨rfl, HTC, HOC, OPC, rfl, aC⟩; refine ⟨_, _, rfl, rfl, ?_⟩) | (refine sl_callT rfl rfl rfl rfl rfl rfl rfl rfl (take_is (Ev.act' 1 0 0) [i64 1, i64 1, i64 0, i64 0, i64 0, i64 0, i64 0, i64 0] aA (by decide) (by decide) rfl runA2 relA relA2) ?_; rintro _ _ ⟨rfl, HTD, HOD, OPD, rfl, aD⟩; refine ⟨_, _, rfl, rfl, ?_⟩) | (refine sl_callT rfl rfl rfl rfl rfl rfl rfl rfl (seen1_is aC (by decide) (by decide) (by decide) wC 1 1 obC relC) ?_; rintro _ _ ⟨rfl, rfl⟩; refine ⟨_, _, rfl, rfl, ?_⟩))
    | (refine gk 5 rfl ?_; first | refine sl_buildSlice rfl rfl rfl rfl rfl (by exact rfl) (by exact rfl) (by exact rfl) (by exact rfl) rfl (fun b => ?_) )
    | refine sl_region rfl ?_
    | refine sl_nil ?_
    | refine thn_k ?_
    | refine swp_ret ?_
    )
  exact end_retL [] (resOk_one (resV_tmp rfl)) ⟨rfl, rfl⟩
end Go.Proofs.Ytimmclibnfdjhaa
