/- What instructions do to a stack: the table. -/
import Derived.Test.YtifhhfeibnpaoaaWA6
import Derived.Test.YtifhhfeibnpaoaaSlG8
namespace Go.Proofs.Ytifhhfeibnpaoaa
open Go.SL
set_option maxRecDepth 100000
set_option maxHeartbeats 16000000
attribute [local irreducible] SL.T PFn OpV SOL SWP HOp ChU
abbrev fnV (f : FuncId) : Value := .func (.func f) #[] #[]
def doesF (q : Int) : Option Value :=
  if q = 20 then some (fnV 61) else if q = 3 then some (fnV 60) else if q = 16 then some (fnV 56) else if q = 15 then some (fnV 56) else if q = 14 then some (fnV 56) else if q = 13 then some (fnV 59) else if q = 12 then some (fnV 57) else none
theorem does_calls : SL.T Try.prog 50 [] [] fun e o => ∃ h b, e = .returned (.map (some b)) ∧ o = [h] ∧ MP h b .i64 doesF := by
  refine t_of_body Try.func50 rfl (Nat.le_of_ble_eq_true rfl) fun F => ?_
  have mp0 : ∀ b, MP (blk b (.map #[] 0)) b .i64 (fun _ => none) := fun b => MP.nil
  repeat' (first
    | refine sl_makeMap rfl rfl rfl rfl (fun bm => ?_)
    | refine swp_seq ?_
    | (refine gk 0 rfl ?_; first | refine sl_op rfl rfl rfl (by first | exact opv_assign rfl rfl ) ?_ )
    | refine sl_region rfl ?_
    | refine sl_nil ?_
    )
  have mp1 := mp0 bm
  clear mp0
  repeat' (first
    | refine sl_insert rfl rfl rfl rfl rfl rfl (by assumption) (fun h2 mp2 => ?_)
    | (refine gk 0 rfl ?_; first | refine sl_op rfl rfl rfl (by first | exact opv_move rfl rfl | exact opv_assign rfl rfl ) ?_ )
    | refine sl_nil ?_
    | refine thn_k ?_
    | refine swp_ret ?_
    )
  rename_i h2 mp2
  refine end_retL [h2] (resOk_one (resV_tmp rfl)) ⟨h2, bm, rfl, rfl, mp2⟩
end Go.Proofs.Ytifhhfeibnpaoaa
