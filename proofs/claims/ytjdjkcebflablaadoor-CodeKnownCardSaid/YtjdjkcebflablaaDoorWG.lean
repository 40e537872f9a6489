/- The fault that an error wraps; the program's reader: numbers, walked. -/
import Derived.Test.YtjdjkcebflablaaDoorWAs2
import Derived.Test.YtjdjkcebflablaaDoorWE2
set_option linter.unusedVariables false
set_option linter.unusedSimpArgs false
set_option linter.unusedSectionVars false
namespace Go.Proofs.YtjdjkcebflablaaDoor
open Go.SL
set_option maxRecDepth 100000
set_option maxHeartbeats 16000000
attribute [local irreducible] SL.T PFn OpV SOL SWP HOp ChU DZ.ChU
-- ALIAS Tryd
abbrev Ges (G : Heap) : Prop := Sl G (some ⟨0, 0, none⟩) [.iface 134 (.agg #[.pointer (some ⟨1, 38, none⟩)])]
abbrev faultB (β : Nat) (at_ : Int) : Heap := blk β (.cells ⟨[i64 7, i64 0, i64 at_]⟩ 43 (0, 0))
abbrev errV (β : Nat) : Value := .iface 74 (.agg ⟨[ptr β]⟩)
theorem told_calls {G : Heap} [sg : Ges G] (β : Nat) (at_ : Int) : PFn Tryd.prog 14 [errV β] [faultB β at_, G] (.agg ⟨[i64 7, i64 0, i64 at_]⟩) := by
  have ha := fun b old => as_T (G := G) ⟨β, 0, none⟩ b old
  revert ha
  generalize hβ : β = βe
  intro ha
  refine pure_of_body Tryd.func14 rfl (Nat.le_of_ble_eq_true rfl) fun F => ?_
  repeat' (first
    | refine sl_op rfl rfl rfl (opv_makeInterface rfl rfl rfl) ?_
    | refine sl_op rfl rfl rfl (opv_ptrNeq rfl rfl) ?_
    | refine swp_seq ?_
    | (refine gk 0 rfl ?_; first | refine sl_op rfl rfl rfl (by first | exact opv_move rfl rfl | exact opv_pick_t rfl rfl rfl ) ?_ )
    | (refine gk 3 rfl ?_; first | refine sl_op rfl rfl rfl (by first | exact opv_load rfl (by exact rfl) rfl (by exact rfl) | exact opv_loadA rfl (by exact rfl) rfl (by exact rfl) (by exact rfl) ) ?_ )
    | (refine gk 4 rfl ?_; first | (refine sl_callT rfl rfl rfl rfl rfl rfl rfl rfl (ha _ (.pointer none)) ?_; rintro _ _ ⟨rfl, rfl⟩; refine ⟨_, _, rfl, rfl, ?_⟩))
    | (refine gk 5 rfl ?_; first | refine sl_op rfl rfl rfl (by first | exact opv_nilCheck rfl rfl ) ?_ | refine sl_alloc rfl rfl rfl rfl (by exact rfl) (fun β => ?_) | refine sl_store rfl rfl rfl rfl rfl rfl (by exact rfl) rfl (by exact rfl) ?_)
    | refine sl_region rfl ?_
    | refine sl_nil ?_
    | refine thn_k ?_
    | refine swp_true rfl ?_
    | refine swp_ret ?_
    | refine thn_ret ?_
    )
  exact end_pure (resOk_one (resV_cellA rfl rfl rfl rfl)) rfl
/-! The reader. -/
/-- A number of so many bytes, at a place. -/
def natLE : List UInt8 → Nat
  | [] => 0
  | b :: l => b.toNat + 256 * natLE l
def rd (s : List UInt8) (at_ many : Nat) : Option Int := if at_ + many ≤ s.length then some (IntKind.i64.wrap (natLE ((s.drop at_).take many))) else none
def getF (s : List UInt8) (at_ many : Nat) (p : Int → Bool) : Except Nat Int :=
  match rd s at_ many with
  | some n => if p n then .ok n else .error at_
  | none => .error at_
/-- It panics with a fault at a place. -/
def Pan (p : Nat) (e : Ending) (o : List Heap) : Prop := ∃ β, e = .panicked [{ v := errV β, recovered := false }] ∧ o = [faultB β (p : Int)]
theorem pan_end {P : Program} {fn : Func} {n : Nat} {env : Env} {own : List Heap} {k : Heap} {ch : List PanicEntry} {Q : Ending → List Heap → Prop} (h : Q (.panicked ch) [k]) : bodyQ P fn n Q (.panic ch) env (k :: own) [] :=
  ⟨k :: own, [k], inferInstance, fun _ _ s => s.sub (by simp), h⟩
abbrev rdr (β : Nat) (s : List UInt8) (at_ : Nat) : Heap := blk β (.cells ⟨[str s, i64 (at_ : Int)]⟩ 78 (0, 0))
theorem need_yes (β : Nat) (s : List UInt8) (a : Nat) : PFn Tryd.prog 45 [ptr β, .bool true] [rdr β s a] (.tuple #[]) := by
  refine pure_of_body Tryd.func45 rfl (Nat.le_of_ble_eq_true rfl) fun F => ?_
  repeat' (first
    | refine swp_seq ?_
    | (refine gk 0 rfl ?_; first | refine sl_op rfl rfl rfl (by first | exact opv_move rfl rfl | exact opv_not_t rfl rfl ) ?_ )
    | refine sl_region rfl ?_
    | refine sl_nil ?_
    | refine thn_k ?_
    | refine swp_false rfl ?_
    | refine swp_skip ?_
    )
  exact end_retN [rdr β s a] resOk_nil (fun F w s => s) ⟨rfl, rfl⟩
theorem need_no (β : Nat) (s : List UInt8) (a : Nat) : SL.T Tryd.prog 45 [ptr β, .bool false] [rdr β s a] (Pan a) := by
  refine t_of_body Tryd.func45 rfl (Nat.le_of_ble_eq_true rfl) fun F => ?_
  repeat' (first
    | refine sl_op rfl rfl rfl (opv_makeInterface rfl rfl rfl) ?_
    | refine sl_panic rfl rfl rfl ?_
    | refine swp_seq ?_
    | (refine gk 0 rfl ?_; first | refine sl_op rfl rfl rfl (by first | exact opv_move rfl rfl | exact opv_not_f rfl rfl ) ?_ )
    | (refine gk 3 rfl ?_; first | refine sl_op rfl rfl rfl (by first | exact opv_load rfl (by exact rfl) rfl (by exact rfl) | exact opv_fieldAddr rfl rfl ) ?_ )
    | (refine gk 5 rfl ?_; first | refine sl_op rfl rfl rfl (by first | exact opv_nilCheck rfl rfl | exact opv_build rfl rfl (by exact rfl) ) ?_ | refine sl_box rfl rfl rfl rfl rfl rfl (fun β => ?_) )
    | refine sl_region rfl ?_
    | refine sl_nil ?_
    | refine thn_k ?_
    | refine swp_true rfl ?_
    )
  exact pan_end ⟨_, rfl, rfl⟩
/-! Conditions. -/
theorem free_calls (z : Int) : PFn Tryd.prog 74 [i64 z] [] (.bool true) := by
  refine pure_of_body Tryd.func74 rfl (Nat.le_of_ble_eq_true rfl) fun F => ?_
  repeat' (first
    | refine swp_seq ?_
    | (refine gk 0 rfl ?_; first | refine sl_op rfl rfl rfl (by first | exact opv_assign rfl rfl ) ?_ )
    | refine sl_region rfl ?_
    | refine sl_nil ?_
    | refine thn_k ?_
    | refine swp_ret ?_
    )
  refine end_pure (resOk_one (resV_tmp rfl)) ?_
  rfl
theorem from_calls (a b : Int) : SL.T Tryd.prog 47 [i64 a, i64 b] [] fun e o => ∃ β1 β2, e = .returned (.func (.func 64) #[] #[ptr β1, ptr β2]) ∧ o = [blk β1 (.cells ⟨[i64 a]⟩ 3 (0, 0)), blk β2 (.cells ⟨[i64 b]⟩ 3 (0, 0))] := by
  refine t_of_body Tryd.func47 rfl (Nat.le_of_ble_eq_true rfl) fun F => ?_
  repeat' (first
    | refine swp_seq ?_
    | (refine gk 0 rfl ?_; first | refine sl_op rfl rfl rfl (by first | exact opv_assign rfl rfl | exact opv_makeFunc rfl rfl rfl) ?_ )
    | (refine gk 5 rfl ?_; first | refine sl_box rfl rfl rfl rfl rfl rfl (fun β => ?_) )
    | refine sl_region rfl ?_
    | refine sl_nil ?_
    | refine thn_k ?_
    | refine swp_ret ?_
    )
  exact end_retW [_, _] (resOk_one (resV_tmp rfl)) (fun F w s => s.perm ((List.Perm.swap _ _ _).cons F)) ⟨_, _, rfl, rfl⟩
theorem from1_calls (a b z : Int) (β1 β2 : Nat) : PFn Tryd.prog 64 [i64 z, ptr β1, ptr β2] [blk β1 (.cells ⟨[i64 a]⟩ 3 (0, 0)), blk β2 (.cells ⟨[i64 b]⟩ 3 (0, 0))] (.bool (wi z a b)) := by
  have hw := within_calls z a b
  refine pure_of_body Tryd.func64 rfl (Nat.le_of_ble_eq_true rfl) fun F => ?_
  repeat' (first
    | refine swp_seq ?_
    | (refine gk 0 rfl ?_; first | refine sl_op rfl rfl rfl (by first | exact opv_move rfl rfl | exact opv_assign rfl rfl ) ?_ )
    | (refine gk 3 rfl ?_; first | refine sl_op rfl rfl rfl (by first | exact opv_load rfl (by exact rfl) rfl (by exact rfl) ) ?_ )
    | (refine gk 4 rfl ?_; first | refine sl_op rfl rfl rfl (opv_call rfl rfl rfl rfl rfl (hw)) ?_)
    | refine sl_region rfl ?_
    | refine sl_nil ?_
    | refine thn_k ?_
    | refine swp_ret ?_
    )
  refine end_pure (resOk_one (resV_tmp rfl)) ?_
  rfl
end Go.Proofs.YtjdjkcebflablaaDoor
