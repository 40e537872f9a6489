/- Waiting: what it makes of the state. -/
import Derived.Test.YtimmclibnfdjhaaWB6
set_option linter.unusedVariables false
set_option linter.unusedSimpArgs false
set_option linter.unusedSectionVars false
namespace Go.Proofs.Ytimmclibnfdjhaa
open Go.SL
set_option maxRecDepth 100000
set_option maxHeartbeats 16000000
attribute [local irreducible] SL.T PFn OpV SOL SWP HOp ChU
/-- OpWait, OpTimed. -/
def waitF (σ : St) (t k : Nat) (o : Opn) (ow dp : Int) (f : Bool) (e : Ev) (owns : Bool) : Bool × St :=
  if e.act = 7 ∧ e.other = 0 ∧ f = true ∧ o.far = 0 ∧ owns = true then (true, (σ.flg t false).opn t (doneO o 0 2))
  else if e.act = 7 ∧ e.other = 0 ∧ f = true ∧ o.far = 2 then (true, (σ.flg t false).opn t { o with far := 3 })
  else if e.act = 2 ∧ e.other = 0 ∧ o.far = 0 ∧ owns = true then (true, (St.opn { σ with rel := inc σ.rel } t { o with saved := dp, since := inc σ.rel, far := 2 }).obj k (-1, 0))
  else if e.act = 4 ∧ leavesB o e = true then (true, σ.opn t { o with far := 4, code := 0, val := e.other })
  else if e.act = 5 ∧ e.other = 0 ∧ o.far = 4 ∧ ow < 0 then (true, (σ.obj k (e.thread, o.saved)).opn t { o with far := 5 })
  else if refB o e 4 (!owns) = true then (true, σ.opn t (doneO o 4 0))
  else if refB o e 3 true = true then (true, σ.opn t (doneO o 3 0))
  else (false, σ)
theorem flagT_cells : ∀ {bs : List (Option Nat)} {th : List Th} {t : Nat} {x : Th} (b : Bool), bs.length = th.length → th[t]? = some x → (thCells bs th).take (t * 3 + 2) ++ [.bool b] ++ (thCells bs th).drop (t * 3 + 2 + 1) = thCells bs (flagT th t b)
  | q :: bs, y :: th, 0, x, b, hl, h => by simp at h; subst h; simp [thCells, flagT]
  | q :: bs, y :: th, t + 1, x, b, hl, h => by
    have ih := flagT_cells (bs := bs) (th := th) (t := t) (x := x) b (by simpa using hl) (by simpa using h)
    have e : (t + 1) * 3 = t * 3 + 1 + 1 + 1 := by omega
    have e2 : (t + 1) * 3 + 2 = t * 3 + 2 + 1 + 1 + 1 := by omega
    rw [e2]
    simp only [flagT, List.modify_succ_cons, thCells, List.take_succ_cons, List.drop_succ_cons, List.cons_append] at ih ⊢
    rw [ih]
  | [], _ :: _, _, _, _, hl, _ => by simp at hl
theorem OpOk.flg {OP : Heap} {bs : List (Option Nat)} {th : List Th} {t : Nat} {b : Bool} (h : OpOk OP bs th) : OpOk OP bs (flagT th t b) := by
  refine ⟨by rw [flagT_length]; exact h.len, fun u x hx => ?_, h.one⟩
  rw [flagT_at] at hx
  cases hu : th[u]? with
  | none => rw [hu] at hx; cases hx
  | some y =>
    rw [hu] at hx
    simp only [Option.map_some, Option.some.injEq] at hx
    subst hx
    obtain ⟨b', g1, g2, g3⟩ := h.at_ u y hu
    refine ⟨b', g1, fun q => g2 (by split at q <;> exact q), fun o ho => g3 o (by split at ho <;> exact ho)⟩
theorem MemOk.flg {bt bo : Option Addr} {ct co : Nat} {HT HO OP HT' : Heap} {bs : List (Option Nat)} {σ : St} {t : Nat} {b : Bool} (h : MemOk bt bo ct co HT HO OP bs σ) (os : OS HT' bt σ.th.length ct 73 3 (thCells bs (flagT σ.th t b))) : MemOk bt bo ct co HT' HO OP bs (σ.flg t b) :=
  ⟨by simp only [St.flg, flagT_length]; exact os, h.hO, h.op.flg, h.nT, h.nO⟩
theorem MemOk.rel {bt bo : Option Addr} {ct co : Nat} {HT HO OP : Heap} {bs : List (Option Nat)} {σ : St} (h : MemOk bt bo ct co HT HO OP bs σ) (r : Int) : MemOk bt bo ct co HT HO OP bs { σ with rel := r } := ⟨h.hT, h.hO, h.op, h.nT, h.nO⟩
end Go.Proofs.Ytimmclibnfdjhaa
