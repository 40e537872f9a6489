/- What taking keeps. -/
import Derived.Test.YtimmclibnfdjhaaWB12
set_option linter.unusedVariables false
set_option linter.unusedSimpArgs false
set_option linter.unusedSectionVars false
namespace Go.Proofs.Ytimmclibnfdjhaa
open Go.SL
/-- What every step keeps. -/
structure Keep (σ σ' : St) : Prop where
  tl : σ'.th.length = σ.th.length
  ol : σ'.ob.length = σ.ob.length
  wf : WF σ → WF σ'
theorem Keep.rfl' (σ : St) : Keep σ σ := ⟨rfl, rfl, id⟩
theorem Keep.trans {σ σ' σ'' : St} (a : Keep σ σ') (b : Keep σ' σ'') : Keep σ σ'' := ⟨b.tl.trans a.tl, b.ol.trans a.ol, fun h => b.wf (a.wf h)⟩
theorem WF.opn {σ : St} {t : Nat} {o : Opn} (w : WF σ) (h : (o.op = 4 ∨ o.op = 5) → o.far ≠ 2) : WF (σ.opn t o) := by
  intro u x o' hu hx
  simp only [St.opn, opnT_at] at hu
  cases hz : σ.th[u]? with
  | none => rw [hz] at hu; cases hu
  | some z =>
    rw [hz] at hu
    simp only [Option.map_some, Option.some.injEq] at hu
    by_cases e : u = t
    · rw [if_pos e] at hu
      subst hu
      simp only [Option.some.injEq] at hx
      subst hx
      exact h
    · rw [if_neg e] at hu
      subst hu
      exact w u _ o' hz hx
theorem Keep.opn {σ : St} (t : Nat) (o : Opn) (h : (o.op = 4 ∨ o.op = 5) → o.far ≠ 2) : Keep σ (σ.opn t o) := ⟨by simp [St.opn, opnT_length], rfl, fun w => w.opn h⟩
theorem Keep.obj {σ : St} (k : Nat) (p : Int × Int) : Keep σ (σ.obj k p) := ⟨rfl, by simp [St.obj], fun w => w⟩
theorem Keep.rel {σ : St} (r : Int) : Keep σ { σ with rel := r } := ⟨rfl, rfl, fun w => w⟩
theorem Keep.flg {σ : St} (t : Nat) (b : Bool) : Keep σ (σ.flg t b) := by
  refine ⟨by simp [St.flg, flagT_length], rfl, fun w u x o hu hx => ?_⟩
  simp only [St.flg, flagT_at] at hu
  cases hz : σ.th[u]? with
  | none => rw [hz] at hu; cases hu
  | some z =>
    rw [hz] at hu
    simp only [Option.map_some, Option.some.injEq] at hu
    refine w u z o hz ?_
    subst hu
    by_cases e : u = t
    · rw [if_pos e] at hx; exact hx
    · rw [if_neg e] at hx; exact hx
theorem Keep.cls {σ : St} (t : Nat) (c : Int) : Keep σ (σ.cls t c) := by
  refine ⟨by simp [St.cls, callsT_length], rfl, fun w u x o hu hx => ?_⟩
  simp only [St.cls, callsT_at] at hu
  cases hz : σ.th[u]? with
  | none => rw [hz] at hu; cases hu
  | some z =>
    rw [hz] at hu
    simp only [Option.map_some, Option.some.injEq] at hu
    refine w u z o hz ?_
    subst hu
    by_cases e : u = t
    · rw [if_pos e] at hx; exact hx
    · rw [if_neg e] at hx; exact hx
theorem Keep.shut {σ : St} (t : Nat) : Keep σ (σ.shut t) := by
  refine ⟨by simp [St.shut, opnT_length], rfl, fun w u x o hu hx => ?_⟩
  simp only [St.shut, opnT_at] at hu
  cases hz : σ.th[u]? with
  | none => rw [hz] at hu; cases hu
  | some z =>
    rw [hz] at hu
    simp only [Option.map_some, Option.some.injEq] at hu
    subst hu
    by_cases e : u = t
    · rw [if_pos e] at hx; cases hx
    · rw [if_neg e] at hx; exact w u z o hz hx
theorem Keep.done {σ : St} (t : Nat) (o : Opn) (c v : Int) : Keep σ (σ.opn t (doneO o c v)) := Keep.opn t _ fun _ => by simp
macro "KEEP" : tactic => `(tactic| repeat' first
  | exact Keep.rfl' _
  | exact Keep.done _ _ _ _
  | exact Keep.obj _ _
  | exact (Keep.obj _ _).trans (Keep.done _ _ _ _)
  | exact (Keep.flg _ _).trans (Keep.done _ _ _ _)
  | split)
theorem stepF_keep {σ : St} {t k : Nat} {o : Opn} {ow dp : Int} {f : Bool} {e : Ev} {owns : Bool} : Keep σ (stepF σ t k o ow dp f e owns).2 := by
  unfold stepF
  split
  · unfold enterF; KEEP
  split
  · unfold exitF; KEEP
  split
  · rename_i h
    have h45 : ¬ (o.op = 4 ∨ o.op = 5) := by omega
    unfold waitF
    split
    · KEEP
    split
    · exact (Keep.flg _ _).trans (Keep.opn _ _ fun h => (h45 h).elim)
    split
    · exact ((Keep.rel (inc σ.rel)).trans (Keep.opn t { o with saved := dp, since := inc σ.rel, far := 2 } fun h => (h45 h).elim)).trans (Keep.obj _ _)
    split
    · exact Keep.opn _ _ fun h => (h45 h).elim
    split
    · exact (Keep.obj _ _).trans (Keep.opn _ _ fun h => (h45 h).elim)
    KEEP
  split
  · unfold notifyF
    split
    · split
      · KEEP
      split
      · exact (Keep.opn _ (woken _) fun _ => by simp).trans (Keep.done _ _ _ _)
      · exact (Keep.opn _ (woken _) fun _ => by simp).trans (Keep.opn _ _ fun _ => by simp)
    KEEP
  split
  · unfold interruptF; KEEP
  split
  · unfold holdsF; KEEP
  split
  · unfold nothingF; KEEP
  KEEP
theorem takeF_keep {σ : St} {e : Ev} : Keep σ (takeF σ e).2 := by
  unfold takeF
  split
  · exact Keep.rfl' _
  split
  · exact Keep.rfl' _
  split
  · split
    · exact Keep.rfl' _
    · exact (Keep.cls _ _).trans (Keep.opn _ _ fun _ => by simp)
  split
  · unfold actF
    split
    · exact Keep.rfl' _
    split
    · exact Keep.rfl' _
    split
    · exact Keep.rfl' _
    split
    · exact Keep.rfl' _
    · exact stepF_keep
  split
  · split
    · exact Keep.rfl' _
    split
    · exact Keep.rfl' _
    · exact Keep.shut _
  · exact Keep.rfl' _
end Go.Proofs.Ytimmclibnfdjhaa
