/- Closed calls, run by the kernel: values with blocks by number, what they stand for, heaps. -/
import Derived.Test.YtnfepffmlhmmhaaSlG3
section
set_option linter.unusedVariables false
namespace Go.SL
noncomputable section

/-- How great a slice may grow: it is known; or it is not, but for a least one. -/
inductive Cap
  | k (n : Nat)
  | o (m lb sz : Nat)
/-- A value whose blocks are numbers of our own. -/
inductive VV
  | lit (v : Value)
  | ptr (b off : Nat)
  | slc (b off len : Nat) (cap : Cap)
  | agg (l : List VV)
  | tup (l : List VV)
  | fn (f : Fn) (first captured : List VV)
  | ifc (t : TypeId) (v : VV)
  | mp (b : Nat)
  | tl (b off d m sz : Nat)
  | yl (b : Nat)
/-- What such a number stands for: the block; what lies ahead of, and behind, what is known; how great a slice of it may grow. -/
structure BI where
  blk : Nat
  pre : List Value
  post : List Value
  cap : Nat
  sz : Nat
  ents : List MapEntry := []
  clk : Nat := 0
  lp : Option Loop := none
abbrev Rn := Nat → Option BI
def BI.cp (i : BI) : Cap → Nat
  | .k n => n
  | .o m _ _ => i.cap - m
def BI.ok (i : BI) : Cap → Bool
  | .k _ => true
  | .o m lb sz => Nat.ble lb (i.cap - m) && Nat.beq i.sz sz
def Cap.lb : Cap → Nat
  | .k n => n
  | .o _ n _ => n
theorem BI.lb_le {i : BI} {c : Cap} (h : i.ok c = true) : c.lb ≤ i.cp c := by
  cases c with
  | k n => exact Nat.le_refl _
  | o m lb sz => simp only [BI.ok, Bool.and_eq_true] at h; exact Nat.le_of_ble_eq_true h.1
def BI.at (i : BI) (off : Nat) : Addr := ⟨i.blk, i.pre.length + off, none⟩

/-- Where an empty slice at the end begins: if it may not grow, it has not moved. -/
def tlOff : Nat → Nat → Nat → Nat
  | 0, off, d => off - d
  | _ + 1, off, _ => off
mutual
def den (ρ : Rn) : VV → Option Value
  | .lit v => some v
  | .ptr b off => match ρ b with | some i => some (.pointer (some (i.at off))) | none => none
  | .slc b off len c => match ρ b with
    | some i => match i.ok c with | true => some (.slice (some (i.at off)) len (i.cp c)) | false => none
    | none => none
  | .agg l => match denL ρ l with | some xs => some (.agg ⟨xs⟩) | none => none
  | .tup l => match denL ρ l with | some xs => some (.tuple ⟨xs⟩) | none => none
  | .fn f a c => match denL ρ a, denL ρ c with | some xs, some ys => some (.func f ⟨xs⟩ ⟨ys⟩) | _, _ => none
  | .ifc t v => match den ρ v with | some x => some (.iface t x) | none => none
  | .mp b => match ρ b with | some i => some (.map (some i.blk)) | none => none
  | .tl b off d m sz => match ρ b with
    | some i => match Nat.beq i.sz sz with | true => some (.slice (some (i.at (tlOff (i.cap - m) off d))) 0 (i.cap - m)) | false => none
    | none => none
  | .yl b => match ρ b with | some i => some (.func (.yield i.blk) #[] #[]) | none => none
def denL (ρ : Rn) : List VV → Option (List Value)
  | [] => some []
  | v :: l => match den ρ v, denL ρ l with | some x, some xs => some (x :: xs) | _, _ => none
end

/-- One says no less than another one. -/
def Ext (ρ ρ' : Rn) : Prop := ∀ b i, ρ b = some i → ρ' b = some i
theorem Ext.refl (ρ : Rn) : Ext ρ ρ := fun _ _ h => h
theorem Ext.trans {ρ ρ' ρ'' : Rn} (h : Ext ρ ρ') (h' : Ext ρ' ρ'') : Ext ρ ρ'' := fun b i x => h' b i (h b i x)

mutual
theorem den_ext {ρ ρ' : Rn} (e : Ext ρ ρ') : ∀ {v : VV} {x : Value}, den ρ v = some x → den ρ' v = some x
  | .lit v, x, h => h
  | .ptr b off, x, h => by
    simp only [den] at h ⊢
    cases hb : ρ b with
    | none => rw [hb] at h; cases h
    | some i => rw [hb] at h; rw [e b i hb]; exact h
  | .slc b off len c, x, h => by
    simp only [den] at h ⊢
    cases hb : ρ b with
    | none => rw [hb] at h; cases h
    | some i => rw [hb] at h; rw [e b i hb]; exact h
  | .agg l, x, h => by
    simp only [den] at h ⊢
    cases hl : denL ρ l with
    | none => rw [hl] at h; cases h
    | some xs => rw [hl] at h; rw [denL_ext e hl]; exact h
  | .tup l, x, h => by
    simp only [den] at h ⊢
    cases hl : denL ρ l with
    | none => rw [hl] at h; cases h
    | some xs => rw [hl] at h; rw [denL_ext e hl]; exact h
  | .fn f a c, x, h => by
    simp only [den] at h ⊢
    cases ha : denL ρ a with
    | none => rw [ha] at h; cases h
    | some xs =>
      cases hc : denL ρ c with
      | none => rw [ha, hc] at h; cases h
      | some ys => rw [ha, hc] at h; rw [denL_ext e ha, denL_ext e hc]; exact h
  | .ifc t v, x, h => by
    simp only [den] at h ⊢
    cases hv : den ρ v with
    | none => rw [hv] at h; cases h
    | some y => rw [hv] at h; rw [den_ext e hv]; exact h
  | .mp b, x, h => by
    simp only [den] at h ⊢
    cases hb : ρ b with
    | none => rw [hb] at h; cases h
    | some i => rw [hb] at h; rw [e b i hb]; exact h
  | .tl b off d m sz, x, h => by
    simp only [den] at h ⊢
    cases hb : ρ b with
    | none => rw [hb] at h; cases h
    | some i => rw [hb] at h; rw [e b i hb]; exact h
  | .yl b, x, h => by
    simp only [den] at h ⊢
    cases hb : ρ b with
    | none => rw [hb] at h; cases h
    | some i => rw [hb] at h; rw [e b i hb]; exact h
theorem denL_ext {ρ ρ' : Rn} (e : Ext ρ ρ') : ∀ {l : List VV} {xs : List Value}, denL ρ l = some xs → denL ρ' l = some xs
  | [], xs, h => h
  | v :: l, xs, h => by
    simp only [denL] at h ⊢
    cases hv : den ρ v with
    | none => rw [hv] at h; cases h
    | some y =>
      cases hl : denL ρ l with
      | none => rw [hv, hl] at h; cases h
      | some ys => rw [hv, hl] at h; rw [den_ext e hv, denL_ext e hl]; exact h
end

theorem denL_cons {ρ : Rn} {v : VV} {l : List VV} {xs : List Value} (h : denL ρ (v :: l) = some xs) : ∃ y ys, den ρ v = some y ∧ denL ρ l = some ys ∧ xs = y :: ys := by
  simp only [denL] at h
  cases hv : den ρ v with
  | none => rw [hv] at h; cases h
  | some y =>
    cases hl : denL ρ l with
    | none => rw [hv, hl] at h; cases h
    | some ys => rw [hv, hl] at h; cases h; exact ⟨y, ys, rfl, rfl, rfl⟩
theorem denL_mk {ρ : Rn} {v : VV} {l : List VV} {y : Value} {ys : List Value} (hv : den ρ v = some y) (hl : denL ρ l = some ys) : denL ρ (v :: l) = some (y :: ys) := by
  simp only [denL, hv, hl]
theorem denL_length {ρ : Rn} : ∀ {l : List VV} {xs : List Value}, denL ρ l = some xs → xs.length = l.length
  | [], xs, h => by cases h; rfl
  | v :: l, xs, h => by
    obtain ⟨y, ys, -, h2, rfl⟩ := denL_cons h
    simp [denL_length h2]
theorem denL_append {ρ : Rn} : ∀ {l m : List VV} {xs ys : List Value}, denL ρ l = some xs → denL ρ m = some ys → denL ρ (l ++ m) = some (xs ++ ys)
  | [], m, xs, ys, h, h' => by cases h; exact h'
  | v :: l, m, xs, ys, h, h' => by
    obtain ⟨y, zs, h1, h2, rfl⟩ := denL_cons h
    exact denL_mk h1 (denL_append h2 h')
theorem denL_nth {ρ : Rn} : ∀ {l : List VV} {xs : List Value} {k : Nat} {v : VV}, denL ρ l = some xs → nth l k = some v → ∃ x, nth xs k = some x ∧ den ρ v = some x
  | [], xs, k, v, h, h' => by cases h'
  | u :: l, xs, 0, v, h, h' => by
    obtain ⟨y, zs, h1, h2, rfl⟩ := denL_cons h
    cases h'; exact ⟨y, rfl, h1⟩
  | u :: l, xs, k + 1, v, h, h' => by
    obtain ⟨y, zs, h1, h2, rfl⟩ := denL_cons h
    have := denL_nth h2 (show nth l k = some v from h')
    exact this
theorem denL_drop {ρ : Rn} : ∀ {l m : List VV} {xs : List Value} {k : Nat}, denL ρ l = some xs → dropO l k = some m → ∃ ys, dropO xs k = some ys ∧ denL ρ m = some ys
  | l, m, xs, 0, h, h' => by
    have e1 : dropO l 0 = some l := by cases l <;> rfl
    rw [e1] at h'; cases h'
    exact ⟨xs, by cases xs <;> rfl, h⟩
  | [], m, xs, k + 1, h, h' => by cases h'
  | u :: l, m, xs, k + 1, h, h' => by
    obtain ⟨y, zs, h1, h2, rfl⟩ := denL_cons h
    have := denL_drop h2 (show dropO l k = some m from h')
    exact this
theorem denL_take {ρ : Rn} : ∀ {l m : List VV} {xs : List Value} {k : Nat}, denL ρ l = some xs → takeO l k = some m → ∃ ys, takeO xs k = some ys ∧ denL ρ m = some ys
  | l, m, xs, 0, h, h' => by
    have e1 : takeO l 0 = some [] := by cases l <;> rfl
    rw [e1] at h'; cases h'
    exact ⟨[], by cases xs <;> rfl, rfl⟩
  | [], m, xs, k + 1, h, h' => by cases h'
  | u :: l, m, xs, k + 1, h, h' => by
    obtain ⟨y, zs, h1, h2, rfl⟩ := denL_cons h
    simp only [takeO] at h'
    cases e : takeO l k with
    | none => rw [e] at h'; cases h'
    | some r =>
      rw [e] at h'; cases h'
      obtain ⟨ys, g1, g2⟩ := denL_take h2 e
      exact ⟨y :: ys, by simp only [takeO, g1], denL_mk h1 g2⟩
theorem denL_splice {ρ : Rn} : ∀ {l m r : List VV} {xs ys : List Value} {k : Nat}, denL ρ l = some xs → denL ρ m = some ys → spliceO l k m = some r → ∃ zs, spliceO xs k ys = some zs ∧ denL ρ r = some zs := by
  intro l
  induction l with
  | nil =>
    intro m r xs ys k h hm h'
    cases h
    cases k with
    | zero => cases m with
      | nil => cases hm; cases h'; exact ⟨[], rfl, rfl⟩
      | cons v m => cases h'
    | succ k => cases h'
  | cons u l ih =>
    intro m r xs ys k h hm h'
    obtain ⟨y, zs, h1, h2, rfl⟩ := denL_cons h
    cases k with
    | zero => cases m with
      | nil => cases hm; cases h'; exact ⟨y :: zs, rfl, h⟩
      | cons v m =>
        obtain ⟨w, ws, g1, g2, rfl⟩ := denL_cons hm
        simp only [spliceO] at h'
        cases e : spliceO l 0 m with
        | none => rw [e] at h'; cases h'
        | some r' =>
          rw [e] at h'; cases h'
          obtain ⟨qs, q1, q2⟩ := ih h2 g2 e
          exact ⟨w :: qs, by simp only [spliceO, q1], denL_mk g1 q2⟩
    | succ k =>
      simp only [spliceO] at h'
      cases e : spliceO l k m with
      | none => rw [e] at h'; cases h'
      | some r' =>
        rw [e] at h'; cases h'
        obtain ⟨qs, q1, q2⟩ := ih h2 hm e
        exact ⟨y :: qs, by simp only [spliceO, q1], denL_mk h1 q2⟩
def lits : List Value → List VV
  | [] => []
  | v :: l => .lit v :: lits l
theorem denL_lits {ρ : Rn} : ∀ (l : List Value), denL ρ (lits l) = some l
  | [] => rfl
  | v :: l => denL_mk rfl (denL_lits l)

/-- The cells of a value. -/
def cellsV : VV → List VV
  | .agg l => l
  | .lit (.agg ⟨l⟩) => lits l
  | v => [v]
theorem cellsV_den {ρ : Rn} {v : VV} {x : Value} (h : den ρ v = some x) : ∃ xs, cellsO x = some xs ∧ denL ρ (cellsV v) = some xs := by
  cases v with
  | lit v =>
    cases h
    cases x with
    | agg l => obtain ⟨l⟩ := l; exact ⟨l, rfl, denL_lits l⟩
    | _ => exact ⟨_, rfl, rfl⟩
  | agg l =>
    simp only [den] at h
    cases hl : denL ρ l with
    | none => rw [hl] at h; cases h
    | some xs => rw [hl] at h; cases h; exact ⟨xs, rfl, hl⟩
  | ptr b off =>
    have h' := h
    simp only [den] at h; split at h <;> cases h
    exact ⟨_, rfl, denL_mk h' rfl⟩
  | slc b off len c =>
    have h' := h
    simp only [den] at h
    split at h
    · split at h <;> cases h
      exact ⟨_, rfl, denL_mk h' rfl⟩
    · cases h
  | tup l =>
    have h' := h
    simp only [den] at h; split at h <;> cases h
    exact ⟨_, rfl, denL_mk h' rfl⟩
  | fn f a c =>
    have h' := h
    simp only [den] at h; split at h <;> cases h
    exact ⟨_, rfl, denL_mk h' rfl⟩
  | ifc t v =>
    have h' := h
    simp only [den] at h; split at h <;> cases h
    exact ⟨_, rfl, denL_mk h' rfl⟩
  | mp b =>
    have h' := h
    simp only [den] at h; split at h <;> cases h
    exact ⟨_, rfl, denL_mk h' rfl⟩
  | tl b off d m sz =>
    have h' := h
    simp only [den] at h
    split at h
    · split at h <;> cases h
      exact ⟨_, rfl, denL_mk h' rfl⟩
    · cases h
  | yl b =>
    have h' := h
    simp only [den] at h; split at h <;> cases h
    exact ⟨_, rfl, denL_mk h' rfl⟩

/-! ### Environments, heaps -/
abbrev VE := List (Nat × VV)
def denEnv (ρ : Rn) : VE → Option Env
  | [] => some []
  | (k, v) :: E => match den ρ v, denEnv ρ E with | some x, some r => some ((k, x) :: r) | _, _ => none
theorem denEnv_cons {ρ : Rn} {k : Nat} {v : VV} {E : VE} {env : Env} (h : denEnv ρ ((k, v) :: E) = some env) : ∃ x r, den ρ v = some x ∧ denEnv ρ E = some r ∧ env = (k, x) :: r := by
  simp only [denEnv] at h
  cases hv : den ρ v with
  | none => rw [hv] at h; cases h
  | some x =>
    cases hl : denEnv ρ E with
    | none => rw [hv, hl] at h; cases h
    | some r => rw [hv, hl] at h; cases h; exact ⟨x, r, rfl, rfl, rfl⟩
theorem denEnv_mk {ρ : Rn} {k : Nat} {v : VV} {E : VE} {x : Value} {r : Env} (h1 : den ρ v = some x) (h2 : denEnv ρ E = some r) : denEnv ρ ((k, v) :: E) = some ((k, x) :: r) := by
  simp only [denEnv, h1, h2]
theorem denEnv_ext {ρ ρ' : Rn} (e : Ext ρ ρ') : ∀ {E : VE} {env : Env}, denEnv ρ E = some env → denEnv ρ' E = some env
  | [], env, h => h
  | (k, v) :: E, env, h => by
    obtain ⟨x, r, h1, h2, rfl⟩ := denEnv_cons h
    exact denEnv_mk (den_ext e h1) (denEnv_ext e h2)
/-- How a loop over a function stands. -/
inductive LS
  | ready
  | done (c : Code)
def LS.state : LS → LoopState
  | .ready => .ready
  | .done _ => .done
def LS.pend : LS → Option Code
  | .ready => none
  | .done c => some c
/-- What a loop over a function was begun with. -/
def RecIs (ρ : Rn) (n : Nat) (E : VE) (ps : List Nat) (asg body : Code) (r : Loop) : Prop :=
  ∃ env, denEnv ρ E = some env ∧ Has n env { tmps := r.tmps, defers := [] } ∧ r.params.toList = ps ∧ r.assign = asg ∧ r.body = body
theorem RecIs.ext {ρ ρ' : Rn} (e : Ext ρ ρ') {n : Nat} {E : VE} {ps : List Nat} {asg body : Code} {r : Loop} (h : RecIs ρ n E ps asg body r) : RecIs ρ' n E ps asg body r :=
  let ⟨env, h1, h2⟩ := h
  ⟨env, denEnv_ext e h1, h2⟩
structure ME where
  key : Value
  val : VV
  born : Nat
inductive VO
  | cells (l : List VV) (T : TypeId)
  | map (es : List ME) (clock : Nat)
  | tab (es : List (Value × VV))
  | loop (n : Nat) (E : VE) (ps : List Nat) (asg body : Code) (st : LS)
def denE (ρ : Rn) : List ME → Option (List MapEntry)
  | [] => some []
  | e :: l => match den ρ e.val, denE ρ l with | some x, some r => some ({ key := e.key, val := x, born := e.born } :: r) | _, _ => none
/-- The entries of a table: in whatever order they lie. -/
def denT (ρ : Rn) : List (Value × VV) → Option (List (Value × Value))
  | [] => some []
  | (k, v) :: l => match den ρ v, denT ρ l with | some x, some r => some ((k, x) :: r) | _, _ => none
theorem denT_ext {ρ ρ' : Rn} (e : Ext ρ ρ') : ∀ {l : List (Value × VV)} {r : List (Value × Value)}, denT ρ l = some r → denT ρ' l = some r
  | [], r, h => h
  | (k, v) :: l, r, h => by
    simp only [denT] at h ⊢
    cases hv : den ρ v with
    | none => rw [hv] at h; cases h
    | some x =>
      cases hl : denT ρ l with
      | none => rw [hv, hl] at h; cases h
      | some r' => rw [hv, hl] at h; rw [den_ext e hv, denT_ext e hl]; exact h
open Classical in
def denO (ρ : Rn) (i : BI) : VO → Option Obj
  | .cells l T => match denL ρ l with
    | some xs => match Nat.ble (i.cap * i.sz) (xs.length + i.post.length) with
      | true => some (.cells ⟨i.pre ++ xs ++ i.post⟩ T (0, 0))
      | false => none
    | none => none
  | .map es c => match denE ρ es with | some r => some (.map ⟨r⟩ c) | none => none
  | .tab es => if ∃ r, denT ρ es = some r ∧ (i.ents.map fun e => (e.key, e.val)).Perm r then some (.map ⟨i.ents⟩ i.clk) else none
  | .loop n E ps asg body st => match i.lp with
    | some r => if RecIs ρ n E ps asg body r then some (.loop { r with state := st.state, pending := st.pend }) else none
    | none => none
abbrev VH := List (Nat × VO)
def denH (ρ : Rn) : VH → Option (List Heap)
  | [] => some []
  | (b, o) :: H => match ρ b with
    | some i => match denO ρ i o, denH ρ H with | some ob, some hs => some (blk i.blk ob :: hs) | _, _ => none
    | none => none
theorem denO_cells {ρ : Rn} {i : BI} {l : List VV} {T : TypeId} {ob : Obj} (h : denO ρ i (.cells l T) = some ob) :
    ∃ xs, denL ρ l = some xs ∧ i.cap * i.sz ≤ xs.length + i.post.length ∧ ob = .cells ⟨i.pre ++ xs ++ i.post⟩ T (0, 0) := by
  simp only [denO] at h
  split at h
  · rename_i xs hl
    split at h
    · rename_i hb; cases h; exact ⟨xs, hl, Nat.le_of_ble_eq_true hb, rfl⟩
    · cases h
  · cases h
theorem denO_cells_mk {ρ : Rn} {i : BI} {l : List VV} {T : TypeId} {xs : List Value} (h : denL ρ l = some xs) (hc : i.cap * i.sz ≤ xs.length + i.post.length) : denO ρ i (.cells l T) = some (.cells ⟨i.pre ++ xs ++ i.post⟩ T (0, 0)) := by
  simp only [denO, h, Nat.ble_eq_true_of_le hc]
theorem denE_ext {ρ ρ' : Rn} (e : Ext ρ ρ') : ∀ {l : List ME} {r : List MapEntry}, denE ρ l = some r → denE ρ' l = some r
  | [], r, h => h
  | m :: l, r, h => by
    simp only [denE] at h ⊢
    cases hv : den ρ m.val with
    | none => rw [hv] at h; cases h
    | some x =>
      cases hl : denE ρ l with
      | none => rw [hv, hl] at h; cases h
      | some r' => rw [hv, hl] at h; rw [den_ext e hv, denE_ext e hl]; exact h
theorem denO_ext {ρ ρ' : Rn} (e : Ext ρ ρ') {i : BI} {o : VO} {ob : Obj} (h : denO ρ i o = some ob) : denO ρ' i o = some ob := by
  cases o with
  | cells l T =>
    simp only [denO] at h ⊢
    cases hl : denL ρ l with
    | none => rw [hl] at h; cases h
    | some xs => rw [hl] at h; rw [denL_ext e hl]; exact h
  | map es c =>
    simp only [denO] at h ⊢
    cases hl : denE ρ es with
    | none => rw [hl] at h; cases h
    | some r => rw [hl] at h; rw [denE_ext e hl]; exact h
  | tab es =>
    simp only [denO] at h ⊢
    split at h
    · rename_i hr
      obtain ⟨r, h1, h2⟩ := hr
      rw [if_pos ⟨r, denT_ext e h1, h2⟩]; exact h
    · cases h
  | loop n E ps asg body st =>
    simp only [denO] at h ⊢
    split at h
    · split at h
      · rename_i hr
        rw [if_pos (hr.ext e)]; exact h
      · cases h
    · cases h
theorem denO_loop {ρ : Rn} {i : BI} {n : Nat} {E : VE} {ps : List Nat} {asg body : Code} {st : LS} {ob : Obj} (h : denO ρ i (.loop n E ps asg body st) = some ob) :
    ∃ r, i.lp = some r ∧ RecIs ρ n E ps asg body r ∧ ob = .loop { r with state := st.state, pending := st.pend } := by
  simp only [denO] at h
  split at h
  · rename_i r hr
    split at h
    · rename_i hc; cases h; exact ⟨r, hr, hc, rfl⟩
    · cases h
  · cases h
theorem denO_loop_mk {ρ : Rn} {i : BI} {n : Nat} {E : VE} {ps : List Nat} {asg body : Code} {st : LS} {r : Loop} (h1 : i.lp = some r) (h2 : RecIs ρ n E ps asg body r) :
    denO ρ i (.loop n E ps asg body st) = some (.loop { r with state := st.state, pending := st.pend }) := by
  simp only [denO, h1]; rw [if_pos h2]
theorem denO_tab {ρ : Rn} {i : BI} {es : List (Value × VV)} {ob : Obj} (h : denO ρ i (.tab es) = some ob) : ∃ r, denT ρ es = some r ∧ (i.ents.map fun e => (e.key, e.val)).Perm r ∧ ob = .map ⟨i.ents⟩ i.clk := by
  simp only [denO] at h
  split at h
  · rename_i hr; obtain ⟨r, h1, h2⟩ := hr; cases h; exact ⟨r, h1, h2, rfl⟩
  · cases h
theorem denO_tab_mk {ρ : Rn} {i : BI} {es : List (Value × VV)} {r : List (Value × Value)} (h1 : denT ρ es = some r) (h2 : (i.ents.map fun e => (e.key, e.val)).Perm r) : denO ρ i (.tab es) = some (.map ⟨i.ents⟩ i.clk) := by
  simp only [denO]; rw [if_pos ⟨r, h1, h2⟩]
theorem denH_cons {ρ : Rn} {b : Nat} {o : VO} {H : VH} {own : List Heap} (h : denH ρ ((b, o) :: H) = some own) : ∃ i ob hs, ρ b = some i ∧ denO ρ i o = some ob ∧ denH ρ H = some hs ∧ own = blk i.blk ob :: hs := by
  simp only [denH] at h
  cases hb : ρ b with
  | none => rw [hb] at h; cases h
  | some i =>
    rw [hb] at h
    simp only at h
    cases ho : denO ρ i o with
    | none => rw [ho] at h; cases h
    | some ob =>
      cases hh : denH ρ H with
      | none => rw [ho, hh] at h; cases h
      | some hs => rw [ho, hh] at h; cases h; exact ⟨i, ob, hs, rfl, ho, rfl, rfl⟩
theorem denH_mk {ρ : Rn} {b : Nat} {o : VO} {H : VH} {i : BI} {ob : Obj} {hs : List Heap} (h1 : ρ b = some i) (h2 : denO ρ i o = some ob) (h3 : denH ρ H = some hs) : denH ρ ((b, o) :: H) = some (blk i.blk ob :: hs) := by
  simp only [denH, h1, h2, h3]
theorem denH_ext {ρ ρ' : Rn} (e : Ext ρ ρ') : ∀ {H : VH} {own : List Heap}, denH ρ H = some own → denH ρ' H = some own
  | [], own, h => h
  | (b, o) :: H, own, h => by
    obtain ⟨i, ob, hs, h1, h2, h3, rfl⟩ := denH_cons h
    exact denH_mk (e b i h1) (denO_ext e h2) (denH_ext e h3)
def getHS : VH → Nat → Option VO
  | [], _ => none
  | (b, o) :: H, k => match Nat.beq b k with
    | true => some o
    | false => getHS H k
def getH (H : VH) (k : Nat) : Option VO := List.rec (motive := fun _ => Option VO) none (fun p _ ih => Bool.rec (motive := fun _ => Option VO) ih (some p.2) (Nat.beq p.1 k)) H
theorem getH_cons {b : Nat} {o : VO} {H : VH} {k : Nat} : getH ((b, o) :: H) k = match Nat.beq b k with
    | true => some o
    | false => getH H k := by
  show Bool.rec (motive := fun _ => Option VO) (getH H k) (some o) (Nat.beq b k) = _
  cases Nat.beq b k <;> rfl
theorem getH_den {ρ : Rn} : ∀ {H : VH} {own : List Heap} {b : Nat} {o : VO}, denH ρ H = some own → getH H b = some o → ∃ i ob, ρ b = some i ∧ denO ρ i o = some ob ∧ blk i.blk ob ∈ own
  | [], own, b, o, h, hg => by cases hg
  | (c, u) :: H, own, b, o, h, hg => by
    obtain ⟨i, ob, hs, h1, h2, h3, rfl⟩ := denH_cons h
    simp only [getH_cons] at hg
    cases hb : Nat.beq c b with
    | true =>
      rw [hb] at hg; cases hg
      have := Nat.eq_of_beq_eq_true hb; subst this
      exact ⟨i, ob, h1, h2, List.mem_cons_self ..⟩
    | false =>
      rw [hb] at hg
      obtain ⟨j, ob', g1, g2, g3⟩ := getH_den h3 hg
      exact ⟨j, ob', g1, g2, List.mem_cons_of_mem _ g3⟩
/-- A block that turns; the other ones stay. -/
def consO {α : Type} (x : α) : Option (List α) → Option (List α)
  | some l => some (x :: l)
  | none => none
def setHS : VH → Nat → VO → Option VH
  | [], _, _ => none
  | (b, o) :: H, k, u => match Nat.beq b k with
    | true => some ((b, u) :: H)
    | false => consO (b, o) (setHS H k u)
def setH (H : VH) (k : Nat) (u : VO) : Option VH := List.rec (motive := fun _ => Option VH) none (fun p H ih => Bool.rec (motive := fun _ => Option VH) (consO p ih) (some ((p.1, u) :: H)) (Nat.beq p.1 k)) H
theorem setH_cons {b : Nat} {o u : VO} {H : VH} {k : Nat} : setH ((b, o) :: H) k u = match Nat.beq b k with
    | true => some ((b, u) :: H)
    | false => match setH H k u with
      | some H' => some ((b, o) :: H')
      | none => none := by
  show Bool.rec (motive := fun _ => Option VH) (consO (b, o) (setH H k u)) (some ((b, u) :: H)) (Nat.beq b k) = _
  cases Nat.beq b k
  · show consO (b, o) (setH H k u) = _
    cases setH H k u <;> rfl
  · rfl
theorem setH_den {ρ : Rn} : ∀ {H H' : VH} {own : List Heap} {b : Nat} {o u : VO} {i : BI} {ob ub : Obj}, denH ρ H = some own → getH H b = some o → setH H b u = some H' → ρ b = some i → denO ρ i o = some ob → denO ρ i u = some ub →
    ∃ own' rest, denH ρ H' = some own' ∧ own.Perm (blk i.blk ob :: rest) ∧ own'.Perm (blk i.blk ub :: rest)
  | [], H', own, b, o, u, i, ob, ub, h, hg, _, _, _, _ => by cases hg
  | (c, x) :: H, H', own, b, o, u, i, ob, ub, h, hg, hs, hi, ho, hu => by
    obtain ⟨j, xb, hh, h1, h2, h3, rfl⟩ := denH_cons h
    simp only [getH_cons] at hg
    simp only [setH_cons] at hs
    cases hb : Nat.beq c b with
    | true =>
      rw [hb] at hg hs; cases hg; cases hs
      have := Nat.eq_of_beq_eq_true hb; subst this
      rw [hi] at h1; cases h1
      rw [ho] at h2; cases h2
      exact ⟨_, hh, denH_mk hi hu h3, List.Perm.refl _, List.Perm.refl _⟩
    | false =>
      rw [hb] at hg hs
      simp only at hs
      cases e : setH H b u with
      | none => rw [e] at hs; cases hs
      | some H2 =>
        rw [e] at hs; cases hs
        obtain ⟨own', rest, g1, g2, g3⟩ := setH_den h3 hg e hi ho hu
        exact ⟨_, blk j.blk xb :: rest, denH_mk h1 h2 g1, (g2.cons _).trans (List.Perm.swap _ _ _), (g3.cons _).trans (List.Perm.swap _ _ _)⟩
/-- A block that is taken away. -/
def delH : VH → Nat → VH
  | [], _ => []
  | (b, o) :: H, k => match Nat.beq b k with
    | true => H
    | false => (b, o) :: delH H k
theorem delH_den {ρ : Rn} : ∀ {H : VH} {own : List Heap} {b : Nat} {o : VO} {i : BI} {ob : Obj}, denH ρ H = some own → getH H b = some o → ρ b = some i → denO ρ i o = some ob →
    ∃ rest, denH ρ (delH H b) = some rest ∧ own.Perm (blk i.blk ob :: rest)
  | [], own, b, o, i, ob, h, hg, _, _ => by cases hg
  | (c, x) :: H, own, b, o, i, ob, h, hg, hi, ho => by
    obtain ⟨j, xb, hh, h1, h2, h3, rfl⟩ := denH_cons h
    simp only [getH_cons] at hg
    simp only [delH]
    cases hb : Nat.beq c b with
    | true =>
      rw [hb] at hg; cases hg
      have := Nat.eq_of_beq_eq_true hb; subst this
      rw [hi] at h1; cases h1
      rw [ho] at h2; cases h2
      exact ⟨hh, h3, List.Perm.refl _⟩
    | false =>
      rw [hb] at hg
      obtain ⟨rest, g1, g2⟩ := delH_den h3 hg hi ho
      exact ⟨blk j.blk xb :: rest, denH_mk h1 h2 g1, (g2.cons _).trans (List.Perm.swap _ _ _)⟩

/-! ### Numbers worked out, ahead of what is done with them -/
def fN {α : Type} (n : Nat) (k : Nat → α) : α := match n with
  | 0 => k 0
  | m + 1 => k (m + 1)
theorem fN_eq {α : Type} (n : Nat) (k : Nat → α) : fN n k = k n := by cases n <;> rfl
def fI {α : Type} (z : Int) (k : Int → α) : α := match z with
  | .ofNat n => fN n fun n => k (.ofNat n)
  | .negSucc n => fN n fun n => k (.negSucc n)
theorem fI_eq {α : Type} (z : Int) (k : Int → α) : fI z k = k z := by cases z <;> simp only [fI, fN_eq]
def fB {α : Type} (b : Bool) (k : Bool → α) : α := match b with
  | true => k true
  | false => k false
theorem fB_eq {α : Type} (b : Bool) (k : Bool → α) : fB b k = k b := by cases b <;> rfl
def fVal {α : Type} (v : Value) (k : Value → α) : α := match v with
  | .int t n => fI n fun n => k (.int t n)
  | .bool b => fB b fun b => k (.bool b)
  | v => k v
theorem fVal_eq {α : Type} (v : Value) (k : Value → α) : fVal v k = k v := by cases v <;> simp only [fVal, fI_eq, fB_eq]
def fCap {α : Type} (c : Cap) (k : Cap → α) : α := match c with
  | .k n => fN n fun n => k (.k n)
  | .o m l s => fN m fun m => fN l fun l => k (.o m l s)
theorem fCap_eq {α : Type} (c : Cap) (k : Cap → α) : fCap c k = k c := by cases c <;> simp only [fCap, fN_eq]
mutual
def fVV {α : Type} : VV → (VV → α) → α
  | .lit v, k => fVal v fun v => k (.lit v)
  | .ptr b o, k => fN b fun b => fN o fun o => k (.ptr b o)
  | .slc b o l c, k => fN b fun b => fN o fun o => fN l fun l => fCap c fun c => k (.slc b o l c)
  | .agg l, k => fVVs l fun l => k (.agg l)
  | .tup l, k => fVVs l fun l => k (.tup l)
  | .mp b, k => fN b fun b => k (.mp b)
  | .tl b off d m sz, k => fN b fun b => fN off fun off => fN d fun d => fN m fun m => k (.tl b off d m sz)
  | .yl b, k => fN b fun b => k (.yl b)
  | .fn f a c, k => fVVs a fun a => fVVs c fun c => k (.fn f a c)
  | .ifc t v, k => fVV v fun v => k (.ifc t v)
def fVVs {α : Type} : List VV → (List VV → α) → α
  | [], k => k []
  | v :: l, k => fVV v fun v => fVVs l fun l => k (v :: l)
end
mutual
theorem fVV_eq {α : Type} : ∀ (v : VV) (k : VV → α), fVV v k = k v
  | .lit v, k => by simp only [fVV, fVal_eq]
  | .ptr b o, k => by simp only [fVV, fN_eq]
  | .slc b o l c, k => by simp only [fVV, fN_eq, fCap_eq]
  | .agg l, k => by simp only [fVV, fVVs_eq]
  | .tup l, k => by simp only [fVV, fVVs_eq]
  | .mp b, k => by simp only [fVV, fN_eq]
  | .tl b off d m sz, k => by simp only [fVV, fN_eq]
  | .yl b, k => by simp only [fVV, fN_eq]
  | .fn f a c, k => by simp only [fVV, fVVs_eq]
  | .ifc t v, k => by simp only [fVV, fVV_eq v]
theorem fVVs_eq {α : Type} : ∀ (l : List VV) (k : List VV → α), fVVs l k = k l
  | [], k => rfl
  | v :: l, k => by simp only [fVVs, fVV_eq v, fVVs_eq l]
end

/-! ### Lists, quick -/
def nthF {α : Type} (l : List α) : Nat → Option α := List.rec (motive := fun _ => Nat → Option α) (fun _ => none) (fun x _ ih k => Nat.rec (motive := fun _ => Option α) (some x) (fun k _ => ih k) k) l
theorem nthF_eq {α : Type} : ∀ (l : List α) (k : Nat), nthF l k = nth l k
  | [], _ => rfl
  | _ :: _, 0 => rfl
  | _ :: l, k + 1 => nthF_eq l k
def dropS {α : Type} (k : Nat) (l : List α) : Option (List α) := dropO l k
def dropF {α : Type} (k : Nat) : List α → Option (List α) := Nat.rec (motive := fun _ => List α → Option (List α)) (fun l => some l) (fun _ ih l => List.rec (motive := fun _ => Option (List α)) none (fun _ r _ => ih r) l) k
theorem dropF_eq {α : Type} : ∀ (l : List α) (k : Nat), dropF k l = dropO l k
  | l, 0 => by cases l <;> rfl
  | [], _ + 1 => rfl
  | _ :: l, k + 1 => dropF_eq l k
def takeS {α : Type} (k : Nat) (l : List α) : Option (List α) := takeO l k
def takeF {α : Type} (k : Nat) : List α → Option (List α) := Nat.rec (motive := fun _ => List α → Option (List α)) (fun _ => some []) (fun _ ih l => List.rec (motive := fun _ => Option (List α)) none (fun x r _ => consO x (ih r)) l) k
theorem takeF_eq {α : Type} : ∀ (l : List α) (k : Nat), takeF k l = takeO l k
  | l, 0 => by cases l <;> rfl
  | [], _ + 1 => rfl
  | x :: l, k + 1 => by
    show consO x (takeF k l) = _
    rw [takeF_eq l k]
    simp only [takeO]
    cases takeO l k <;> rfl

/-! ### Looks -/
def lookVS : VE → Nat → Option VV
  | [], _ => none
  | (j, v) :: r, i => match Nat.beq j i with
    | true => some v
    | false => lookVS r i
def lookV (E : VE) (i : Nat) : Option VV := List.rec (motive := fun _ => Option VV) none (fun p _ ih => Bool.rec (motive := fun _ => Option VV) ih (some p.2) (Nat.beq p.1 i)) E
theorem lookV_cons {j i : Nat} {v : VV} {r : VE} : lookV ((j, v) :: r) i = match Nat.beq j i with
    | true => some v
    | false => lookV r i := by
  show Bool.rec (motive := fun _ => Option VV) (lookV r i) (some v) (Nat.beq j i) = _
  cases Nat.beq j i <;> rfl
theorem lookV_den {ρ : Rn} : ∀ {E : VE} {env : Env} {i : Nat} {v : VV}, denEnv ρ E = some env → lookV E i = some v → ∃ x, look env i = some x ∧ den ρ v = some x
  | [], env, i, v, h, hl => by cases hl
  | (j, u) :: E, env, i, v, h, hl => by
    obtain ⟨x, r, h1, h2, rfl⟩ := denEnv_cons h
    simp only [lookV_cons] at hl
    simp only [look]
    cases hb : Nat.beq j i with
    | true => rw [hb] at hl; cases hl; exact ⟨x, rfl, h1⟩
    | false => rw [hb] at hl; exact lookV_den h2 hl
def evV (E : VE) : Operand → Option VV
  | .tmp t => lookV E t
  | .const v => some (.lit v)
  | .global g => some (.lit (.pointer (some ⟨g, 0, none⟩)))
  | .func f => some (.lit (.func (.func f) #[] #[]))
theorem evV_den {ρ : Rn} {E : VE} {env : Env} {x : Operand} {v : VV} (h : denEnv ρ E = some env) (he : evV E x = some v) : ∃ y, ev env x = some y ∧ den ρ v = some y := by
  cases x with
  | tmp t => exact lookV_den h he
  | const c => cases he; exact ⟨c, rfl, rfl⟩
  | global g => cases he; exact ⟨_, rfl, rfl⟩
  | func f => cases he; exact ⟨_, rfl, rfl⟩
def evsV (E : VE) : List Operand → Option (List VV)
  | [] => some []
  | x :: r => match evV E x with
    | some v => match evsV E r with
      | some vs => some (v :: vs)
      | none => none
    | none => none
theorem evsV_den {ρ : Rn} {E : VE} {env : Env} (h : denEnv ρ E = some env) : ∀ {l : List Operand} {vs : List VV}, evsV E l = some vs → ∃ ys, evs env l = some ys ∧ denL ρ vs = some ys
  | [], vs, he => by cases he; exact ⟨[], rfl, rfl⟩
  | x :: l, vs, he => by
    simp only [evsV] at he
    cases hv : evV E x with
    | none => rw [hv] at he; cases he
    | some v =>
      rw [hv] at he
      simp only at he
      cases hl : evsV E l with
      | none => rw [hl] at he; cases he
      | some us =>
        rw [hl] at he; cases he
        obtain ⟨y, g1, g2⟩ := evV_den h hv
        obtain ⟨ys, g3, g4⟩ := evsV_den h hl
        exact ⟨y :: ys, by simp only [evs, g1, g3], denL_mk g2 g4⟩
/-- The environment without what is shadowed. -/
def hasKS : List Nat → Nat → Bool
  | [], _ => false
  | j :: r, i => Nat.beq j i || hasKS r i
def hasK (l : List Nat) (i : Nat) : Bool := List.rec (motive := fun _ => Bool) false (fun j _ ih => Bool.rec (motive := fun _ => Bool) ih true (Nat.beq j i)) l
def tidy : List Nat → VE → VE
  | _, [] => []
  | seen, (k, v) :: E => match hasK seen k with
    | true => tidy seen E
    | false => (k, v) :: tidy (k :: seen) E
theorem hasK_cons {s : List Nat} {i j : Nat} : hasK (j :: s) i = (Nat.beq j i || hasK s i) := by
  show Bool.rec (motive := fun _ => Bool) (hasK s i) true (Nat.beq j i) = _
  cases Nat.beq j i <;> rfl
theorem tidy_den {ρ : Rn} : ∀ {E : VE} {env : Env} (seen : List Nat), denEnv ρ E = some env → ∃ env', denEnv ρ (tidy seen E) = some env' ∧ ∀ p ∈ env', hasK seen p.1 = false ∧ look env p.1 = some p.2
  | [], env, seen, h => by cases h; exact ⟨[], rfl, fun p hp => by cases hp⟩
  | (k, v) :: E, env, seen, h => by
    obtain ⟨x, r, h1, h2, rfl⟩ := denEnv_cons h
    simp only [tidy]
    cases hk : hasK seen k with
    | true =>
      obtain ⟨env', g1, g2⟩ := tidy_den seen h2
      refine ⟨env', g1, fun p hp => ?_⟩
      obtain ⟨q1, q2⟩ := g2 p hp
      refine ⟨q1, ?_⟩
      rw [look_cons_ne _ _ (fun e => by rw [← e, hk] at q1; cases q1)]; exact q2
    | false =>
      obtain ⟨env', g1, g2⟩ := tidy_den (k :: seen) h2
      refine ⟨(k, x) :: env', denEnv_mk h1 g1, fun p hp => ?_⟩
      rcases List.mem_cons.1 hp with rfl | hp
      · exact ⟨hk, look_cons_self ..⟩
      · obtain ⟨q1, q2⟩ := g2 p hp
        rw [hasK_cons, Bool.or_eq_false_iff] at q1
        refine ⟨q1.2, ?_⟩
        rw [look_cons_ne _ _ (fun e => by rw [e] at q1; simp at q1)]; exact q2
def tidyK {α : Type} : List Nat → VE → (VE → α) → α
  | _, [], k => k []
  | seen, (j, v) :: E, k => match hasK seen j with
    | true => tidyK seen E k
    | false => tidyK (j :: seen) E fun E' => k ((j, v) :: E')
theorem tidyK_eq {α : Type} : ∀ (E : VE) (seen : List Nat) (k : VE → α), tidyK seen E k = k (tidy seen E)
  | [], seen, k => rfl
  | (j, v) :: E, seen, k => by
    simp only [tidyK, tidy]
    cases hasK seen j <;> simp only [tidyK_eq E]
def appK {α : Type} : VH → VH → (VH → α) → α
  | [], H', k => k H'
  | x :: H, H', k => appK H H' fun r => k (x :: r)
theorem appK_eq {α : Type} : ∀ (H H' : VH) (k : VH → α), appK H H' k = k (H ++ H')
  | [], H', k => rfl
  | x :: H, H', k => by simp only [appK, appK_eq H, List.cons_append]
theorem tidy_sub {ρ : Rn} {E : VE} {env : Env} (h : denEnv ρ E = some env) : ∃ env', denEnv ρ (tidy [] E) = some env' ∧ Sub env' env := by
  obtain ⟨env', g1, g2⟩ := tidy_den [] h
  exact ⟨env', g1, fun p hp => (g2 p hp).2⟩
end
end Go.SL
end
section
/- Closed calls, run by the kernel: operations that look at memory, at most. -/
set_option linter.unusedVariables false
namespace Go.SL
noncomputable section

/-! ### Operations without blocks: the model itself is run -/
def pureP (P : Program) {α : Type} : Sem α → Option α
  | .pure a => some a
  | .program k => pureP P (k P)
  | .mark _ k => pureP P k
  | .choose q k => match q.forced with
    | true => pureP P (k 0)
    | false => none
  | _ => none
theorem pureP_run {P : Program} {α : Type} : ∀ {e : Sem α} {r : α}, pureP P e = some r → ∀ w, e.run P w = .ok r w := by
  intro e
  induction e with
  | pure a => intro r h w; cases h; rfl
  | program k ih => intro r h w; exact ih P h w
  | mark m k ih => intro r h w; exact ih h w
  | choose q k ih =>
    intro r h w
    simp only [pureP] at h
    cases hq : q.forced with
    | false => rw [hq] at h; cases h
    | true =>
      rw [hq] at h
      simp only [Sem.run, hq, if_true]
      exact ih 0 h w
  | _ => intro r h; cases h

mutual
def toLit : VV → Option Value
  | .lit v => some v
  | .agg l => match toLits l with | some xs => some (.agg ⟨xs⟩) | none => none
  | .tup l => match toLits l with | some xs => some (.tuple ⟨xs⟩) | none => none
  | .ifc t v => match toLit v with | some x => some (.iface t x) | none => none
  | _ => none
def toLits : List VV → Option (List Value)
  | [] => some []
  | v :: l => match toLit v with
    | some x => match toLits l with
      | some xs => some (x :: xs)
      | none => none
    | none => none
end
mutual
theorem toLit_den {ρ : Rn} : ∀ {v : VV} {x : Value}, toLit v = some x → den ρ v = some x
  | .lit v, x, h => h
  | .agg l, x, h => by
    simp only [toLit] at h
    cases hl : toLits l with
    | none => rw [hl] at h; cases h
    | some xs => rw [hl] at h; cases h; simp only [den, toLits_den hl]
  | .tup l, x, h => by
    simp only [toLit] at h
    cases hl : toLits l with
    | none => rw [hl] at h; cases h
    | some xs => rw [hl] at h; cases h; simp only [den, toLits_den hl]
  | .ifc t v, x, h => by
    simp only [toLit] at h
    cases hl : toLit v with
    | none => rw [hl] at h; cases h
    | some xs => rw [hl] at h; cases h; simp only [den, toLit_den hl]
  | .ptr b off, x, h => by cases h
  | .slc b off len c, x, h => by cases h
  | .fn f a c, x, h => by cases h
  | .mp b, x, h => by cases h
theorem toLits_den {ρ : Rn} : ∀ {l : List VV} {xs : List Value}, toLits l = some xs → denL ρ l = some xs
  | [], xs, h => by cases h; rfl
  | v :: l, xs, h => by
    simp only [toLits] at h
    cases hv : toLit v with
    | none => rw [hv] at h; cases h
    | some x =>
      rw [hv] at h
      simp only at h
      cases hl : toLits l with
      | none => rw [hl] at h; cases h
      | some ys => rw [hl] at h; cases h; exact denL_mk (toLit_den hv) (toLits_den hl)
end
def litOf (E : VE) (x : Operand) : Option Value := match evV E x with
  | some v => toLit v
  | none => none
def litEv (E : VE) (x : Operand) : Value := match litOf E x with
  | some v => v
  | none => undef
def allLit (E : VE) : List Operand → Bool
  | [] => true
  | x :: r => match litOf E x with
    | some _ => allLit E r
    | none => false
theorem allLit_mem {E : VE} : ∀ {l : List Operand}, allLit E l = true → ∀ x ∈ l, ∃ v, litOf E x = some v
  | [], _, x, hx => by cases hx
  | y :: l, h, x, hx => by
    simp only [allLit] at h
    cases hy : litOf E y with
    | none => rw [hy] at h; cases h
    | some v =>
      rw [hy] at h
      rcases List.mem_cons.1 hx with rfl | hx
      · exact ⟨v, hy⟩
      · exact allLit_mem h x hx
theorem litEv_eval {ρ : Rn} {E : VE} {env : Env} {n : Nat} {a : Act} (h : denEnv ρ E = some env) (ha : Has n env a) {x : Operand} {v : Value} (hx : litOf E x = some v) : a.eval x = litEv E x := by
  simp only [litEv, hx]
  unfold litOf at hx
  cases hv : evV E x with
  | none => rw [hv] at hx; cases hx
  | some u =>
    rw [hv] at hx
    obtain ⟨y, g1, g2⟩ := evV_den h hv
    have := toLit_den (ρ := ρ) hx
    rw [g2] at this; cases this
    exact ha.eval g1
def evPure (P : Program) (E : VE) (o : Oper) : Option VV := match plainOp o.op with
  | true => match allLit E o.op.operands.toList with
    | true => match pureP P (execOp (litEv E) o) with
      | some (.value v) => some (.lit v)
      | _ => none
    | false => none
  | false => none
theorem evPure_ok {P : Program} {ρ : Rn} {E : VE} {env : Env} {o : Oper} {v : VV} {hs : List Heap} {n : Nat} (he : denEnv ρ E = some env) (h : evPure P E o = some v) : ∃ x, den ρ v = some x ∧ OpV P hs n o env x := by
  unfold evPure at h
  split at h
  · rename_i hp
    split at h
    · rename_i hl
      split at h
      · rename_i x hx
        cases h
        refine ⟨x, rfl, opv_run hp fun a w ha => ?_⟩
        have := pureP_run hx w
        rw [execOp_congr o (fun cs b e => by rw [e] at hp; cases hp) fun y hy => ?_]
        · exact this
        · obtain ⟨u, hu⟩ := allLit_mem hl y (by simpa using hy)
          exact litEv_eval he ha hu
      · cases h
    · cases h
  · cases h

/-! ### Types -/
theorem ty_of {P : Program} {t : TypeId} {d : TypeDesc} {i : TypeInfo} {z : Value} (h1 : P.underlying t = some d) (h2 : P.info? t = some i) (h3 : i.zero = some z) : Ty P t d z i :=
  ⟨h1, fun w => by simp [zeroValue, run_info h2, h3], h2⟩
/-- How many cells; whether one value is several. -/
def sizeV (P : Program) (t : TypeId) : Option Nat := match P.info? t with
  | some i => some i.size
  | none => none
theorem sizeV_ok {P : Program} {t : TypeId} {s : Nat} (h : sizeV P t = some s) : ∀ w, (sizeOf t).run P w = .ok s w := by
  unfold sizeV at h
  split at h
  · rename_i i hi; cases h; exact fun w => run_size hi w
  · cases h
def aggV (P : Program) (t : TypeId) : Option Bool := match P.underlying t with
  | some d => some (aggD d)
  | none => none
theorem aggV_ok {P : Program} {t : TypeId} {s : Bool} (h : aggV P t = some s) : ∀ w, (isAgg t).run P w = .ok s w := by
  unfold aggV at h
  split at h
  · rename_i i hi; cases h; exact fun w => run_agg hi w
  · cases h

/-! ### Memory looked at -/
/-- A value of a type, out of cells. -/
def aggO : Option (List VV) → Option VV
  | some r => some (.agg r)
  | none => none
def takeQ (s : Nat) : Option (List VV) → Option (List VV)
  | some m => takeF s m
  | none => none
def partA (P : Program) (t : TypeId) (l : List VV) (off : Nat) : Option VV := match sizeV P t with
  | some s => aggO (takeQ s (dropF off l))
  | none => none
def partV (P : Program) (t : TypeId) (l : List VV) (off : Nat) : Option VV := match aggV P t with
  | some true => partA P t l off
  | some false => nthF l off
  | none => none
theorem partV_eq {P : Program} {t : TypeId} {l : List VV} {off : Nat} : partV P t l off = match aggV P t with
  | some true => match sizeV P t with
    | some s => match dropO l off with
      | some m => match takeO m s with
        | some r => some (.agg r)
        | none => none
      | none => none
    | none => none
  | some false => nth l off
  | none => none := by
  unfold partV partA
  cases aggV P t with
  | none => rfl
  | some b =>
    cases b with
    | false => exact nthF_eq l off
    | true =>
      simp only []
      cases sizeV P t with
      | none => rfl
      | some s =>
        simp only [dropF_eq]
        cases dropO l off with
        | none => rfl
        | some m =>
          simp only [takeQ, takeF_eq]
          cases takeO m s <;> rfl
def loadV (P : Program) (H : VH) (t : TypeId) (b off : Nat) : Option VV := match getH H b with
  | some (.cells l _) => partV P t l off
  | _ => none
theorem pre_nth {p xs q : List Value} {k : Nat} {x : Value} (h : nth xs k = some x) : (p ++ xs ++ q)[p.length + k]? = some x := by
  rw [nth_eq] at h
  have hlt := (List.getElem?_eq_some_iff.1 h).1
  rw [List.append_assoc, List.getElem?_append_right (by omega), Nat.add_sub_cancel_left, List.getElem?_append_left hlt]; exact h
theorem loadV_ok {P : Program} {ρ : Rn} {H : VH} {own hs : List Heap} {t : TypeId} {b off : Nat} {v : VV} {i : BI} (hH : denH ρ H = some own) (hsub : ∀ h ∈ own, h ∈ hs) (h : loadV P H t b off = some v) (hi : ρ b = some i) :
    ∃ x, den ρ v = some x ∧ ∀ w X, Sat (hs ++ X) w → (loadVar t (i.at off)).run P w = .ok x w := by
  unfold loadV at h
  split at h
  · rename_i l T hg
    obtain ⟨j, ob, h1, h2, h3⟩ := getH_den hH hg
    rw [hi] at h1; cases h1
    obtain ⟨xs, hl, -, rfl⟩ := denO_cells h2
    · have hb : ∀ w X, Sat (hs ++ X) w → w.heap[i.blk]? = some (.cells ⟨i.pre ++ xs ++ i.post⟩ T (0, 0)) := fun w X s => s.at (List.mem_append.2 (.inl (hsub _ h3))) (blk_self _ _)
      rw [partV_eq] at h
      split at h
      · rename_i ha
        split at h
        · rename_i s hs'
          split at h
          · rename_i m hm
            split at h
            · rename_i r hr
              cases h
              obtain ⟨ys, g1, g2⟩ := denL_drop hl hm
              obtain ⟨zs, g3, g4⟩ := denL_take g2 hr
              refine ⟨.agg ⟨zs⟩, by simp only [den, g4], fun w X sat => ?_⟩
              obtain ⟨rfl, k1⟩ := dropO_eq g1
              obtain ⟨rfl, k2⟩ := takeO_eq g3
              have hlen : ((xs.drop off).take s).length = s := by simp at k2 ⊢; omega
              have := run_loadCells_list (P := P) w (i.at off) ((xs.drop off).take s) (fun j v hj => by
                unfold BI.at
                rw [addr_add, cell_at (hb w X sat)]
                rw [List.getElem?_take] at hj
                split at hj
                · rw [List.getElem?_drop, ← nth_eq] at hj
                  rw [Nat.add_assoc, List.getElem?_toArray]
                  exact pre_nth hj
                · cases hj)
              rw [hlen] at this
              simp [loadVar, aggV_ok ha, sizeV_ok hs', this]
            · cases h
          · cases h
        · cases h
      · rename_i ha
        obtain ⟨x, g1, g2⟩ := denL_nth hl h
        refine ⟨x, g2, fun w X sat => ?_⟩
        have : w.cell? (i.at off) = some x := by
          unfold BI.at
          rw [cell_at (hb w X sat), List.getElem?_toArray]; exact pre_nth g1
        simp [loadVar, aggV_ok ha, this]
      · cases h
  · cases h
end
end Go.SL
end
section
/- Closed calls, run by the kernel: quiet operations on values with blocks. -/
set_option linter.unusedVariables false
namespace Go.SL
noncomputable section

theorem den_ptr {ρ : Rn} {b off : Nat} {x : Value} (h : den ρ (.ptr b off) = some x) : ∃ i, ρ b = some i ∧ x = .pointer (some (i.at off)) := by
  simp only [den] at h
  split at h
  · rename_i i hi; cases h; exact ⟨i, hi, rfl⟩
  · cases h
theorem den_slc {ρ : Rn} {b off len : Nat} {c : Cap} {x : Value} (h : den ρ (.slc b off len c) = some x) : ∃ i, ρ b = some i ∧ i.ok c = true ∧ x = .slice (some (i.at off)) len (i.cp c) := by
  simp only [den] at h
  split at h
  · rename_i i hi
    split at h
    · rename_i hc; cases h; exact ⟨i, hi, hc, rfl⟩
    · cases h
  · cases h
theorem den_ptr_mk {ρ : Rn} {b off : Nat} {i : BI} (h : ρ b = some i) : den ρ (.ptr b off) = some (.pointer (some (i.at off))) := by simp only [den, h]
theorem den_slc_mk {ρ : Rn} {b off len : Nat} {c : Cap} {i : BI} (h : ρ b = some i) (hc : i.ok c = true) : den ρ (.slc b off len c) = some (.slice (some (i.at off)) len (i.cp c)) := by simp only [den, h, hc]
theorem den_tl {ρ : Rn} {b off d m sz : Nat} {x : Value} (h : den ρ (.tl b off d m sz) = some x) : ∃ i, ρ b = some i ∧ i.sz = sz ∧ x = .slice (some (i.at (tlOff (i.cap - m) off d))) 0 (i.cap - m) := by
  simp only [den] at h
  split at h
  · rename_i i hi
    split at h
    · rename_i hc; cases h; exact ⟨i, hi, Nat.eq_of_beq_eq_true hc, rfl⟩
    · cases h
  · cases h
theorem den_tl_mk {ρ : Rn} {b off d m : Nat} {i : BI} (h : ρ b = some i) : den ρ (.tl b off d m i.sz) = some (.slice (some (i.at (tlOff (i.cap - m) off d))) 0 (i.cap - m)) := by simp only [den, h, Nat.beq_refl]
theorem den_yl {ρ : Rn} {b : Nat} {x : Value} (h : den ρ (.yl b) = some x) : ∃ i, ρ b = some i ∧ x = .func (.yield i.blk) #[] #[] := by
  simp only [den] at h
  split at h
  · rename_i i hi; cases h; exact ⟨i, hi, rfl⟩
  · cases h
theorem den_tup {ρ : Rn} {l : List VV} {x : Value} (h : den ρ (.tup l) = some x) : ∃ xs, denL ρ l = some xs ∧ x = .tuple ⟨xs⟩ := by
  simp only [den] at h
  split at h
  · rename_i xs hl; cases h; exact ⟨xs, hl, rfl⟩
  · cases h
theorem den_agg {ρ : Rn} {l : List VV} {x : Value} (h : den ρ (.agg l) = some x) : ∃ xs, denL ρ l = some xs ∧ x = .agg ⟨xs⟩ := by
  simp only [den] at h
  split at h
  · rename_i xs hl; cases h; exact ⟨xs, hl, rfl⟩
  · cases h
theorem den_fn {ρ : Rn} {f : Fn} {a c : List VV} {x : Value} (h : den ρ (.fn f a c) = some x) : ∃ xs ys, denL ρ a = some xs ∧ denL ρ c = some ys ∧ x = .func f ⟨xs⟩ ⟨ys⟩ := by
  simp only [den] at h
  split at h
  · rename_i xs ys h1 h2; cases h; exact ⟨xs, ys, h1, h2, rfl⟩
  · cases h
theorem den_ifc {ρ : Rn} {t : TypeId} {v : VV} {x : Value} (h : den ρ (.ifc t v) = some x) : ∃ y, den ρ v = some y ∧ x = .iface t y := by
  simp only [den] at h
  split at h
  · rename_i y hy; cases h; exact ⟨y, hy, rfl⟩
  · cases h
theorem den_mp {ρ : Rn} {b : Nat} {x : Value} (h : den ρ (.mp b) = some x) : ∃ i, ρ b = some i ∧ x = .map (some i.blk) := by
  simp only [den] at h
  split at h
  · rename_i i hi; cases h; exact ⟨i, hi, rfl⟩
  · cases h
theorem at_add (i : BI) (off k : Nat) : (i.at off).add k = i.at (off + k) := by
  unfold BI.at; rw [addr_add, Nat.add_assoc]
theorem at_spot (i : BI) (off : Nat) : (i.at off).spot = none := rfl

section
variable {P : Program} {ρ : Rn} {E : VE} {env : Env} {H : VH} {own hs : List Heap} {n : Nat} {o : Oper}

/-! fields, elements -/
def fieldOff (P : Program) (t : TypeId) (k : Nat) : Option Nat := match P.underlying t with
  | some (.struct fs) => match fs[k]? with
    | some f => match P.info? f.type with
      | some i => match Nat.blt 0 i.size with
        | true => some f.offset
        | false => none
      | none => none
    | none => none
  | _ => none
theorem fieldOff_ok {t : TypeId} {k off : Nat} (h : fieldOff P t k = some off) : TyF P t k off := by
  unfold fieldOff at h
  split at h
  · rename_i fs h1
    split at h
    · rename_i f h2
      split at h
      · rename_i i h3
        split at h
        · rename_i h4; cases h; exact tyF_mk h1 h2 h3 h4 rfl
        · cases h
      · cases h
    · cases h
  · cases h
def fieldAddrV (P : Program) (t : TypeId) (k : Nat) : VV → Option VV
  | .ptr b off => match fieldOff P t k with
    | some fo => some (.ptr b (off + fo))
    | none => none
  | _ => none
theorem fieldAddrV_ok {t : TypeId} {k : Nat} {x : Operand} {u v : VV} {y : Value} (ho : o.op = .fieldAddr t x k) (hx : ev env x = some y) (hy : den ρ u = some y) (h : fieldAddrV P t k u = some v) : ∃ z, den ρ v = some z ∧ OpV P hs n o env z := by
  cases u with
  | ptr b off =>
    simp only [fieldAddrV] at h
    split at h
    · rename_i fo hf
      cases h
      obtain ⟨i, hi, rfl⟩ := den_ptr hy
      haveI := fieldOff_ok hf
      refine ⟨_, den_ptr_mk hi, ?_⟩
      have := opv_fieldAddr (P := P) (own := hs) (n := n) ho hx
      rw [Nat.add_assoc] at this; exact this
    · cases h
  | _ => cases h
def indexAddrV (P : Program) (t : TypeId) : VV → VV → Option VV
  | .slc b off len _, .lit (.int k j) => match P.underlying t with
    | some (.slice e) => match sizeV P e with
      | some sz => match Nat.ble 1 (len - j.toNat), decide (0 ≤ j) with
        | true, true => some (.ptr b (off + j.toNat * sz))
        | _, _ => none
      | none => none
    | _ => none
  | .ptr b off, .lit (.int k j) => match P.underlying t with
    | some (.array len e) => match sizeV P e with
      | some sz => match Nat.ble 1 (len - j.toNat), decide (0 ≤ j) with
        | true, true => some (.ptr b (off + j.toNat * sz))
        | _, _ => none
      | none => none
    | _ => none
  | _, _ => none
theorem lt_of_ble {len : Nat} {j : Int} (h : Nat.ble 1 (len - j.toNat) = true) (h0 : decide (0 ≤ j) = true) : 0 ≤ j ∧ j < len := by
  have h1 := Nat.le_of_ble_eq_true h
  have h2 := of_decide_eq_true h0
  omega
theorem indexAddrV_ok {t : TypeId} {x ix : Operand} {u w v : VV} {y z : Value} (ho : o.op = .indexAddr t x ix) (hx : ev env x = some y) (hy : den ρ u = some y) (hix : ev env ix = some z) (hz : den ρ w = some z) (h : indexAddrV P t u w = some v) : ∃ r, den ρ v = some r ∧ OpV P hs n o env r := by
  unfold indexAddrV at h
  split at h
  · rename_i b off len c k j
    cases hz
    split at h
    · rename_i e he
      split at h
      · rename_i sz hsz
        split at h
        · rename_i h1 h2
          cases h
          obtain ⟨g1, g2⟩ := lt_of_ble h1 h2
          obtain ⟨i, hi, -, rfl⟩ := den_slc hy
          refine ⟨_, den_ptr_mk hi, opv_run (by rw [ho]; rfl) fun a w ha => ?_⟩
          simp [execOp, ho, ha.eval hx, ha.eval hix, Instr.indexAt, asIntOf, run_und he, g1, g2, sizeV_ok hsz, at_add]
        · cases h
      · cases h
    · cases h
  · rename_i b off k j
    cases hz
    split at h
    · rename_i len e he
      split at h
      · rename_i sz hsz
        split at h
        · rename_i h1 h2
          cases h
          obtain ⟨g1, g2⟩ := lt_of_ble h1 h2
          obtain ⟨i, hi, rfl⟩ := den_ptr hy
          refine ⟨_, den_ptr_mk hi, opv_run (by rw [ho]; rfl) fun a w ha => ?_⟩
          simp [execOp, ho, ha.eval hx, ha.eval hix, Instr.indexAt, asIntOf, run_und he, g1, g2, sizeV_ok hsz, at_add, Instr.sureAddr]
        · cases h
      · cases h
    · cases h
  · cases h

/-! parts of aggregates -/
theorem partV_run {t : TypeId} {l : List VV} {xs : List Value} {off : Nat} {v : VV} (hl : denL ρ l = some xs) (h : partV P t l off = some v) : ∃ x, den ρ v = some x ∧ ∀ w, (part t ⟨xs⟩ off).run P w = .ok x w := by
  rw [partV_eq] at h
  split at h
  · rename_i ha
    split at h
    · rename_i s hs'
      split at h
      · rename_i m hm
        split at h
        · rename_i r hr
          cases h
          obtain ⟨ys, g1, g2⟩ := denL_drop hl hm
          obtain ⟨zs, g3, g4⟩ := denL_take g2 hr
          obtain ⟨rfl, k1⟩ := dropO_eq g1
          obtain ⟨rfl, k2⟩ := takeO_eq g3
          refine ⟨.agg ⟨(xs.drop off).take s⟩, by simp only [den, g4], fun w => ?_⟩
          have : (⟨xs⟩ : Array Value).extract off (off + s) = ⟨(xs.drop off).take s⟩ := by
            apply Array.ext'
            simp [List.extract_eq_take_drop]
          simp [part, aggV_ok ha, sizeV_ok hs', this]
        · cases h
      · cases h
    · cases h
  · rename_i ha
    obtain ⟨x, g1, g2⟩ := denL_nth hl h
    refine ⟨x, g2, fun w => ?_⟩
    rw [nth_eq] at g1
    have : (⟨xs⟩ : Array Value)[off]? = some x := by simpa using g1
    simp [part, aggV_ok ha, this]
  · cases h
def indexV (P : Program) (t : TypeId) (u : VV) : VV → Option VV
  | .lit (.int k j) => match u with
    | .agg l => match P.underlying t with
      | some (.array len e) => match sizeV P e with
        | some sz => match Nat.ble 1 (len - j.toNat), decide (0 ≤ j) with
          | true, true => partV P e l (j.toNat * sz)
          | _, _ => none
        | none => none
      | _ => none
    | _ => none
  | _ => none
theorem indexV_ok {t : TypeId} {x ix : Operand} {u w v : VV} {y z : Value} (ho : o.op = .index t x ix) (hx : ev env x = some y) (hy : den ρ u = some y) (hix : ev env ix = some z) (hz : den ρ w = some z) (h : indexV P t u w = some v) : ∃ r, den ρ v = some r ∧ OpV P hs n o env r := by
  unfold indexV at h
  split at h
  · rename_i k j
    cases hz
    split at h
    · rename_i l
      split at h
      · rename_i len e he
        split at h
        · rename_i sz hsz
          split at h
          · rename_i h1 h2
            obtain ⟨g1, g2⟩ := lt_of_ble h1 h2
            obtain ⟨xs, hl, rfl⟩ := den_agg hy
            obtain ⟨r, q1, q2⟩ := partV_run hl h
            refine ⟨r, q1, opv_run (by rw [ho]; rfl) fun a w ha => ?_⟩
            simp [execOp, ho, ha.eval hx, ha.eval hix, Instr.index, asIntOf, run_und he, g1, g2, sizeV_ok hsz, q2]
          · cases h
        · cases h
      · cases h
    · cases h
  · cases h
def fieldV (P : Program) (t : TypeId) (k : Nat) : VV → Option VV
  | .agg l => match P.underlying t with
    | some (.struct fs) => match fs[k]? with
      | some f => partV P f.type l f.offset
      | none => none
    | _ => none
  | _ => none
theorem fieldV_ok {t : TypeId} {k : Nat} {x : Operand} {u v : VV} {y : Value} (ho : o.op = .field t x k) (hx : ev env x = some y) (hy : den ρ u = some y) (h : fieldV P t k u = some v) : ∃ r, den ρ v = some r ∧ OpV P hs n o env r := by
  unfold fieldV at h
  split at h
  · split at h
    · rename_i l fs he
      split at h
      · rename_i f hf
        obtain ⟨xs, hl, rfl⟩ := den_agg hy
        obtain ⟨r, q1, q2⟩ := partV_run hl h
        refine ⟨r, q1, opv_run (by rw [ho]; rfl) fun a w ha => ?_⟩
        simp [execOp, ho, ha.eval hx, Instr.field, run_und he, hf, asAgg, q2]
      · cases h
    · cases h
  · cases h
end
end
end Go.SL
end
section
/- Closed calls, run by the kernel: slices, maps looked at, values put together. -/
set_option linter.unusedVariables false
set_option linter.unusedSimpArgs false
namespace Go.SL
noncomputable section

section
variable {P : Program} {ρ : Rn} {E : VE} {env : Env} {H : VH} {own hs : List Heap} {n : Nat} {o : Oper}

/-! ### Slices of slices -/
def intOf (E : VE) (x : Operand) : Option Int := match evV E x with
  | some (.lit (.int _ j)) => some j
  | _ => none
theorem intOf_ok {x : Operand} {j : Int} (he : denEnv ρ E = some env) (h : intOf E x = some j) : ∃ k, ev env x = some (.int k j) := by
  unfold intOf at h
  split at h
  · rename_i k j' hv
    cases h
    obtain ⟨y, g1, g2⟩ := evV_den he hv
    cases g2; exact ⟨k, g1⟩
  · cases h
def bndV (E : VE) (x : Operand) (y : Nat) : Option Nat := match intOf E x with
  | some j => match decide (0 ≤ j), Nat.ble j.toNat y with
    | true, true => some j.toNat
    | _, _ => none
  | none => none
theorem bndV_ok {x : Operand} {y l : Nat} (he : denEnv ρ E = some env) (h : bndV E x y = some l) : l ≤ y ∧ ∃ k j, ev env x = some (.int k j) ∧ 0 ≤ j ∧ j.toNat = l := by
  unfold bndV at h
  split at h
  · rename_i j hj
    split at h
    · rename_i h1 h2
      cases h
      obtain ⟨k, hk⟩ := intOf_ok he hj
      exact ⟨Nat.le_of_ble_eq_true h2, k, j, hk, of_decide_eq_true h1, rfl⟩
    · cases h
  · cases h
/-- The bounds of a slice: from, to, and the greatest place, where it is known. -/
def sbV (E : VE) (len lb : Nat) (lo hi mx : Option Operand) : Option (Nat × Nat × Option Nat) :=
  match mx with
  | some z => match bndV E z lb, hi with
    | some m, some y => match bndV E y m with
      | some h => match lo with
        | some x => match bndV E x h with
          | some l => some (l, h, some m)
          | none => none
        | none => some (0, h, some m)
      | none => none
    | _, _ => none
  | none => match (match hi with | some y => bndV E y lb | none => some len) with
    | some h => match lo with
      | some x => match bndV E x h with
        | some l => some (l, h, none)
        | none => none
      | none => some (0, h, none)
    | none => none
theorem run_bnd {x : Operand} {y y' l : Nat} (he : denEnv ρ E = some env) (h : bndV E x y = some l) (hy : y ≤ y') {code : BoundsCode} {a : Act} (ha : Has n env a) (w : World) : (Instr.sliceBound (a.eval x) y' code).run P w = .ok l w := by
  obtain ⟨g1, k, j, g2, g3, rfl⟩ := bndV_ok he h
  rw [ha.eval g2]
  exact run_bound g3 (by omega) w
theorem sbV_ok {len cap lb l h : Nat} {lo hi mx : Option Operand} {m : Option Nat} (he : denEnv ρ E = some env) (hlb : lb ≤ cap) (hs : sbV E len lb lo hi mx = some (l, h, m)) :
    ∀ (b : Bool) (a : Act) (w : World), Has n env a → (Instr.sliceBounds b len cap (lo.map a.eval) (hi.map a.eval) (mx.map a.eval)).run P w = .ok (l, h, m.getD cap) w := by
  unfold sbV at hs
  split at hs
  · rename_i z
    split at hs
    · rename_i m' y hm
      split at hs
      · rename_i h' hh
        have b1 := (bndV_ok he hm).1
        have b2 := (bndV_ok he hh).1
        split at hs
        · rename_i x
          split at hs
          · rename_i l' hl
            cases hs
            have b3 := (bndV_ok he hl).1
            intro b a w ha
            simp [Instr.sliceBounds, run_bnd he hm hlb ha, run_bnd he hh (Nat.le_refl _) ha, run_bnd he hl (Nat.le_refl _) ha]
          · cases hs
        · cases hs
          intro b a w ha
          simp [Instr.sliceBounds, run_bnd he hm hlb ha, run_bnd he hh (Nat.le_refl _) ha]
      · cases hs
    · cases hs
  · split at hs
    · rename_i h' hh
      split at hs
      · rename_i x
        split at hs
        · rename_i l' hl
          cases hs
          intro b a w ha
          cases hi with
          | none => simp only at hh; cases hh; simp [Instr.sliceBounds, run_bnd he hl (Nat.le_refl _) ha]
          | some y => simp [Instr.sliceBounds, run_bnd he hh hlb ha, run_bnd he hl (Nat.le_refl _) ha]
        · cases hs
      · cases hs
        intro b a w ha
        cases hi with
        | none => simp only at hh; cases hh; simp [Instr.sliceBounds]
        | some y => simp [Instr.sliceBounds, run_bnd he hh hlb ha]
    · cases hs
/-- What is left to grow. -/
def capSub : Cap → Nat → Cap
  | .k n, l => .k (n - l)
  | .o m lb sz, l => .o (m + l) (lb - l) sz
theorem capSub_cp {i : BI} {c : Cap} {l : Nat} : i.cp (capSub c l) = i.cp c - l := by
  cases c with
  | k n => rfl
  | o m lb sz => simp only [capSub, BI.cp]; omega
theorem capSub_ok {i : BI} {c : Cap} {l : Nat} (h : i.ok c = true) : i.ok (capSub c l) = true := by
  cases c with
  | k n => rfl
  | o m lb sz =>
    simp only [BI.ok, capSub, Bool.and_eq_true] at h ⊢
    have := Nat.le_of_ble_eq_true h.1
    exact ⟨Nat.ble_eq_true_of_le (by omega), h.2⟩
/-- Is the greatest place another one than where it begins? ('none': not known) -/
def farV (c : Cap) (m : Option Nat) (l : Nat) : Option Bool := match m with
  | some m' => some (!Nat.beq m' l)
  | none => match c with
    | .k n => some (!Nat.beq n l)
    | .o _ lb _ => match Nat.ble (l + 1) lb with
      | true => some true
      | false => none
theorem farV_ok {i : BI} {c : Cap} {m : Option Nat} {l : Nat} {b : Bool} (hc : i.ok c = true) (h : farV c m l = some b) : b = true ↔ m.getD (i.cp c) ≠ l := by
  unfold farV at h
  split at h
  · cases h; simp [Nat.beq_eq_true_eq, ← Bool.not_eq_true]
  · split at h
    · cases h; simp [BI.cp, Nat.beq_eq_true_eq, ← Bool.not_eq_true]
    · split at h
      · rename_i m' lb sz hb
        cases h
        have h1 := Nat.le_of_ble_eq_true hb
        have h2 := BI.lb_le hc
        simp only [Cap.lb] at h2
        simp only [Option.getD_none, true_iff]
        omega
      · cases h
def farTo (c : Cap) (m : Option Nat) (l : Nat) : Option Bool := match Nat.beq l 0 with
  | true => some true
  | false => farV c m l
def offTo : Bool → Nat → Nat → Nat
  | true, off, d => off + d
  | false, off, _ => off
def capTo : Option Nat → Cap → Nat → Cap
  | some m, _, l => .k (m - l)
  | none, c, l => capSub c l
theorem capTo_ok {i : BI} {m : Option Nat} {c : Cap} {l : Nat} (h : i.ok c = true) : i.ok (capTo m c l) = true := by
  cases m with
  | none => exact capSub_ok h
  | some m' => rfl
theorem capTo_cp {i : BI} {m : Option Nat} {c : Cap} {l : Nat} : i.cp (capTo m c l) = m.getD (i.cp c) - l := by
  cases m with
  | none => exact capSub_cp
  | some m' => rfl
/-- An empty slice at the end: it may be that it has not moved. -/
def sliceT (b off l sz h : Nat) (m : Option Nat) : Cap → Option VV
  | .o mm lb s => match m, Nat.beq (h - l) 0, Nat.ble l lb with
    | none, true, true => some (.tl b (off + l * sz) (l * sz) (mm + l) s)
    | _, _, _ => none
  | .k _ => none
theorem sliceT_ok {b off l sz h : Nat} {m : Option Nat} {c : Cap} {v : VV} {i : BI} (hi : ρ b = some i) (hc : i.ok c = true) (hs : sliceT b off l sz h m c = some v) :
    m = none ∧ h - l = 0 ∧ (i.cp c = l → den ρ v = some (.slice (some (i.at off)) 0 (i.cp c - l))) ∧ (¬ i.cp c = l → den ρ v = some (.slice (some ((i.at off).add (l * sz))) 0 (i.cp c - l))) := by
  cases c with
  | k n => cases hs
  | o mm lb s =>
    simp only [sliceT] at hs
    split at hs
    · rename_i h1 h2
      cases hs
      have hl := BI.lb_le hc
      simp only [BI.ok, Bool.and_eq_true] at hc
      have hsz := Nat.eq_of_beq_eq_true hc.2
      have hle := Nat.le_of_ble_eq_true h2
      simp only [Cap.lb, BI.cp] at hl
      subst hsz
      have e : i.cap - (mm + l) = i.cap - mm - l := by omega
      refine ⟨rfl, Nat.eq_of_beq_eq_true h1, fun hq => ?_, fun hq => ?_⟩
      · rw [den_tl_mk hi]
        simp only [BI.cp] at hq ⊢
        have e0 : i.cap - mm - l = 0 := by omega
        rw [e, e0]
        simp [tlOff]
      · rw [den_tl_mk hi]
        simp only [BI.cp] at hq ⊢
        obtain ⟨k, hk⟩ : ∃ k, i.cap - mm - l = k + 1 := ⟨i.cap - mm - l - 1, by omega⟩
        rw [e, hk]
        simp only [tlOff, at_add]
    · cases hs
def sliceV (P : Program) (E : VE) (t : TypeId) (lo hi mx : Option Operand) : VV → Option VV
  | .slc b off len c => match P.underlying t with
    | some (.slice e) => match sizeV P e with
      | some sz => match sbV E len c.lb lo hi mx with
        | some (l, h, m) => match farTo c m l with
          | some far => some (.slc b (offTo far off (l * sz)) (h - l) (capTo m c l))
          | none => sliceT b off l sz h m c
        | none => none
      | none => none
    | _ => none
  | .ptr b off => match P.underlying t with
    | some (.array k e) => match sizeV P e with
      | some sz => match sbV E k k lo hi mx with
        | some (l, h, m) => match farTo (.k k) m l with
          | some far => some (.slc b (offTo far off (l * sz)) (h - l) (capTo m (.k k) l))
          | none => none
        | none => none
      | none => none
    | _ => none
  | _ => none
theorem far_addr {i : BI} {off l sz : Nat} {c : Cap} {m : Option Nat} {far : Bool} (hc : i.ok c = true) (h : farTo c m l = some far) :
    (if m.getD (i.cp c) = l then i.at off else (i.at off).add (l * sz)) = i.at (offTo far off (l * sz)) := by
  unfold farTo at h
  split at h
  · rename_i hb
    cases h
    have := Nat.eq_of_beq_eq_true hb; subst this
    rw [Nat.zero_mul, at_add]; split <;> rfl
  · have hf := farV_ok hc h
    cases far with
    | true => rw [if_neg (hf.1 rfl), at_add]; rfl
    | false =>
      have : m.getD (i.cp c) = l := Decidable.byContradiction fun hne => by have := hf.2 hne; cases this
      rw [if_pos this]; rfl
theorem sliceV_ok {t : TypeId} {x : Operand} {lo hi mx : Option Operand} {u v : VV} {y : Value} (he : denEnv ρ E = some env) (ho : o.op = .slice t x lo hi mx) (hx : ev env x = some y) (hy : den ρ u = some y) (h : sliceV P E t lo hi mx u = some v) : ∃ r, den ρ v = some r ∧ OpV P hs n o env r := by
  cases u with
  | slc b off len c =>
    simp only [sliceV] at h
    split at h
    · rename_i e hu
      split at h
      · rename_i sz hsz
        split at h
        · rename_i l hh m hb
          split at h
          · rename_i far hf
            cases h
            obtain ⟨i, hi', hc, rfl⟩ := den_slc hy
            have b4 := sbV_ok (P := P) (n := n) he (BI.lb_le hc) hb
            have ha := far_addr (off := off) (sz := sz) hc hf
            refine ⟨_, den_slc_mk hi' (capTo_ok hc), opv_run (by rw [ho]; rfl) fun a w hA => ?_⟩
            rw [capTo_cp, ← ha]
            simp only [execOp, ho, hA.eval hx]
            by_cases hm : m.getD (i.cp c) = l
            · simp [Instr.sliceAt, Instr.slice, run_und hu, b4 true a w hA, sizeV_ok hsz, hm]
            · simp [Instr.sliceAt, Instr.slice, run_und hu, b4 true a w hA, sizeV_ok hsz, hm]
          · obtain ⟨i, hi', hc, rfl⟩ := den_slc hy
            have b4 := sbV_ok (P := P) (n := n) he (BI.lb_le hc) hb
            obtain ⟨rfl, h0, hv1, hv2⟩ := sliceT_ok hi' hc h
            simp only [Option.getD_none] at b4
            by_cases hm : i.cp c = l
            · refine ⟨_, hv1 hm, opv_run (by rw [ho]; rfl) fun a w hA => ?_⟩
              simp only [execOp, ho, hA.eval hx]
              have b5 := b4 true a w hA
              rw [hm] at b5 ⊢
              simp [Instr.sliceAt, Instr.slice, run_und hu, b5, sizeV_ok hsz, h0]
            · refine ⟨_, hv2 hm, opv_run (by rw [ho]; rfl) fun a w hA => ?_⟩
              simp only [execOp, ho, hA.eval hx]
              simp [Instr.sliceAt, Instr.slice, run_und hu, b4 true a w hA, sizeV_ok hsz, hm, h0]
        · cases h
      · cases h
    · cases h
  | ptr b off =>
    simp only [sliceV] at h
    split at h
    · rename_i k e hu
      split at h
      · rename_i sz hsz
        split at h
        · rename_i l hh m hb
          split at h
          · rename_i far hf
            cases h
            obtain ⟨i, hi', rfl⟩ := den_ptr hy
            have b4 := sbV_ok (P := P) (n := n) he (Nat.le_refl k) hb
            have ha := far_addr (i := i) (c := .k k) (off := off) (sz := sz) rfl hf
            refine ⟨_, den_slc_mk hi' (capTo_ok (c := .k k) rfl), opv_run (by rw [ho]; rfl) fun a w hA => ?_⟩
            rw [capTo_cp, ← ha]
            simp only [execOp, ho, hA.eval hx]
            by_cases hm : m.getD (i.cp (.k k)) = l
            · have hm' : m.getD k = l := hm
              simp [Instr.sliceAt, run_und hu, b4 false a w hA, sizeV_ok hsz, hm', Instr.sureAddr, BI.cp]
            · have hm' : ¬ m.getD k = l := hm
              simp [Instr.sliceAt, run_und hu, b4 false a w hA, sizeV_ok hsz, hm', Instr.sureAddr, BI.cp]
          · cases h
        · cases h
      · cases h
    · cases h
  | _ => cases h

/-! ### Lengths -/
def lenV (P : Program) (H : VH) (t : TypeId) : VV → Option VV
  | .slc _ _ len _ => match P.underlying t with
    | some (.slice _) => some (.lit (.int .i64 len))
    | _ => none
  | .tl _ _ _ _ _ => match P.underlying t with
    | some (.slice _) => some (.lit (.int .i64 0))
    | _ => none
  | .mp b => match P.underlying t, getH H b with
    | some (.map _ _), some (.map es _) => some (.lit (.int .i64 es.length))
    | some (.map _ _), some (.tab es) => some (.lit (.int .i64 es.length))
    | _, _ => none
  | _ => none
theorem denE_length : ∀ {es : List ME} {r : List MapEntry}, denE ρ es = some r → r.length = es.length
  | [], r, h => by cases h; rfl
  | e :: es, r, h => by
    simp only [denE] at h
    split at h
    · rename_i x r' h1 h2; cases h; simp [denE_length h2]
    · cases h
theorem map_at {b : Nat} {es : List ME} {c : Nat} (hH : denH ρ H = some own) (hsub : ∀ h ∈ own, h ∈ hs) (hg : getH H b = some (.map es c)) : ∃ i r, ρ b = some i ∧ denE ρ es = some r ∧ ∀ w X, Sat (hs ++ X) w → w.heap[i.blk]? = some (.map ⟨r⟩ c) := by
  obtain ⟨i, ob, h1, h2, h3⟩ := getH_den hH hg
  simp only [denO] at h2
  split at h2
  · rename_i r hr; cases h2
    exact ⟨i, r, h1, hr, fun w X s => s.at (List.mem_append.2 (.inl (hsub _ h3))) (blk_self _ _)⟩
  · cases h2
theorem denT_length : ∀ {es : List (Value × VV)} {r : List (Value × Value)}, denT ρ es = some r → r.length = es.length
  | [], r, h => by cases h; rfl
  | e :: es, r, h => by
    simp only [denT] at h
    split at h
    · rename_i x r' h1 h2; cases h; simp [denT_length h2]
    · cases h
theorem tab_at {b : Nat} {es : List (Value × VV)} (hH : denH ρ H = some own) (hsub : ∀ h ∈ own, h ∈ hs) (hg : getH H b = some (.tab es)) : ∃ i r, ρ b = some i ∧ denT ρ es = some r ∧ (i.ents.map fun e => (e.key, e.val)).Perm r ∧ ∀ w X, Sat (hs ++ X) w → w.heap[i.blk]? = some (.map ⟨i.ents⟩ i.clk) := by
  obtain ⟨i, ob, h1, h2, h3⟩ := getH_den hH hg
  obtain ⟨r, g1, g2, rfl⟩ := denO_tab h2
  exact ⟨i, r, h1, g1, g2, fun w X s => s.at (List.mem_append.2 (.inl (hsub _ h3))) (blk_self _ _)⟩
theorem lenV_ok {t : TypeId} {c : Call} {x : Operand} {u v : VV} {y : Value} (hH : denH ρ H = some own) (hsub : ∀ h ∈ own, h ∈ hs) (ho : o.op = .call c) (hc : c.callee = .builtin .len) (hax : c.args = #[x]) (hat : c.argTypes = #[t])
    (hx : ev env x = some y) (hy : den ρ u = some y) (h : lenV P H t u = some v) : ∃ r, den ρ v = some r ∧ OpV P hs n o env r := by
  cases u with
  | slc b off len cp =>
    simp only [lenV] at h
    split at h
    · rename_i e hu
      cases h
      obtain ⟨i, hi, hk, rfl⟩ := den_slc hy
      refine ⟨_, rfl, opv_run (by rw [ho]; rfl) fun a w ha => ?_⟩
      simp [execOp, ho, resolve, hc, hax, hat, invoke, builtin, Builtin.len_, ha.eval hx, run_und hu, goInt]
    · cases h
  | tl b off d m sz =>
    simp only [lenV] at h
    split at h
    · rename_i e hu
      cases h
      obtain ⟨i, hi, hk, rfl⟩ := den_tl hy
      refine ⟨_, rfl, opv_run (by rw [ho]; rfl) fun a w ha => ?_⟩
      simp [execOp, ho, resolve, hc, hax, hat, invoke, builtin, Builtin.len_, ha.eval hx, run_und hu, goInt]
    · cases h
  | mp b =>
    simp only [lenV] at h
    split at h
    · rename_i e1 e2 es ck hu hg
      cases h
      obtain ⟨i, r, h1, h2, h3⟩ := map_at hH hsub hg
      obtain ⟨j, hj, rfl⟩ := den_mp hy
      rw [h1] at hj; cases hj
      refine ⟨_, rfl, by rw [ho]; rfl, fun a w X ha s => ⟨w, s, .inl ?_⟩⟩
      have hr := denE_length h2
      simp [execOp, ho, resolve, hc, hax, hat, invoke, builtin, Builtin.len_, ha.eval hx, run_und hu, goInt, getObj, Sem.run, h3 w X s, hr]
    · rename_i e1 e2 es hu hg
      cases h
      obtain ⟨i, r, h1, h2, hp, h3⟩ := tab_at hH hsub hg
      obtain ⟨j, hj, rfl⟩ := den_mp hy
      rw [h1] at hj; cases hj
      refine ⟨_, rfl, by rw [ho]; rfl, fun a w X ha s => ⟨w, s, .inl ?_⟩⟩
      have hr : i.ents.length = es.length := by rw [← denT_length h2, ← hp.length_eq, List.length_map]
      simp [execOp, ho, resolve, hc, hax, hat, invoke, builtin, Builtin.len_, ha.eval hx, run_und hu, goInt, getObj, Sem.run, h3 w X s, hr]
    · cases h
  | _ => cases h
end
end
end Go.SL
end
section
/- Closed calls, run by the kernel: aggregates put together, maps asked; all quiet operations. -/
set_option linter.unusedVariables false
set_option linter.unusedSimpArgs false
namespace Go.SL
noncomputable section

section
variable {P : Program} {ρ : Rn} {E : VE} {env : Env} {H : VH} {own hs : List Heap} {n : Nat} {o : Oper}

/-! ### Aggregates -/
def evpsV (E : VE) : List (Nat × Operand) → Option (List (Nat × VV))
  | [] => some []
  | (i, x) :: r => match evV E x with
    | some v => match evpsV E r with
      | some vs => some ((i, v) :: vs)
      | none => none
    | none => none
def buildVO (place : Nat → Option (Nat × Nat)) : List VV → List (Nat × VV) → Option (List VV)
  | cs, [] => some cs
  | cs, (i, v) :: r => match place i with
    | some (off, sz) => match Nat.beq (cellsV v).length sz, spliceO cs off (cellsV v) with
      | true, some cs' => buildVO place cs' r
      | _, _ => none
    | none => none
theorem build_den {place : Nat → Option (Nat × Nat)} (he : denEnv ρ E = some env) : ∀ {l : List (Nat × Operand)} {qs : List (Nat × VV)} {cs r : List VV} {xs : List Value}, evpsV E l = some qs → denL ρ cs = some xs → buildVO place cs qs = some r →
    ∃ ps ys, evps env l = some ps ∧ buildO place xs ps = some ys ∧ denL ρ r = some ys
  | [], qs, cs, r, xs, hq, hc, hb => by cases hq; cases hb; exact ⟨[], xs, rfl, rfl, hc⟩
  | (i, x) :: l, qs, cs, r, xs, hq, hc, hb => by
    simp only [evpsV] at hq
    cases hv : evV E x with
    | none => rw [hv] at hq; cases hq
    | some v =>
      rw [hv] at hq
      simp only at hq
      cases hl : evpsV E l with
      | none => rw [hl] at hq; cases hq
      | some us =>
        rw [hl] at hq; cases hq
        simp only [buildVO] at hb
        cases hp : place i with
        | none => rw [hp] at hb; cases hb
        | some q =>
          obtain ⟨off, sz⟩ := q
          rw [hp] at hb
          simp only at hb
          cases hz : Nat.beq (cellsV v).length sz with
          | false => rw [hz] at hb; cases hb
          | true =>
            cases hs : spliceO cs off (cellsV v) with
            | none => rw [hz, hs] at hb; cases hb
            | some cs' =>
              rw [hz, hs] at hb
              simp only at hb
              obtain ⟨y, g1, g2⟩ := evV_den he hv
              obtain ⟨zs, g3, g4⟩ := cellsV_den g2
              obtain ⟨ws, g5, g6⟩ := denL_splice hc g4 hs
              obtain ⟨ps, ys, q1, q2, q3⟩ := build_den he hl g6 hb
              refine ⟨(i, y) :: ps, ys, by simp only [evps, g1, q1], ?_, q3⟩
              have : Nat.beq zs.length sz = true := by rw [denL_length g4]; exact hz
              simp only [buildO, hp, g3, this, g5, q2]
/-- The places of a struct's fields. -/
def placesV (P : Program) : List Field → Option (List (Nat × Nat))
  | [] => some []
  | f :: r => match P.info? f.type, placesV P r with
    | some i, some l => some ((f.offset, i.size) :: l)
    | _, _ => none
theorem placesV_ok : ∀ {l : List Field} {pl : List (Nat × Nat)}, placesV P l = some pl → (l.map fun f => (P.info? f.type).map fun i => (f.offset, i.size)) = pl.map some
  | [], pl, h => by cases h; rfl
  | f :: l, pl, h => by
    simp only [placesV] at h
    split at h
    · rename_i i r h1 h2
      cases h
      simp [h1, placesV_ok h2]
    · cases h
def zeroV (P : Program) (t : TypeId) : Option Value := match P.info? t with
  | some i => i.zero
  | none => none
theorem zeroV_run {t : TypeId} {z : Value} (h : zeroV P t = some z) : ∀ w, (zeroValue t).run P w = .ok z w := by
  unfold zeroV at h
  split at h
  · rename_i i hi; exact fun w => by simp [zeroValue, run_info hi, h]
  · cases h
def buildV (P : Program) (E : VE) (t : TypeId) (ps : List (Nat × Operand)) : Option VV := match zeroV P t, evpsV E ps with
  | some (.agg ⟨zs⟩), some qs => match P.underlying t with
    | some (.struct fs) => match placesV P fs.toList with
      | some pl => match buildVO (fun i => nth pl i) (lits zs) qs with
        | some r => some (.agg r)
        | none => none
      | none => none
    | some (.array k e) => match P.info? e with
      | some j => match buildVO (fun i => some (i * j.size, j.size)) (lits zs) qs with
        | some r => some (.agg r)
        | none => none
      | none => none
    | _ => none
  | _, _ => none
theorem buildV_ok {t : TypeId} {ps : Array (Nat × Operand)} {v : VV} (he : denEnv ρ E = some env) (ho : o.op = .build t ps) (h : buildV P E t ps.toList = some v) : ∃ r, den ρ v = some r ∧ OpV P hs n o env r := by
  unfold buildV at h
  split at h
  · rename_i zs qs hz hq
    split at h
    · rename_i fs hu
      split at h
      · rename_i pl hpl
        split at h
        · rename_i r hb
          cases h
          obtain ⟨qs', ys, g1, g2, g3⟩ := build_den he hq (denL_lits zs) hb
          haveI := tyB_struct' (P := P) hu (zeroV_run hz) (placesV_ok hpl)
          exact ⟨.agg ⟨ys⟩, by simp only [den, g3], opv_build ho g1 g2⟩
        · cases h
      · cases h
    · rename_i k e hu
      split at h
      · rename_i j hj
        split at h
        · rename_i r hb
          cases h
          obtain ⟨qs', ys, g1, g2, g3⟩ := build_den he hq (denL_lits zs) hb
          haveI : TyB P t (fun i => some (i * j.size, j.size)) zs := ⟨fun ps cs w hf => by
            have hzc : (Value.agg ⟨zs⟩).cells = ⟨zs⟩ := rfl
            simp [Instr.build, run_und hu, zeroV_run hz, run_size hj, hzc, hf]⟩
          exact ⟨.agg ⟨ys⟩, by simp only [den, g3], opv_build ho g1 g2⟩
        · cases h
      · cases h
    · cases h
  · cases h

/-! ### Maps asked -/
def sameK : TypeDesc → Value → Value → Option Bool
  | .int _, .int k a, .int k' b => match decide (k = k') with | true => some (decide (a = b)) | false => none
  | .string, .string a, .string b => some (a == b)
  | .bool, .bool a, .bool b => some (a == b)
  | _, _, _ => none
theorem sameK_ok {d : TypeDesc} {a b : Value} {r : Bool} (h : sameK d a b = some r) : Instr.sameNow d a b = some r := by
  unfold sameK at h
  split at h
  · rename_i k a k' b
    by_cases hk : k = k'
    · subst hk
      rw [decide_eq_true rfl] at h
      cases h
      by_cases e : a = b <;> simp [Instr.sameNow, e]
    · rw [decide_eq_false hk] at h; cases h
  · cases h; rfl
  · cases h; rfl
  · cases h
def findV (d : TypeDesc) (k : Value) : List ME → Nat → Option (Option (Nat × VV))
  | [], _ => some none
  | e :: es, i => match sameK d k e.key with
    | some true => some (some (i, e.val))
    | some false => findV d k es (i + 1)
    | none => none
theorem findV_ok {d : TypeDesc} {k : Value} : ∀ {es : List ME} {r : List MapEntry} {i : Nat} {q : Option (Nat × VV)}, denE ρ es = some r → findV d k es i = some q →
    ∃ q', Instr.findNow d k r i = some q' ∧ ((q = none ∧ q' = none) ∨ ∃ j v x, q = some (j, v) ∧ q' = some (j, x) ∧ den ρ v = some x)
  | [], r, i, q, hd, h => by cases hd; cases h; exact ⟨none, rfl, .inl ⟨rfl, rfl⟩⟩
  | e :: es, r, i, q, hd, h => by
    simp only [denE] at hd
    split at hd
    · rename_i x r' h1 h2
      cases hd
      simp only [findV] at h
      simp only [Instr.findNow]
      cases hk : sameK d k e.key with
      | none => rw [hk] at h; cases h
      | some b =>
        rw [hk] at h
        rw [sameK_ok hk]
        cases b with
        | true => cases h; exact ⟨_, rfl, .inr ⟨i, e.val, x, rfl, rfl, h1⟩⟩
        | false => exact findV_ok h2 h
    · cases hd
/-- A type whose values may be keys, always. -/
def plainKey : TypeDesc → Bool
  | .int _ | .string | .bool => true
  | _ => false
theorem checkKey_ok {e : Bool} {t : TypeId} {d : TypeDesc} {v : Value} (h : P.underlying t = some d) (hp : plainKey d = true) (w : World) : (Instr.checkKey e 10000 t v).run P w = .ok () w := by
  show (Instr.checkKey e (9999 + 1) t v).run P w = .ok () w
  cases d <;> first | cases hp | skip
  all_goals
    unfold Instr.checkKey
    simp [run_und h]
/-- What a table has at a key; no two have it. -/
def findT (d : TypeDesc) (k : Value) : List (Value × VV) → Option (Option VV)
  | [] => some none
  | (k', v) :: es => match sameK d k k', findT d k es with
    | some true, some none => some (some v)
    | some false, some q => some q
    | _, _ => none
theorem findT_spec {d : TypeDesc} {k : Value} : ∀ {es : List (Value × VV)} {r : List (Value × Value)} {q : Option VV}, denT ρ es = some r → findT d k es = some q →
    (q = none ∧ ∀ p ∈ r, Instr.sameNow d k p.1 = some false) ∨ ∃ v x, q = some v ∧ den ρ v = some x ∧ (∀ p ∈ r, Instr.sameNow d k p.1 = some false ∨ (Instr.sameNow d k p.1 = some true ∧ p.2 = x)) ∧ ∃ p ∈ r, Instr.sameNow d k p.1 = some true
  | [], r, q, hd, h => by cases hd; cases h; exact .inl ⟨rfl, fun p hp => by cases hp⟩
  | (k', v) :: es, r, q, hd, h => by
    simp only [denT] at hd
    split at hd
    · rename_i x r' h1 h2
      cases hd
      simp only [findT] at h
      split at h
      · rename_i hk hf
        cases h
        rcases findT_spec h2 hf with ⟨-, hn⟩ | ⟨v2, x2, e, -⟩
        · refine .inr ⟨v, x, rfl, h1, fun p hp => ?_, (k', x), List.mem_cons_self .., sameK_ok hk⟩
          rcases List.mem_cons.1 hp with rfl | hp
          · exact .inr ⟨sameK_ok hk, rfl⟩
          · exact .inl (hn p hp)
        · cases e
      · rename_i q' hk hf
        cases h
        rcases findT_spec h2 hf with ⟨e, hn⟩ | ⟨v2, x2, e, g1, g2, p2, g3, g4⟩
        · refine .inl ⟨e, fun p hp => ?_⟩
          rcases List.mem_cons.1 hp with rfl | hp
          · exact sameK_ok hk
          · exact hn p hp
        · refine .inr ⟨v2, x2, e, g1, fun p hp => ?_, p2, List.mem_cons_of_mem _ g3, g4⟩
          rcases List.mem_cons.1 hp with rfl | hp
          · exact .inl (sameK_ok hk)
          · exact g2 p hp
      · cases h
    · cases hd
theorem findNow_all {d : TypeDesc} {k x : Value} : ∀ {l : List MapEntry} {i : Nat}, (∀ e ∈ l, Instr.sameNow d k e.key = some false ∨ (Instr.sameNow d k e.key = some true ∧ e.val = x)) → (∃ e ∈ l, Instr.sameNow d k e.key = some true) → ∃ j, Instr.findNow d k l i = some (some (j, x))
  | [], i, _, ⟨e, he, _⟩ => by cases he
  | e :: l, i, h, hex => by
    rcases h e (List.mem_cons_self ..) with h1 | ⟨h1, h2⟩
    · obtain ⟨e', he', h3⟩ := hex
      have := findNow_all (i := i + 1) (fun e2 he2 => h e2 (List.mem_cons_of_mem _ he2)) (by
        rcases List.mem_cons.1 he' with rfl | he'
        · rw [h1] at h3; cases h3
        · exact ⟨e', he', h3⟩)
      obtain ⟨j, hj⟩ := this
      exact ⟨j, by simp only [Instr.findNow, h1]; exact hj⟩
    · exact ⟨i, by simp only [Instr.findNow, h1, h2]⟩
theorem findNow_no {d : TypeDesc} {k : Value} : ∀ {l : List MapEntry} {i : Nat}, (∀ e ∈ l, Instr.sameNow d k e.key = some false) → Instr.findNow d k l i = some none
  | [], i, _ => rfl
  | e :: l, i, h => by
    simp only [Instr.findNow, h e (List.mem_cons_self ..)]
    exact findNow_no fun e' he => h e' (List.mem_cons_of_mem _ he)
theorem findT_ok {d : TypeDesc} {k : Value} {es : List (Value × VV)} {r : List (Value × Value)} {q : Option VV} {ents : List MapEntry} (hd : denT ρ es = some r) (hp : (ents.map fun e => (e.key, e.val)).Perm r) (h : findT d k es = some q) :
    ∃ q', Instr.findNow d k ents 0 = some q' ∧ ((q = none ∧ q' = none) ∨ ∃ j v x, q = some v ∧ q' = some (j, x) ∧ den ρ v = some x) := by
  have mem : ∀ e ∈ ents, (e.key, e.val) ∈ r := fun e he => hp.mem_iff.1 (List.mem_map.2 ⟨e, he, rfl⟩)
  rcases findT_spec hd h with ⟨rfl, hn⟩ | ⟨v, x, rfl, g1, g2, p, g3, g4⟩
  · exact ⟨none, findNow_no fun e he => hn _ (mem e he), .inl ⟨rfl, rfl⟩⟩
  · obtain ⟨e, he, hep⟩ := List.mem_map.1 (hp.mem_iff.2 g3)
    obtain ⟨j, hj⟩ := findNow_all (x := x) (i := 0) (fun e he => g2 _ (mem e he)) ⟨e, he, by rw [← hep] at g4; exact g4⟩
    exact ⟨_, hj, .inr ⟨j, v, x, rfl, rfl, g1⟩⟩
def lookupV (P : Program) (H : VH) (t : TypeId) (ok : Bool) : VV → VV → Option VV
  | .mp b, .lit k => match P.underlying t, getH H b with
    | some (.map kt et), some (.map es _) => match P.underlying kt with
      | some d => match plainKey d, findV d k es 0 with
        | true, some (some (_, v)) => some (match ok with | true => .tup [v, .lit (.bool true)] | false => v)
        | true, some none => match zeroV P et with
          | some z => some (match ok with | true => .tup [.lit z, .lit (.bool false)] | false => .lit z)
          | none => none
        | _, _ => none
      | none => none
    | some (.map kt et), some (.tab es) => match P.underlying kt with
      | some d => match plainKey d, findT d k es with
        | true, some (some v) => some (match ok with | true => .tup [v, .lit (.bool true)] | false => v)
        | true, some none => match zeroV P et with
          | some z => some (match ok with | true => .tup [.lit z, .lit (.bool false)] | false => .lit z)
          | none => none
        | _, _ => none
      | none => none
    | _, _ => none
  | _, _ => none
theorem lookupV_ok {t : TypeId} {ok : Bool} {x ix : Operand} {u k v : VV} {y z : Value} (hH : denH ρ H = some own) (hsub : ∀ h ∈ own, h ∈ hs) (ho : o.op = .lookup t x ix ok)
    (hx : ev env x = some y) (hy : den ρ u = some y) (hi : ev env ix = some z) (hz : den ρ k = some z) (h : lookupV P H t ok u k = some v) : ∃ r, den ρ v = some r ∧ OpV P hs n o env r := by
  unfold lookupV at h
  split at h
  · rename_i b kv
    cases hz
    split at h
    · rename_i kt et es ck hu hg
      split at h
      · rename_i d hd
        obtain ⟨i, r, h1, h2, h3⟩ := map_at hH hsub hg
        obtain ⟨j, hj, rfl⟩ := den_mp hy
        rw [h1] at hj; cases hj
        split at h
        · rename_i _ _ q v' hp hf
          obtain ⟨q', g1, g2⟩ := findV_ok h2 hf
          rcases g2 with ⟨g3, -⟩ | ⟨j', v2, x2, g3, rfl, g5⟩
          · cases g3
          cases g3
          cases h
          cases ok with
          | true =>
            refine ⟨.tuple ⟨[x2, .bool true]⟩, by simp only [den, denL, g5], by rw [ho]; rfl, fun a w X ha s => ⟨w, s, .inl ?_⟩⟩
            simp [execOp, ho, ha.eval hx, ha.eval hi, Instr.lookup, run_und hu, getObj, Sem.run, h3 w X s, checkKey_ok hd hp, Instr.findKey, run_und hd, g1]
          | false =>
            refine ⟨x2, g5, by rw [ho]; rfl, fun a w X ha s => ⟨w, s, .inl ?_⟩⟩
            simp [execOp, ho, ha.eval hx, ha.eval hi, Instr.lookup, run_und hu, getObj, Sem.run, h3 w X s, checkKey_ok hd hp, Instr.findKey, run_und hd, g1]
        · rename_i hp hf
          split at h
          · rename_i zv hzv
            obtain ⟨q', g1, g2⟩ := findV_ok h2 hf
            rcases g2 with ⟨-, rfl⟩ | ⟨j', v2, x2, g3, -, -⟩
            rotate_left
            · cases g3
            cases h
            cases ok with
            | true =>
              refine ⟨.tuple ⟨[zv, .bool false]⟩, by simp only [den, denL], by rw [ho]; rfl, fun a w X ha s => ⟨w, s, .inl ?_⟩⟩
              simp [execOp, ho, ha.eval hx, ha.eval hi, Instr.lookup, run_und hu, getObj, Sem.run, h3 w X s, checkKey_ok hd hp, Instr.findKey, run_und hd, g1, zeroV_run hzv]
            | false =>
              refine ⟨zv, rfl, by rw [ho]; rfl, fun a w X ha s => ⟨w, s, .inl ?_⟩⟩
              simp [execOp, ho, ha.eval hx, ha.eval hi, Instr.lookup, run_und hu, getObj, Sem.run, h3 w X s, checkKey_ok hd hp, Instr.findKey, run_und hd, g1, zeroV_run hzv]
          · cases h
        · cases h
      · cases h
    · rename_i kt et es hu hg
      split at h
      · rename_i d hd
        obtain ⟨i, r, h1, h2, hpm, h3⟩ := tab_at hH hsub hg
        obtain ⟨j, hj, rfl⟩ := den_mp hy
        rw [h1] at hj; cases hj
        split at h
        · rename_i v' hp hf
          obtain ⟨q', g1, g2⟩ := findT_ok h2 hpm hf
          rcases g2 with ⟨g3, -⟩ | ⟨j', v2, x2, g3, rfl, g5⟩
          · cases g3
          cases g3
          cases h
          cases ok with
          | true =>
            refine ⟨.tuple ⟨[x2, .bool true]⟩, by simp only [den, denL, g5], by rw [ho]; rfl, fun a w X ha s => ⟨w, s, .inl ?_⟩⟩
            simp [execOp, ho, ha.eval hx, ha.eval hi, Instr.lookup, run_und hu, getObj, Sem.run, h3 w X s, checkKey_ok hd hp, Instr.findKey, run_und hd, g1]
          | false =>
            refine ⟨x2, g5, by rw [ho]; rfl, fun a w X ha s => ⟨w, s, .inl ?_⟩⟩
            simp [execOp, ho, ha.eval hx, ha.eval hi, Instr.lookup, run_und hu, getObj, Sem.run, h3 w X s, checkKey_ok hd hp, Instr.findKey, run_und hd, g1]
        · rename_i hp hf
          split at h
          · rename_i zv hzv
            obtain ⟨q', g1, g2⟩ := findT_ok h2 hpm hf
            rcases g2 with ⟨-, rfl⟩ | ⟨j', v2, x2, g3, -, -⟩
            rotate_left
            · cases g3
            cases h
            cases ok with
            | true =>
              refine ⟨.tuple ⟨[zv, .bool false]⟩, by simp only [den, denL], by rw [ho]; rfl, fun a w X ha s => ⟨w, s, .inl ?_⟩⟩
              simp [execOp, ho, ha.eval hx, ha.eval hi, Instr.lookup, run_und hu, getObj, Sem.run, h3 w X s, checkKey_ok hd hp, Instr.findKey, run_und hd, g1, zeroV_run hzv]
            | false =>
              refine ⟨zv, rfl, by rw [ho]; rfl, fun a w X ha s => ⟨w, s, .inl ?_⟩⟩
              simp [execOp, ho, ha.eval hx, ha.eval hi, Instr.lookup, run_und hu, getObj, Sem.run, h3 w X s, checkKey_ok hd hp, Instr.findKey, run_und hd, g1, zeroV_run hzv]
          · cases h
        · cases h
      · cases h
    · cases h
  · cases h

/-! ### Is it nil? -/
def nilV (P : Program) (t : TypeId) : VV → VV → Option Bool
  | .ptr _ _, .lit (.pointer none) | .lit (.pointer none), .ptr _ _ => match P.underlying t with | some (.pointer _) => some false | _ => none
  | .slc _ _ _ _, .lit (.slice none _ _) | .lit (.slice none _ _), .slc _ _ _ _ => match P.underlying t with | some (.slice _) => some false | _ => none
  | .tl _ _ _ _ _, .lit (.slice none _ _) | .lit (.slice none _ _), .tl _ _ _ _ _ => match P.underlying t with | some (.slice _) => some false | _ => none
  | .mp _, .lit (.map none) | .lit (.map none), .mp _ => match P.underlying t with | some (.map _ _) => some false | _ => none
  | .fn _ _ _, .lit .nilFunc | .lit .nilFunc, .fn _ _ _ => match P.underlying t with | some (.func _ _ _) => some false | _ => none
  | .ifc _ _, .lit .nilIface | .lit .nilIface, .ifc _ _ => match P.underlying t with | some (.interface _) => some false | _ => none
  | _, _ => none
theorem nilV_run {t : TypeId} {u w : VV} {y z : Value} {r : Bool} (hy : den ρ u = some y) (hz : den ρ w = some z) (h : nilV P t u w = some r) (op : BinOp) (x1 x2 : Operand) (W : World) :
    (eqGuard op t x1 x2 y z).run P W = .ok () W ∧ (Op.equal t y z).run P W = .ok r W ∧ (binOp .eql t y z = (do pure (.bool (← Op.equal t y z)))) ∧ (binOp .neq t y z = (do pure (.bool (!(← Op.equal t y z))))) := by
  have hd : Op.maxDepth = 9999 + 1 := rfl
  unfold nilV at h
  split at h
  all_goals
    first
      | cases h
      | skip
  all_goals
    split at h
    case h_2 => cases h
    rename_i hu
    cases h
  all_goals
    first
      | (obtain ⟨i, hi, rfl⟩ := den_ptr hy; cases hz)
      | (cases hy; obtain ⟨i, hi, rfl⟩ := den_ptr hz)
      | (obtain ⟨i, hi, -, rfl⟩ := den_slc hy; cases hz)
      | (cases hy; obtain ⟨i, hi, -, rfl⟩ := den_slc hz)
      | (obtain ⟨i, hi, -, rfl⟩ := den_tl hy; cases hz)
      | (cases hy; obtain ⟨i, hi, -, rfl⟩ := den_tl hz)
      | (obtain ⟨i, hi, rfl⟩ := den_mp hy; cases hz)
      | (cases hy; obtain ⟨i, hi, rfl⟩ := den_mp hz)
      | (obtain ⟨xs, ys, -, -, rfl⟩ := den_fn hy; cases hz)
      | (cases hy; obtain ⟨xs, ys, -, -, rfl⟩ := den_fn hz)
      | (obtain ⟨y', -, rfl⟩ := den_ifc hy; cases hz)
      | (cases hy; obtain ⟨y', -, rfl⟩ := den_ifc hz)
  all_goals
    refine ⟨?_, ?_, rfl, rfl⟩
    · unfold eqGuard; cases op <;> simp
    · unfold Op.equal; rw [hd]; unfold Op.equalIn; simp [run_und hu]
def eqlV (P : Program) (E : VE) (op : BinOp) (t : TypeId) (x y : Operand) : Option VV := match op with
  | .eql => match evV E x, evV E y with
    | some u, some w => match nilV P t u w with
      | some b => some (.lit (.bool b))
      | none => none
    | _, _ => none
  | .neq => match evV E x, evV E y with
    | some u, some w => match nilV P t u w with
      | some b => some (.lit (.bool (!b)))
      | none => none
    | _, _ => none
  | _ => none
theorem eqlV_ok {op : BinOp} {t t2 : TypeId} {x y : Operand} {v : VV} (he : denEnv ρ E = some env) (ho : o.op = .binOp op t x y t2) (h : eqlV P E op t x y = some v) : ∃ r, den ρ v = some r ∧ OpV P hs n o env r := by
  unfold eqlV at h
  split at h
  · split at h
    · rename_i u w h1 h2
      split at h
      · rename_i b hb
        cases h
        obtain ⟨y1, g1, g2⟩ := evV_den he h1
        obtain ⟨y2, g3, g4⟩ := evV_den he h2
        refine ⟨_, rfl, opv_run (by rw [ho]; rfl) fun a W ha => ?_⟩
        obtain ⟨q1, q2, q3, -⟩ := nilV_run g2 g4 hb .eql x y W
        simp only [execOp, ho, ha.eval g1, ha.eval g3, q3]
        simp [q1, q2]
      · cases h
    · cases h
  · split at h
    · rename_i u w h1 h2
      split at h
      · rename_i b hb
        cases h
        obtain ⟨y1, g1, g2⟩ := evV_den he h1
        obtain ⟨y2, g3, g4⟩ := evV_den he h2
        refine ⟨_, rfl, opv_run (by rw [ho]; rfl) fun a W ha => ?_⟩
        obtain ⟨q1, q2, -, q4⟩ := nilV_run g2 g4 hb .neq x y W
        simp only [execOp, ho, ha.eval g1, ha.eval g3, q4]
        simp [q1, q2]
      · cases h
    · cases h
  · cases h
end
end
end Go.SL
end
section
/- Closed calls, run by the kernel: one quiet operation. -/
set_option linter.unusedVariables false
set_option linter.unusedSimpArgs false
namespace Go.SL
noncomputable section

section
variable {P : Program} {ρ : Rn} {E : VE} {env : Env} {H : VH} {own hs : List Heap} {n : Nat} {o : Oper}

def tupOf : VV → Option (List VV)
  | .tup l => some l
  | .lit (.tuple ⟨l⟩) => some (lits l)
  | _ => none
theorem tupOf_ok {v : VV} {y : Value} {l : List VV} (hy : den ρ v = some y) (h : tupOf v = some l) : ∃ xs, denL ρ l = some xs ∧ y = .tuple ⟨xs⟩ := by
  unfold tupOf at h
  split at h
  · cases h; exact den_tup hy
  · cases h; cases hy; exact ⟨_, denL_lits _, rfl⟩
  · cases h
def isIface (P : Program) (t : TypeId) : Option Bool := match P.underlying t with
  | some (.interface _) => some true
  | some _ => some false
  | none => none
/-- The first that is there. -/
def orV : Option VV → Option VV → Option VV
  | some v, _ => some v
  | none, x => x
theorem orV_some {a b : Option VV} {v : VV} (h : orV a b = some v) : a = some v ∨ (a = none ∧ b = some v) := by
  cases a with
  | some x => exact .inl h
  | none => exact .inr ⟨rfl, h⟩
/-- Whole numbers, quick. -/
def intBin (op : BinOp) (k : IntKind) (a b : Int) : Option Value := match op with
  | .add => some (.int k (k.wrap (a + b)))
  | .sub => some (.int k (k.wrap (a - b)))
  | .lss => some (.bool (decide (a < b)))
  | .leq => some (.bool (decide (a ≤ b)))
  | .gtr => some (.bool (decide (b < a)))
  | .geq => some (.bool (decide (b ≤ a)))
  | .eql => some (.bool (decide (a = b)))
  | .neq => some (.bool (!decide (a = b)))
  | _ => none
def quickBin (E : VE) (op : BinOp) (x y : Operand) : Option VV := match evV E x, evV E y with
  | some (.lit (.int k a)), some (.lit (.int k' b)) => match decide (k = k') with
    | true => match intBin op k a b with
      | some v => some (.lit v)
      | none => none
    | false => none
  | _, _ => none
theorem quickBin_ok {op : BinOp} {t t2 : TypeId} {x y : Operand} {v : VV} (he : denEnv ρ E = some env) (ho : o.op = .binOp op t x y t2) (h : quickBin E op x y = some v) : ∃ r, den ρ v = some r ∧ OpV P hs n o env r := by
  unfold quickBin at h
  split at h
  · rename_i k a k' b h1 h2
    by_cases hk : k = k'
    · subst hk
      rw [decide_eq_true rfl] at h
      simp only at h
      obtain ⟨y1, g1, g2⟩ := evV_den he h1
      obtain ⟨y2, g3, g4⟩ := evV_den he h2
      cases g2; cases g4
      cases op <;> simp only [intBin] at h <;> cases h
      · exact ⟨_, rfl, opv_add ho g1 g3⟩
      · exact ⟨_, rfl, opv_sub ho g1 g3⟩
      · exact ⟨_, rfl, opv_eql ho g1 g3⟩
      · refine ⟨_, rfl, (opv_neq ho g1 g3).to ?_⟩
        by_cases e : a = b <;> simp [e]
      · exact ⟨_, rfl, opv_lss ho g1 g3⟩
      · exact ⟨_, rfl, opv_leq ho g1 g3⟩
      · exact ⟨_, rfl, opv_gtr ho g1 g3⟩
      · exact ⟨_, rfl, opv_geq ho g1 g3⟩
    · rw [decide_eq_false hk] at h; cases h
  · cases h
def loadQ (P : Program) (E : VE) (H : VH) (t : TypeId) (x : Operand) : Option VV := match evV E x with
  | some (.ptr b off) => loadV P H t b off
  | _ => none
theorem loadQ_ok {t : TypeId} {x : Operand} {v : VV} (he : denEnv ρ E = some env) (hH : denH ρ H = some own) (hsub : ∀ h ∈ own, h ∈ hs) (ho : o.op = .load t x) (h : loadQ P E H t x = some v) : ∃ r, den ρ v = some r ∧ OpV P hs n o env r := by
  unfold loadQ at h
  split at h
  · rename_i b off hx
    obtain ⟨y, g1, g2⟩ := evV_den he hx
    obtain ⟨i, hi, rfl⟩ := den_ptr g2
    obtain ⟨r, q1, q2⟩ := loadV_ok hH hsub h hi
    refine ⟨r, q1, by rw [ho]; rfl, fun a w X ha s => ⟨w, s, .inl ?_⟩⟩
    simp [execOp, ho, ha.eval g1, Instr.loadAt, Instr.sureAddr, q2 w X s]
  · cases h
def callQ (P : Program) (E : VE) (H : VH) (c : Call) : Option VV := match c.callee, c.args.toList, c.argTypes.toList with
  | .builtin .len, [x], [t] => match evV E x with
    | some u => lenV P H t u
    | none => none
  | _, _, _ => none
theorem callQ_ok {c : Call} {v : VV} (he : denEnv ρ E = some env) (hH : denH ρ H = some own) (hsub : ∀ h ∈ own, h ∈ hs) (ho : o.op = .call c) (h : callQ P E H c = some v) : ∃ r, den ρ v = some r ∧ OpV P hs n o env r := by
  unfold callQ at h
  split at h
  · rename_i x t hc hx ht
    split at h
    · rename_i u hu
      obtain ⟨y, g1, g2⟩ := evV_den he hu
      exact lenV_ok hH hsub ho hc (Array.ext' (by simpa using hx)) (Array.ext' (by simpa using ht)) g1 g2 h
    · cases h
  · cases h
def qPick (E : VE) (c x y : Operand) : Option VV := match evV E c with
  | some (.lit (.bool true)) => evV E x
  | some (.lit (.bool false)) => evV E y
  | _ => none
def qExtract (E : VE) (x : Operand) (k : Nat) : Option VV := match evV E x with
  | some u => match tupOf u with
    | some l => nthF l k
    | none => none
  | none => none
def qFieldAddr (P : Program) (E : VE) (t : TypeId) (x : Operand) (k : Nat) : Option VV := match evV E x with
  | some u => fieldAddrV P t k u
  | none => none
def qField (P : Program) (E : VE) (o : Oper) (t : TypeId) (x : Operand) (k : Nat) : Option VV := match evV E x with
  | some u => orV (fieldV P t k u) (evPure P E o)
  | none => none
def qIndexAddr (P : Program) (E : VE) (t : TypeId) (x ix : Operand) : Option VV := match evV E x, evV E ix with
  | some u, some w => indexAddrV P t u w
  | _, _ => none
def qIndex (P : Program) (E : VE) (o : Oper) (t : TypeId) (x ix : Operand) : Option VV := match evV E x, evV E ix with
  | some u, some w => orV (indexV P t u w) (evPure P E o)
  | _, _ => none
def qBin (P : Program) (E : VE) (o : Oper) (op : BinOp) (t : TypeId) (x y : Operand) : Option VV := orV (quickBin E op x y) (orV (evPure P E o) (eqlV P E op t x y))
def qFunc (E : VE) (f : Fn) (xs ys : Array Operand) : Option VV := match evsV E xs.toList, evsV E ys.toList with
  | some a, some c => some (.fn f a c)
  | _, _ => none
def qIface (P : Program) (E : VE) (t : TypeId) (x : Operand) : Option VV := match isIface P t, evV E x with
  | some false, some u => some (.ifc t u)
  | _, _ => none
def qSlice (P : Program) (E : VE) (o : Oper) (t : TypeId) (x : Operand) (lo hi mx : Option Operand) : Option VV := match evV E x with
  | some u => orV (sliceV P E t lo hi mx u) (evPure P E o)
  | none => none
def qLookup (P : Program) (H : VH) (E : VE) (o : Oper) (t : TypeId) (x ix : Operand) (ok : Bool) : Option VV := match evV E x, evV E ix with
  | some u, some w => orV (lookupV P H t ok u w) (evPure P E o)
  | _, _ => none
def qNil (P : Program) (E : VE) (o : Oper) (x : Operand) : Option VV := match evV E x with
  | some (.ptr b off) => some (.ptr b off)
  | some _ => evPure P E o
  | none => none
/-- 'not', quick. -/
def qUn (P : Program) (E : VE) (o : Oper) (op : UnOp) (x : Operand) : Option VV := match op, evV E x with
  | .not, some (.lit (.bool true)) => some (.lit (.bool false))
  | .not, some (.lit (.bool false)) => some (.lit (.bool true))
  | _, _ => evPure P E o
/-- One quiet operation. -/
def evQ (P : Program) (H : VH) (E : VE) (o : Oper) : Option VV := match o.op with
  | .move x | .assign x => evV E x
  | .pick c x y => qPick E c x y
  | .extract x k => qExtract E x k
  | .load t x => loadQ P E H t x
  | .fieldAddr t x k => qFieldAddr P E t x k
  | .field t x k => qField P E o t x k
  | .indexAddr t x ix => qIndexAddr P E t x ix
  | .index t x ix => qIndex P E o t x ix
  | .binOp op t x y _ => qBin P E o op t x y
  | .build t ps => buildV P E t ps.toList
  | .makeFunc f xs ys => qFunc E f xs ys
  | .makeInterface t x => qIface P E t x
  | .slice t x lo hi mx => qSlice P E o t x lo hi mx
  | .lookup t x ix ok => qLookup P H E o t x ix ok
  | .nilCheck x => qNil P E o x
  | .call c => orV (callQ P E H c) (evPure P E o)
  | .unOp op _ x => qUn P E o op x
  | .convert .. => evPure P E o
  | _ => none
theorem evQ_ok {v : VV} (he : denEnv ρ E = some env) (hH : denH ρ H = some own) (hsub : ∀ h ∈ own, h ∈ hs) (h : evQ P H E o = some v) : ∃ r, den ρ v = some r ∧ OpV P hs n o env r := by
  unfold evQ at h
  split at h
  · rename_i x ho
    obtain ⟨y, g1, g2⟩ := evV_den he h
    exact ⟨y, g2, opv_move ho g1⟩
  · rename_i x ho
    obtain ⟨y, g1, g2⟩ := evV_den he h
    exact ⟨y, g2, opv_assign ho g1⟩
  · rename_i c x y ho
    unfold qPick at h
    split at h
    · rename_i hc
      obtain ⟨z, g1, g2⟩ := evV_den he hc; cases g2
      obtain ⟨y, g3, g4⟩ := evV_den he h
      exact ⟨y, g4, opv_pick_t ho g1 g3⟩
    · rename_i hc
      obtain ⟨z, g1, g2⟩ := evV_den he hc; cases g2
      obtain ⟨y, g3, g4⟩ := evV_den he h
      exact ⟨y, g4, opv_pick_f ho g1 g3⟩
    · cases h
  · rename_i x k ho
    unfold qExtract at h
    split at h
    · rename_i u hu
      split at h
      · rename_i l hl
        rw [nthF_eq] at h
        obtain ⟨y, g1, g2⟩ := evV_den he hu
        obtain ⟨xs, g3, rfl⟩ := tupOf_ok g2 hl
        obtain ⟨r, g4, g5⟩ := denL_nth g3 h
        exact ⟨r, g5, opv_extract ho g1 g4⟩
      · cases h
    · cases h
  · rename_i t x ho
    exact loadQ_ok he hH hsub ho h
  · rename_i t x k ho
    unfold qFieldAddr at h
    split at h
    · rename_i u hu
      obtain ⟨y, g1, g2⟩ := evV_den he hu
      exact fieldAddrV_ok ho g1 g2 h
    · cases h
  · rename_i t x k ho
    unfold qField at h
    split at h
    · rename_i u hu
      obtain ⟨y, g1, g2⟩ := evV_den he hu
      rcases orV_some h with h | ⟨-, h⟩
      · exact fieldV_ok ho g1 g2 h
      · exact evPure_ok he h
    · cases h
  · rename_i t x ix ho
    unfold qIndexAddr at h
    split at h
    · rename_i u w hu hw
      obtain ⟨y, g1, g2⟩ := evV_den he hu
      obtain ⟨z, g3, g4⟩ := evV_den he hw
      exact indexAddrV_ok ho g1 g2 g3 g4 h
    · cases h
  · rename_i t x ix ho
    unfold qIndex at h
    split at h
    · rename_i u w hu hw
      obtain ⟨y, g1, g2⟩ := evV_den he hu
      obtain ⟨z, g3, g4⟩ := evV_den he hw
      rcases orV_some h with h | ⟨-, h⟩
      · exact indexV_ok ho g1 g2 g3 g4 h
      · exact evPure_ok he h
    · cases h
  · rename_i op t x y t2 ho
    unfold qBin at h
    rcases orV_some h with h | ⟨-, h⟩
    · exact quickBin_ok he ho h
    · rcases orV_some h with h | ⟨-, h⟩
      · exact evPure_ok he h
      · exact eqlV_ok he ho h
  · rename_i t ps ho
    exact buildV_ok he ho h
  · rename_i f xs ys ho
    unfold qFunc at h
    split at h
    · rename_i a c ha hc
      cases h
      obtain ⟨vs, g1, g2⟩ := evsV_den he ha
      obtain ⟨us, g3, g4⟩ := evsV_den he hc
      exact ⟨.func f ⟨vs⟩ ⟨us⟩, by simp only [den, g2, g4], opv_makeFunc ho g1 g3⟩
    · cases h
  · rename_i t x ho
    unfold qIface at h
    split at h
    · rename_i u hi hu
      cases h
      obtain ⟨y, g1, g2⟩ := evV_den he hu
      refine ⟨.iface t y, by simp only [den, g2], opv_run (by rw [ho]; rfl) fun a w ha => ?_⟩
      unfold isIface at hi
      split at hi
      · cases hi
      · rename_i d hd hn
        cases d <;> first | exact (hd _ rfl).elim | simp [execOp, ho, ha.eval g1, Instr.makeInterface, run_und hn]
      · cases hi
    · cases h
  · rename_i t x lo hi mx ho
    unfold qSlice at h
    split at h
    · rename_i u hu
      obtain ⟨y, g1, g2⟩ := evV_den he hu
      rcases orV_some h with h | ⟨-, h⟩
      · exact sliceV_ok he ho g1 g2 h
      · exact evPure_ok he h
    · cases h
  · rename_i t x ix ok ho
    unfold qLookup at h
    split at h
    · rename_i u w hu hw
      obtain ⟨y, g1, g2⟩ := evV_den he hu
      obtain ⟨z, g3, g4⟩ := evV_den he hw
      rcases orV_some h with h | ⟨-, h⟩
      · exact lookupV_ok hH hsub ho g1 g2 g3 g4 h
      · exact evPure_ok he h
    · cases h
  · rename_i x ho
    unfold qNil at h
    split at h
    · rename_i b off hu
      cases h
      obtain ⟨y, g1, g2⟩ := evV_den he hu
      refine ⟨y, g2, opv_run (by rw [ho]; rfl) fun a w ha => ?_⟩
      obtain ⟨i, hi, rfl⟩ := den_ptr g2
      simp [execOp, ho, ha.eval g1]
    · exact evPure_ok he h
    · cases h
  · rename_i c ho
    rcases orV_some h with h | ⟨-, h⟩
    · exact callQ_ok he hH hsub ho h
    · exact evPure_ok he h
  · rename_i op t x ho
    unfold qUn at h
    split at h
    · rename_i hu
      cases h
      obtain ⟨y, g1, g2⟩ := evV_den he hu
      cases g2
      exact ⟨_, rfl, opv_not_t ho g1⟩
    · rename_i hu
      cases h
      obtain ⟨y, g1, g2⟩ := evV_den he hu
      cases g2
      exact ⟨_, rfl, opv_not_f ho g1⟩
    · exact evPure_ok he h
  · exact evPure_ok he h
  · cases h
end
end
end Go.SL
end
