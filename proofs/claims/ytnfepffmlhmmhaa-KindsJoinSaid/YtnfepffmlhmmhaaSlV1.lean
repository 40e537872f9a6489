/- Closed calls, run by the kernel: values with blocks by number, what they stand for, heaps. -/
import Derived.Test.YtnfepffmlhmmhaaSlU
set_option linter.unusedVariables false
namespace Go.SL
noncomputable section

/-- How great a slice may grow: it is known; or it is not, but for a least one. -/
inductive Cap
  | k (n : Nat)
  | o (m lb sz : Nat)
/-- A value whose blocks are numbers of our own. -/
inductive VV
  | lit (v : Value)
  | ptr (b off : Nat)
  | slc (b off len : Nat) (cap : Cap)
  | agg (l : List VV)
  | tup (l : List VV)
  | fn (f : Fn) (first captured : List VV)
  | ifc (t : TypeId) (v : VV)
  | mp (b : Nat)
  | tl (b off d m sz : Nat)
  | yl (b : Nat)
/-- What such a number stands for: the block; what lies ahead of, and behind, what is known; how great a slice of it may grow. -/
structure BI where
  blk : Nat
  pre : List Value
  post : List Value
  cap : Nat
  sz : Nat
  ents : List MapEntry := []
  clk : Nat := 0
  lp : Option Loop := none
abbrev Rn := Nat → Option BI
def BI.cp (i : BI) : Cap → Nat
  | .k n => n
  | .o m _ _ => i.cap - m
def BI.ok (i : BI) : Cap → Bool
  | .k _ => true
  | .o m lb sz => Nat.ble lb (i.cap - m) && Nat.beq i.sz sz
def Cap.lb : Cap → Nat
  | .k n => n
  | .o _ n _ => n
theorem BI.lb_le {i : BI} {c : Cap} (h : i.ok c = true) : c.lb ≤ i.cp c := by
  cases c with
  | k n => exact Nat.le_refl _
  | o m lb sz => simp only [BI.ok, Bool.and_eq_true] at h; exact Nat.le_of_ble_eq_true h.1
def BI.at (i : BI) (off : Nat) : Addr := ⟨i.blk, i.pre.length + off, none⟩

/-- Where an empty slice at the end begins: if it may not grow, it has not moved. -/
def tlOff : Nat → Nat → Nat → Nat
  | 0, off, d => off - d
  | _ + 1, off, _ => off
mutual
def den (ρ : Rn) : VV → Option Value
  | .lit v => some v
  | .ptr b off => match ρ b with | some i => some (.pointer (some (i.at off))) | none => none
  | .slc b off len c => match ρ b with
    | some i => match i.ok c with | true => some (.slice (some (i.at off)) len (i.cp c)) | false => none
    | none => none
  | .agg l => match denL ρ l with | some xs => some (.agg ⟨xs⟩) | none => none
  | .tup l => match denL ρ l with | some xs => some (.tuple ⟨xs⟩) | none => none
  | .fn f a c => match denL ρ a, denL ρ c with | some xs, some ys => some (.func f ⟨xs⟩ ⟨ys⟩) | _, _ => none
  | .ifc t v => match den ρ v with | some x => some (.iface t x) | none => none
  | .mp b => match ρ b with | some i => some (.map (some i.blk)) | none => none
  | .tl b off d m sz => match ρ b with
    | some i => match Nat.beq i.sz sz with | true => some (.slice (some (i.at (tlOff (i.cap - m) off d))) 0 (i.cap - m)) | false => none
    | none => none
  | .yl b => match ρ b with | some i => some (.func (.yield i.blk) #[] #[]) | none => none
def denL (ρ : Rn) : List VV → Option (List Value)
  | [] => some []
  | v :: l => match den ρ v, denL ρ l with | some x, some xs => some (x :: xs) | _, _ => none
end

/-- One says no less than another one. -/
def Ext (ρ ρ' : Rn) : Prop := ∀ b i, ρ b = some i → ρ' b = some i
theorem Ext.refl (ρ : Rn) : Ext ρ ρ := fun _ _ h => h
theorem Ext.trans {ρ ρ' ρ'' : Rn} (h : Ext ρ ρ') (h' : Ext ρ' ρ'') : Ext ρ ρ'' := fun b i x => h' b i (h b i x)

mutual
theorem den_ext {ρ ρ' : Rn} (e : Ext ρ ρ') : ∀ {v : VV} {x : Value}, den ρ v = some x → den ρ' v = some x
  | .lit v, x, h => h
  | .ptr b off, x, h => by
    simp only [den] at h ⊢
    cases hb : ρ b with
    | none => rw [hb] at h; cases h
    | some i => rw [hb] at h; rw [e b i hb]; exact h
  | .slc b off len c, x, h => by
    simp only [den] at h ⊢
    cases hb : ρ b with
    | none => rw [hb] at h; cases h
    | some i => rw [hb] at h; rw [e b i hb]; exact h
  | .agg l, x, h => by
    simp only [den] at h ⊢
    cases hl : denL ρ l with
    | none => rw [hl] at h; cases h
    | some xs => rw [hl] at h; rw [denL_ext e hl]; exact h
  | .tup l, x, h => by
    simp only [den] at h ⊢
    cases hl : denL ρ l with
    | none => rw [hl] at h; cases h
    | some xs => rw [hl] at h; rw [denL_ext e hl]; exact h
  | .fn f a c, x, h => by
    simp only [den] at h ⊢
    cases ha : denL ρ a with
    | none => rw [ha] at h; cases h
    | some xs =>
      cases hc : denL ρ c with
      | none => rw [ha, hc] at h; cases h
      | some ys => rw [ha, hc] at h; rw [denL_ext e ha, denL_ext e hc]; exact h
  | .ifc t v, x, h => by
    simp only [den] at h ⊢
    cases hv : den ρ v with
    | none => rw [hv] at h; cases h
    | some y => rw [hv] at h; rw [den_ext e hv]; exact h
  | .mp b, x, h => by
    simp only [den] at h ⊢
    cases hb : ρ b with
    | none => rw [hb] at h; cases h
    | some i => rw [hb] at h; rw [e b i hb]; exact h
  | .tl b off d m sz, x, h => by
    simp only [den] at h ⊢
    cases hb : ρ b with
    | none => rw [hb] at h; cases h
    | some i => rw [hb] at h; rw [e b i hb]; exact h
  | .yl b, x, h => by
    simp only [den] at h ⊢
    cases hb : ρ b with
    | none => rw [hb] at h; cases h
    | some i => rw [hb] at h; rw [e b i hb]; exact h
theorem denL_ext {ρ ρ' : Rn} (e : Ext ρ ρ') : ∀ {l : List VV} {xs : List Value}, denL ρ l = some xs → denL ρ' l = some xs
  | [], xs, h => h
  | v :: l, xs, h => by
    simp only [denL] at h ⊢
    cases hv : den ρ v with
    | none => rw [hv] at h; cases h
    | some y =>
      cases hl : denL ρ l with
      | none => rw [hv, hl] at h; cases h
      | some ys => rw [hv, hl] at h; rw [den_ext e hv, denL_ext e hl]; exact h
end

theorem denL_cons {ρ : Rn} {v : VV} {l : List VV} {xs : List Value} (h : denL ρ (v :: l) = some xs) : ∃ y ys, den ρ v = some y ∧ denL ρ l = some ys ∧ xs = y :: ys := by
  simp only [denL] at h
  cases hv : den ρ v with
  | none => rw [hv] at h; cases h
  | some y =>
    cases hl : denL ρ l with
    | none => rw [hv, hl] at h; cases h
    | some ys => rw [hv, hl] at h; cases h; exact ⟨y, ys, rfl, rfl, rfl⟩
theorem denL_mk {ρ : Rn} {v : VV} {l : List VV} {y : Value} {ys : List Value} (hv : den ρ v = some y) (hl : denL ρ l = some ys) : denL ρ (v :: l) = some (y :: ys) := by
  simp only [denL, hv, hl]
theorem denL_length {ρ : Rn} : ∀ {l : List VV} {xs : List Value}, denL ρ l = some xs → xs.length = l.length
  | [], xs, h => by cases h; rfl
  | v :: l, xs, h => by
    obtain ⟨y, ys, -, h2, rfl⟩ := denL_cons h
    simp [denL_length h2]
theorem denL_append {ρ : Rn} : ∀ {l m : List VV} {xs ys : List Value}, denL ρ l = some xs → denL ρ m = some ys → denL ρ (l ++ m) = some (xs ++ ys)
  | [], m, xs, ys, h, h' => by cases h; exact h'
  | v :: l, m, xs, ys, h, h' => by
    obtain ⟨y, zs, h1, h2, rfl⟩ := denL_cons h
    exact denL_mk h1 (denL_append h2 h')
theorem denL_nth {ρ : Rn} : ∀ {l : List VV} {xs : List Value} {k : Nat} {v : VV}, denL ρ l = some xs → nth l k = some v → ∃ x, nth xs k = some x ∧ den ρ v = some x
  | [], xs, k, v, h, h' => by cases h'
  | u :: l, xs, 0, v, h, h' => by
    obtain ⟨y, zs, h1, h2, rfl⟩ := denL_cons h
    cases h'; exact ⟨y, rfl, h1⟩
  | u :: l, xs, k + 1, v, h, h' => by
    obtain ⟨y, zs, h1, h2, rfl⟩ := denL_cons h
    have := denL_nth h2 (show nth l k = some v from h')
    exact this
theorem denL_drop {ρ : Rn} : ∀ {l m : List VV} {xs : List Value} {k : Nat}, denL ρ l = some xs → dropO l k = some m → ∃ ys, dropO xs k = some ys ∧ denL ρ m = some ys
  | l, m, xs, 0, h, h' => by
    have e1 : dropO l 0 = some l := by cases l <;> rfl
    rw [e1] at h'; cases h'
    exact ⟨xs, by cases xs <;> rfl, h⟩
  | [], m, xs, k + 1, h, h' => by cases h'
  | u :: l, m, xs, k + 1, h, h' => by
    obtain ⟨y, zs, h1, h2, rfl⟩ := denL_cons h
    have := denL_drop h2 (show dropO l k = some m from h')
    exact this
theorem denL_take {ρ : Rn} : ∀ {l m : List VV} {xs : List Value} {k : Nat}, denL ρ l = some xs → takeO l k = some m → ∃ ys, takeO xs k = some ys ∧ denL ρ m = some ys
  | l, m, xs, 0, h, h' => by
    have e1 : takeO l 0 = some [] := by cases l <;> rfl
    rw [e1] at h'; cases h'
    exact ⟨[], by cases xs <;> rfl, rfl⟩
  | [], m, xs, k + 1, h, h' => by cases h'
  | u :: l, m, xs, k + 1, h, h' => by
    obtain ⟨y, zs, h1, h2, rfl⟩ := denL_cons h
    simp only [takeO] at h'
    cases e : takeO l k with
    | none => rw [e] at h'; cases h'
    | some r =>
      rw [e] at h'; cases h'
      obtain ⟨ys, g1, g2⟩ := denL_take h2 e
      exact ⟨y :: ys, by simp only [takeO, g1], denL_mk h1 g2⟩
theorem denL_splice {ρ : Rn} : ∀ {l m r : List VV} {xs ys : List Value} {k : Nat}, denL ρ l = some xs → denL ρ m = some ys → spliceO l k m = some r → ∃ zs, spliceO xs k ys = some zs ∧ denL ρ r = some zs := by
  intro l
  induction l with
  | nil =>
    intro m r xs ys k h hm h'
    cases h
    cases k with
    | zero => cases m with
      | nil => cases hm; cases h'; exact ⟨[], rfl, rfl⟩
      | cons v m => cases h'
    | succ k => cases h'
  | cons u l ih =>
    intro m r xs ys k h hm h'
    obtain ⟨y, zs, h1, h2, rfl⟩ := denL_cons h
    cases k with
    | zero => cases m with
      | nil => cases hm; cases h'; exact ⟨y :: zs, rfl, h⟩
      | cons v m =>
        obtain ⟨w, ws, g1, g2, rfl⟩ := denL_cons hm
        simp only [spliceO] at h'
        cases e : spliceO l 0 m with
        | none => rw [e] at h'; cases h'
        | some r' =>
          rw [e] at h'; cases h'
          obtain ⟨qs, q1, q2⟩ := ih h2 g2 e
          exact ⟨w :: qs, by simp only [spliceO, q1], denL_mk g1 q2⟩
    | succ k =>
      simp only [spliceO] at h'
      cases e : spliceO l k m with
      | none => rw [e] at h'; cases h'
      | some r' =>
        rw [e] at h'; cases h'
        obtain ⟨qs, q1, q2⟩ := ih h2 hm e
        exact ⟨y :: qs, by simp only [spliceO, q1], denL_mk h1 q2⟩
def lits : List Value → List VV
  | [] => []
  | v :: l => .lit v :: lits l
theorem denL_lits {ρ : Rn} : ∀ (l : List Value), denL ρ (lits l) = some l
  | [] => rfl
  | v :: l => denL_mk rfl (denL_lits l)

/-- The cells of a value. -/
def cellsV : VV → List VV
  | .agg l => l
  | .lit (.agg ⟨l⟩) => lits l
  | v => [v]
theorem cellsV_den {ρ : Rn} {v : VV} {x : Value} (h : den ρ v = some x) : ∃ xs, cellsO x = some xs ∧ denL ρ (cellsV v) = some xs := by
  cases v with
  | lit v =>
    cases h
    cases x with
    | agg l => obtain ⟨l⟩ := l; exact ⟨l, rfl, denL_lits l⟩
    | _ => exact ⟨_, rfl, rfl⟩
  | agg l =>
    simp only [den] at h
    cases hl : denL ρ l with
    | none => rw [hl] at h; cases h
    | some xs => rw [hl] at h; cases h; exact ⟨xs, rfl, hl⟩
  | ptr b off =>
    have h' := h
    simp only [den] at h; split at h <;> cases h
    exact ⟨_, rfl, denL_mk h' rfl⟩
  | slc b off len c =>
    have h' := h
    simp only [den] at h
    split at h
    · split at h <;> cases h
      exact ⟨_, rfl, denL_mk h' rfl⟩
    · cases h
  | tup l =>
    have h' := h
    simp only [den] at h; split at h <;> cases h
    exact ⟨_, rfl, denL_mk h' rfl⟩
  | fn f a c =>
    have h' := h
    simp only [den] at h; split at h <;> cases h
    exact ⟨_, rfl, denL_mk h' rfl⟩
  | ifc t v =>
    have h' := h
    simp only [den] at h; split at h <;> cases h
    exact ⟨_, rfl, denL_mk h' rfl⟩
  | mp b =>
    have h' := h
    simp only [den] at h; split at h <;> cases h
    exact ⟨_, rfl, denL_mk h' rfl⟩
  | tl b off d m sz =>
    have h' := h
    simp only [den] at h
    split at h
    · split at h <;> cases h
      exact ⟨_, rfl, denL_mk h' rfl⟩
    · cases h
  | yl b =>
    have h' := h
    simp only [den] at h; split at h <;> cases h
    exact ⟨_, rfl, denL_mk h' rfl⟩

/-! ### Environments, heaps -/
abbrev VE := List (Nat × VV)
def denEnv (ρ : Rn) : VE → Option Env
  | [] => some []
  | (k, v) :: E => match den ρ v, denEnv ρ E with | some x, some r => some ((k, x) :: r) | _, _ => none
theorem denEnv_cons {ρ : Rn} {k : Nat} {v : VV} {E : VE} {env : Env} (h : denEnv ρ ((k, v) :: E) = some env) : ∃ x r, den ρ v = some x ∧ denEnv ρ E = some r ∧ env = (k, x) :: r := by
  simp only [denEnv] at h
  cases hv : den ρ v with
  | none => rw [hv] at h; cases h
  | some x =>
    cases hl : denEnv ρ E with
    | none => rw [hv, hl] at h; cases h
    | some r => rw [hv, hl] at h; cases h; exact ⟨x, r, rfl, rfl, rfl⟩
theorem denEnv_mk {ρ : Rn} {k : Nat} {v : VV} {E : VE} {x : Value} {r : Env} (h1 : den ρ v = some x) (h2 : denEnv ρ E = some r) : denEnv ρ ((k, v) :: E) = some ((k, x) :: r) := by
  simp only [denEnv, h1, h2]
theorem denEnv_ext {ρ ρ' : Rn} (e : Ext ρ ρ') : ∀ {E : VE} {env : Env}, denEnv ρ E = some env → denEnv ρ' E = some env
  | [], env, h => h
  | (k, v) :: E, env, h => by
    obtain ⟨x, r, h1, h2, rfl⟩ := denEnv_cons h
    exact denEnv_mk (den_ext e h1) (denEnv_ext e h2)
/-- How a loop over a function stands. -/
inductive LS
  | ready
  | done (c : Code)
def LS.state : LS → LoopState
  | .ready => .ready
  | .done _ => .done
def LS.pend : LS → Option Code
  | .ready => none
  | .done c => some c
/-- What a loop over a function was begun with. -/
def RecIs (ρ : Rn) (n : Nat) (E : VE) (ps : List Nat) (asg body : Code) (r : Loop) : Prop :=
  ∃ env, denEnv ρ E = some env ∧ Has n env { tmps := r.tmps, defers := [] } ∧ r.params.toList = ps ∧ r.assign = asg ∧ r.body = body
theorem RecIs.ext {ρ ρ' : Rn} (e : Ext ρ ρ') {n : Nat} {E : VE} {ps : List Nat} {asg body : Code} {r : Loop} (h : RecIs ρ n E ps asg body r) : RecIs ρ' n E ps asg body r :=
  let ⟨env, h1, h2⟩ := h
  ⟨env, denEnv_ext e h1, h2⟩
structure ME where
  key : Value
  val : VV
  born : Nat
inductive VO
  | cells (l : List VV) (T : TypeId)
  | map (es : List ME) (clock : Nat)
  | tab (es : List (Value × VV))
  | loop (n : Nat) (E : VE) (ps : List Nat) (asg body : Code) (st : LS)
def denE (ρ : Rn) : List ME → Option (List MapEntry)
  | [] => some []
  | e :: l => match den ρ e.val, denE ρ l with | some x, some r => some ({ key := e.key, val := x, born := e.born } :: r) | _, _ => none
/-- The entries of a table: in whatever order they lie. -/
def denT (ρ : Rn) : List (Value × VV) → Option (List (Value × Value))
  | [] => some []
  | (k, v) :: l => match den ρ v, denT ρ l with | some x, some r => some ((k, x) :: r) | _, _ => none
theorem denT_ext {ρ ρ' : Rn} (e : Ext ρ ρ') : ∀ {l : List (Value × VV)} {r : List (Value × Value)}, denT ρ l = some r → denT ρ' l = some r
  | [], r, h => h
  | (k, v) :: l, r, h => by
    simp only [denT] at h ⊢
    cases hv : den ρ v with
    | none => rw [hv] at h; cases h
    | some x =>
      cases hl : denT ρ l with
      | none => rw [hv, hl] at h; cases h
      | some r' => rw [hv, hl] at h; rw [den_ext e hv, denT_ext e hl]; exact h
open Classical in
def denO (ρ : Rn) (i : BI) : VO → Option Obj
  | .cells l T => match denL ρ l with
    | some xs => match Nat.ble (i.cap * i.sz) (xs.length + i.post.length) with
      | true => some (.cells ⟨i.pre ++ xs ++ i.post⟩ T (0, 0))
      | false => none
    | none => none
  | .map es c => match denE ρ es with | some r => some (.map ⟨r⟩ c) | none => none
  | .tab es => if ∃ r, denT ρ es = some r ∧ (i.ents.map fun e => (e.key, e.val)).Perm r then some (.map ⟨i.ents⟩ i.clk) else none
  | .loop n E ps asg body st => match i.lp with
    | some r => if RecIs ρ n E ps asg body r then some (.loop { r with state := st.state, pending := st.pend }) else none
    | none => none
abbrev VH := List (Nat × VO)
def denH (ρ : Rn) : VH → Option (List Heap)
  | [] => some []
  | (b, o) :: H => match ρ b with
    | some i => match denO ρ i o, denH ρ H with | some ob, some hs => some (blk i.blk ob :: hs) | _, _ => none
    | none => none
theorem denO_cells {ρ : Rn} {i : BI} {l : List VV} {T : TypeId} {ob : Obj} (h : denO ρ i (.cells l T) = some ob) :
    ∃ xs, denL ρ l = some xs ∧ i.cap * i.sz ≤ xs.length + i.post.length ∧ ob = .cells ⟨i.pre ++ xs ++ i.post⟩ T (0, 0) := by
  simp only [denO] at h
  split at h
  · rename_i xs hl
    split at h
    · rename_i hb; cases h; exact ⟨xs, hl, Nat.le_of_ble_eq_true hb, rfl⟩
    · cases h
  · cases h
theorem denO_cells_mk {ρ : Rn} {i : BI} {l : List VV} {T : TypeId} {xs : List Value} (h : denL ρ l = some xs) (hc : i.cap * i.sz ≤ xs.length + i.post.length) : denO ρ i (.cells l T) = some (.cells ⟨i.pre ++ xs ++ i.post⟩ T (0, 0)) := by
  simp only [denO, h, Nat.ble_eq_true_of_le hc]
theorem denE_ext {ρ ρ' : Rn} (e : Ext ρ ρ') : ∀ {l : List ME} {r : List MapEntry}, denE ρ l = some r → denE ρ' l = some r
  | [], r, h => h
  | m :: l, r, h => by
    simp only [denE] at h ⊢
    cases hv : den ρ m.val with
    | none => rw [hv] at h; cases h
    | some x =>
      cases hl : denE ρ l with
      | none => rw [hv, hl] at h; cases h
      | some r' => rw [hv, hl] at h; rw [den_ext e hv, denE_ext e hl]; exact h
theorem denO_ext {ρ ρ' : Rn} (e : Ext ρ ρ') {i : BI} {o : VO} {ob : Obj} (h : denO ρ i o = some ob) : denO ρ' i o = some ob := by
  cases o with
  | cells l T =>
    simp only [denO] at h ⊢
    cases hl : denL ρ l with
    | none => rw [hl] at h; cases h
    | some xs => rw [hl] at h; rw [denL_ext e hl]; exact h
  | map es c =>
    simp only [denO] at h ⊢
    cases hl : denE ρ es with
    | none => rw [hl] at h; cases h
    | some r => rw [hl] at h; rw [denE_ext e hl]; exact h
  | tab es =>
    simp only [denO] at h ⊢
    split at h
    · rename_i hr
      obtain ⟨r, h1, h2⟩ := hr
      rw [if_pos ⟨r, denT_ext e h1, h2⟩]; exact h
    · cases h
  | loop n E ps asg body st =>
    simp only [denO] at h ⊢
    split at h
    · split at h
      · rename_i hr
        rw [if_pos (hr.ext e)]; exact h
      · cases h
    · cases h
theorem denO_loop {ρ : Rn} {i : BI} {n : Nat} {E : VE} {ps : List Nat} {asg body : Code} {st : LS} {ob : Obj} (h : denO ρ i (.loop n E ps asg body st) = some ob) :
    ∃ r, i.lp = some r ∧ RecIs ρ n E ps asg body r ∧ ob = .loop { r with state := st.state, pending := st.pend } := by
  simp only [denO] at h
  split at h
  · rename_i r hr
    split at h
    · rename_i hc; cases h; exact ⟨r, hr, hc, rfl⟩
    · cases h
  · cases h
theorem denO_loop_mk {ρ : Rn} {i : BI} {n : Nat} {E : VE} {ps : List Nat} {asg body : Code} {st : LS} {r : Loop} (h1 : i.lp = some r) (h2 : RecIs ρ n E ps asg body r) :
    denO ρ i (.loop n E ps asg body st) = some (.loop { r with state := st.state, pending := st.pend }) := by
  simp only [denO, h1]; rw [if_pos h2]
theorem denO_tab {ρ : Rn} {i : BI} {es : List (Value × VV)} {ob : Obj} (h : denO ρ i (.tab es) = some ob) : ∃ r, denT ρ es = some r ∧ (i.ents.map fun e => (e.key, e.val)).Perm r ∧ ob = .map ⟨i.ents⟩ i.clk := by
  simp only [denO] at h
  split at h
  · rename_i hr; obtain ⟨r, h1, h2⟩ := hr; cases h; exact ⟨r, h1, h2, rfl⟩
  · cases h
theorem denO_tab_mk {ρ : Rn} {i : BI} {es : List (Value × VV)} {r : List (Value × Value)} (h1 : denT ρ es = some r) (h2 : (i.ents.map fun e => (e.key, e.val)).Perm r) : denO ρ i (.tab es) = some (.map ⟨i.ents⟩ i.clk) := by
  simp only [denO]; rw [if_pos ⟨r, h1, h2⟩]
theorem denH_cons {ρ : Rn} {b : Nat} {o : VO} {H : VH} {own : List Heap} (h : denH ρ ((b, o) :: H) = some own) : ∃ i ob hs, ρ b = some i ∧ denO ρ i o = some ob ∧ denH ρ H = some hs ∧ own = blk i.blk ob :: hs := by
  simp only [denH] at h
  cases hb : ρ b with
  | none => rw [hb] at h; cases h
  | some i =>
    rw [hb] at h
    simp only at h
    cases ho : denO ρ i o with
    | none => rw [ho] at h; cases h
    | some ob =>
      cases hh : denH ρ H with
      | none => rw [ho, hh] at h; cases h
      | some hs => rw [ho, hh] at h; cases h; exact ⟨i, ob, hs, rfl, ho, rfl, rfl⟩
theorem denH_mk {ρ : Rn} {b : Nat} {o : VO} {H : VH} {i : BI} {ob : Obj} {hs : List Heap} (h1 : ρ b = some i) (h2 : denO ρ i o = some ob) (h3 : denH ρ H = some hs) : denH ρ ((b, o) :: H) = some (blk i.blk ob :: hs) := by
  simp only [denH, h1, h2, h3]
theorem denH_ext {ρ ρ' : Rn} (e : Ext ρ ρ') : ∀ {H : VH} {own : List Heap}, denH ρ H = some own → denH ρ' H = some own
  | [], own, h => h
  | (b, o) :: H, own, h => by
    obtain ⟨i, ob, hs, h1, h2, h3, rfl⟩ := denH_cons h
    exact denH_mk (e b i h1) (denO_ext e h2) (denH_ext e h3)
def getHS : VH → Nat → Option VO
  | [], _ => none
  | (b, o) :: H, k => match Nat.beq b k with
    | true => some o
    | false => getHS H k
def getH (H : VH) (k : Nat) : Option VO := List.rec (motive := fun _ => Option VO) none (fun p _ ih => Bool.rec (motive := fun _ => Option VO) ih (some p.2) (Nat.beq p.1 k)) H
theorem getH_cons {b : Nat} {o : VO} {H : VH} {k : Nat} : getH ((b, o) :: H) k = match Nat.beq b k with
    | true => some o
    | false => getH H k := by
  show Bool.rec (motive := fun _ => Option VO) (getH H k) (some o) (Nat.beq b k) = _
  cases Nat.beq b k <;> rfl
theorem getH_den {ρ : Rn} : ∀ {H : VH} {own : List Heap} {b : Nat} {o : VO}, denH ρ H = some own → getH H b = some o → ∃ i ob, ρ b = some i ∧ denO ρ i o = some ob ∧ blk i.blk ob ∈ own
  | [], own, b, o, h, hg => by cases hg
  | (c, u) :: H, own, b, o, h, hg => by
    obtain ⟨i, ob, hs, h1, h2, h3, rfl⟩ := denH_cons h
    simp only [getH_cons] at hg
    cases hb : Nat.beq c b with
    | true =>
      rw [hb] at hg; cases hg
      have := Nat.eq_of_beq_eq_true hb; subst this
      exact ⟨i, ob, h1, h2, List.mem_cons_self ..⟩
    | false =>
      rw [hb] at hg
      obtain ⟨j, ob', g1, g2, g3⟩ := getH_den h3 hg
      exact ⟨j, ob', g1, g2, List.mem_cons_of_mem _ g3⟩
/-- A block that turns; the other ones stay. -/
def consO {α : Type} (x : α) : Option (List α) → Option (List α)
  | some l => some (x :: l)
  | none => none
def setHS : VH → Nat → VO → Option VH
  | [], _, _ => none
  | (b, o) :: H, k, u => match Nat.beq b k with
    | true => some ((b, u) :: H)
    | false => consO (b, o) (setHS H k u)
def setH (H : VH) (k : Nat) (u : VO) : Option VH := List.rec (motive := fun _ => Option VH) none (fun p H ih => Bool.rec (motive := fun _ => Option VH) (consO p ih) (some ((p.1, u) :: H)) (Nat.beq p.1 k)) H
theorem setH_cons {b : Nat} {o u : VO} {H : VH} {k : Nat} : setH ((b, o) :: H) k u = match Nat.beq b k with
    | true => some ((b, u) :: H)
    | false => match setH H k u with
      | some H' => some ((b, o) :: H')
      | none => none := by
  show Bool.rec (motive := fun _ => Option VH) (consO (b, o) (setH H k u)) (some ((b, u) :: H)) (Nat.beq b k) = _
  cases Nat.beq b k
  · show consO (b, o) (setH H k u) = _
    cases setH H k u <;> rfl
  · rfl
theorem setH_den {ρ : Rn} : ∀ {H H' : VH} {own : List Heap} {b : Nat} {o u : VO} {i : BI} {ob ub : Obj}, denH ρ H = some own → getH H b = some o → setH H b u = some H' → ρ b = some i → denO ρ i o = some ob → denO ρ i u = some ub →
    ∃ own' rest, denH ρ H' = some own' ∧ own.Perm (blk i.blk ob :: rest) ∧ own'.Perm (blk i.blk ub :: rest)
  | [], H', own, b, o, u, i, ob, ub, h, hg, _, _, _, _ => by cases hg
  | (c, x) :: H, H', own, b, o, u, i, ob, ub, h, hg, hs, hi, ho, hu => by
    obtain ⟨j, xb, hh, h1, h2, h3, rfl⟩ := denH_cons h
    simp only [getH_cons] at hg
    simp only [setH_cons] at hs
    cases hb : Nat.beq c b with
    | true =>
      rw [hb] at hg hs; cases hg; cases hs
      have := Nat.eq_of_beq_eq_true hb; subst this
      rw [hi] at h1; cases h1
      rw [ho] at h2; cases h2
      exact ⟨_, hh, denH_mk hi hu h3, List.Perm.refl _, List.Perm.refl _⟩
    | false =>
      rw [hb] at hg hs
      simp only at hs
      cases e : setH H b u with
      | none => rw [e] at hs; cases hs
      | some H2 =>
        rw [e] at hs; cases hs
        obtain ⟨own', rest, g1, g2, g3⟩ := setH_den h3 hg e hi ho hu
        exact ⟨_, blk j.blk xb :: rest, denH_mk h1 h2 g1, (g2.cons _).trans (List.Perm.swap _ _ _), (g3.cons _).trans (List.Perm.swap _ _ _)⟩
/-- A block that is taken away. -/
def delH : VH → Nat → VH
  | [], _ => []
  | (b, o) :: H, k => match Nat.beq b k with
    | true => H
    | false => (b, o) :: delH H k
theorem delH_den {ρ : Rn} : ∀ {H : VH} {own : List Heap} {b : Nat} {o : VO} {i : BI} {ob : Obj}, denH ρ H = some own → getH H b = some o → ρ b = some i → denO ρ i o = some ob →
    ∃ rest, denH ρ (delH H b) = some rest ∧ own.Perm (blk i.blk ob :: rest)
  | [], own, b, o, i, ob, h, hg, _, _ => by cases hg
  | (c, x) :: H, own, b, o, i, ob, h, hg, hi, ho => by
    obtain ⟨j, xb, hh, h1, h2, h3, rfl⟩ := denH_cons h
    simp only [getH_cons] at hg
    simp only [delH]
    cases hb : Nat.beq c b with
    | true =>
      rw [hb] at hg; cases hg
      have := Nat.eq_of_beq_eq_true hb; subst this
      rw [hi] at h1; cases h1
      rw [ho] at h2; cases h2
      exact ⟨hh, h3, List.Perm.refl _⟩
    | false =>
      rw [hb] at hg
      obtain ⟨rest, g1, g2⟩ := delH_den h3 hg hi ho
      exact ⟨blk j.blk xb :: rest, denH_mk h1 h2 g1, (g2.cons _).trans (List.Perm.swap _ _ _)⟩

/-! ### Numbers worked out, ahead of what is done with them -/
def fN {α : Type} (n : Nat) (k : Nat → α) : α := match n with
  | 0 => k 0
  | m + 1 => k (m + 1)
theorem fN_eq {α : Type} (n : Nat) (k : Nat → α) : fN n k = k n := by cases n <;> rfl
def fI {α : Type} (z : Int) (k : Int → α) : α := match z with
  | .ofNat n => fN n fun n => k (.ofNat n)
  | .negSucc n => fN n fun n => k (.negSucc n)
theorem fI_eq {α : Type} (z : Int) (k : Int → α) : fI z k = k z := by cases z <;> simp only [fI, fN_eq]
def fB {α : Type} (b : Bool) (k : Bool → α) : α := match b with
  | true => k true
  | false => k false
theorem fB_eq {α : Type} (b : Bool) (k : Bool → α) : fB b k = k b := by cases b <;> rfl
def fVal {α : Type} (v : Value) (k : Value → α) : α := match v with
  | .int t n => fI n fun n => k (.int t n)
  | .bool b => fB b fun b => k (.bool b)
  | v => k v
theorem fVal_eq {α : Type} (v : Value) (k : Value → α) : fVal v k = k v := by cases v <;> simp only [fVal, fI_eq, fB_eq]
def fCap {α : Type} (c : Cap) (k : Cap → α) : α := match c with
  | .k n => fN n fun n => k (.k n)
  | .o m l s => fN m fun m => fN l fun l => k (.o m l s)
theorem fCap_eq {α : Type} (c : Cap) (k : Cap → α) : fCap c k = k c := by cases c <;> simp only [fCap, fN_eq]
mutual
def fVV {α : Type} : VV → (VV → α) → α
  | .lit v, k => fVal v fun v => k (.lit v)
  | .ptr b o, k => fN b fun b => fN o fun o => k (.ptr b o)
  | .slc b o l c, k => fN b fun b => fN o fun o => fN l fun l => fCap c fun c => k (.slc b o l c)
  | .agg l, k => fVVs l fun l => k (.agg l)
  | .tup l, k => fVVs l fun l => k (.tup l)
  | .mp b, k => fN b fun b => k (.mp b)
  | .tl b off d m sz, k => fN b fun b => fN off fun off => fN d fun d => fN m fun m => k (.tl b off d m sz)
  | .yl b, k => fN b fun b => k (.yl b)
  | .fn f a c, k => fVVs a fun a => fVVs c fun c => k (.fn f a c)
  | .ifc t v, k => fVV v fun v => k (.ifc t v)
def fVVs {α : Type} : List VV → (List VV → α) → α
  | [], k => k []
  | v :: l, k => fVV v fun v => fVVs l fun l => k (v :: l)
end
mutual
theorem fVV_eq {α : Type} : ∀ (v : VV) (k : VV → α), fVV v k = k v
  | .lit v, k => by simp only [fVV, fVal_eq]
  | .ptr b o, k => by simp only [fVV, fN_eq]
  | .slc b o l c, k => by simp only [fVV, fN_eq, fCap_eq]
  | .agg l, k => by simp only [fVV, fVVs_eq]
  | .tup l, k => by simp only [fVV, fVVs_eq]
  | .mp b, k => by simp only [fVV, fN_eq]
  | .tl b off d m sz, k => by simp only [fVV, fN_eq]
  | .yl b, k => by simp only [fVV, fN_eq]
  | .fn f a c, k => by simp only [fVV, fVVs_eq]
  | .ifc t v, k => by simp only [fVV, fVV_eq v]
theorem fVVs_eq {α : Type} : ∀ (l : List VV) (k : List VV → α), fVVs l k = k l
  | [], k => rfl
  | v :: l, k => by simp only [fVVs, fVV_eq v, fVVs_eq l]
end

/-! ### Lists, quick -/
def nthF {α : Type} (l : List α) : Nat → Option α := List.rec (motive := fun _ => Nat → Option α) (fun _ => none) (fun x _ ih k => Nat.rec (motive := fun _ => Option α) (some x) (fun k _ => ih k) k) l
theorem nthF_eq {α : Type} : ∀ (l : List α) (k : Nat), nthF l k = nth l k
  | [], _ => rfl
  | _ :: _, 0 => rfl
  | _ :: l, k + 1 => nthF_eq l k
def dropS {α : Type} (k : Nat) (l : List α) : Option (List α) := dropO l k
def dropF {α : Type} (k : Nat) : List α → Option (List α) := Nat.rec (motive := fun _ => List α → Option (List α)) (fun l => some l) (fun _ ih l => List.rec (motive := fun _ => Option (List α)) none (fun _ r _ => ih r) l) k
theorem dropF_eq {α : Type} : ∀ (l : List α) (k : Nat), dropF k l = dropO l k
  | l, 0 => by cases l <;> rfl
  | [], _ + 1 => rfl
  | _ :: l, k + 1 => dropF_eq l k
def takeS {α : Type} (k : Nat) (l : List α) : Option (List α) := takeO l k
def takeF {α : Type} (k : Nat) : List α → Option (List α) := Nat.rec (motive := fun _ => List α → Option (List α)) (fun _ => some []) (fun _ ih l => List.rec (motive := fun _ => Option (List α)) none (fun x r _ => consO x (ih r)) l) k
theorem takeF_eq {α : Type} : ∀ (l : List α) (k : Nat), takeF k l = takeO l k
  | l, 0 => by cases l <;> rfl
  | [], _ + 1 => rfl
  | x :: l, k + 1 => by
    show consO x (takeF k l) = _
    rw [takeF_eq l k]
    simp only [takeO]
    cases takeO l k <;> rfl

/-! ### Looks -/
def lookVS : VE → Nat → Option VV
  | [], _ => none
  | (j, v) :: r, i => match Nat.beq j i with
    | true => some v
    | false => lookVS r i
def lookV (E : VE) (i : Nat) : Option VV := List.rec (motive := fun _ => Option VV) none (fun p _ ih => Bool.rec (motive := fun _ => Option VV) ih (some p.2) (Nat.beq p.1 i)) E
theorem lookV_cons {j i : Nat} {v : VV} {r : VE} : lookV ((j, v) :: r) i = match Nat.beq j i with
    | true => some v
    | false => lookV r i := by
  show Bool.rec (motive := fun _ => Option VV) (lookV r i) (some v) (Nat.beq j i) = _
  cases Nat.beq j i <;> rfl
theorem lookV_den {ρ : Rn} : ∀ {E : VE} {env : Env} {i : Nat} {v : VV}, denEnv ρ E = some env → lookV E i = some v → ∃ x, look env i = some x ∧ den ρ v = some x
  | [], env, i, v, h, hl => by cases hl
  | (j, u) :: E, env, i, v, h, hl => by
    obtain ⟨x, r, h1, h2, rfl⟩ := denEnv_cons h
    simp only [lookV_cons] at hl
    simp only [look]
    cases hb : Nat.beq j i with
    | true => rw [hb] at hl; cases hl; exact ⟨x, rfl, h1⟩
    | false => rw [hb] at hl; exact lookV_den h2 hl
def evV (E : VE) : Operand → Option VV
  | .tmp t => lookV E t
  | .const v => some (.lit v)
  | .global g => some (.lit (.pointer (some ⟨g, 0, none⟩)))
  | .func f => some (.lit (.func (.func f) #[] #[]))
theorem evV_den {ρ : Rn} {E : VE} {env : Env} {x : Operand} {v : VV} (h : denEnv ρ E = some env) (he : evV E x = some v) : ∃ y, ev env x = some y ∧ den ρ v = some y := by
  cases x with
  | tmp t => exact lookV_den h he
  | const c => cases he; exact ⟨c, rfl, rfl⟩
  | global g => cases he; exact ⟨_, rfl, rfl⟩
  | func f => cases he; exact ⟨_, rfl, rfl⟩
def evsV (E : VE) : List Operand → Option (List VV)
  | [] => some []
  | x :: r => match evV E x with
    | some v => match evsV E r with
      | some vs => some (v :: vs)
      | none => none
    | none => none
theorem evsV_den {ρ : Rn} {E : VE} {env : Env} (h : denEnv ρ E = some env) : ∀ {l : List Operand} {vs : List VV}, evsV E l = some vs → ∃ ys, evs env l = some ys ∧ denL ρ vs = some ys
  | [], vs, he => by cases he; exact ⟨[], rfl, rfl⟩
  | x :: l, vs, he => by
    simp only [evsV] at he
    cases hv : evV E x with
    | none => rw [hv] at he; cases he
    | some v =>
      rw [hv] at he
      simp only at he
      cases hl : evsV E l with
      | none => rw [hl] at he; cases he
      | some us =>
        rw [hl] at he; cases he
        obtain ⟨y, g1, g2⟩ := evV_den h hv
        obtain ⟨ys, g3, g4⟩ := evsV_den h hl
        exact ⟨y :: ys, by simp only [evs, g1, g3], denL_mk g2 g4⟩
/-- The environment without what is shadowed. -/
def hasKS : List Nat → Nat → Bool
  | [], _ => false
  | j :: r, i => Nat.beq j i || hasKS r i
def hasK (l : List Nat) (i : Nat) : Bool := List.rec (motive := fun _ => Bool) false (fun j _ ih => Bool.rec (motive := fun _ => Bool) ih true (Nat.beq j i)) l
def tidy : List Nat → VE → VE
  | _, [] => []
  | seen, (k, v) :: E => match hasK seen k with
    | true => tidy seen E
    | false => (k, v) :: tidy (k :: seen) E
theorem hasK_cons {s : List Nat} {i j : Nat} : hasK (j :: s) i = (Nat.beq j i || hasK s i) := by
  show Bool.rec (motive := fun _ => Bool) (hasK s i) true (Nat.beq j i) = _
  cases Nat.beq j i <;> rfl
theorem tidy_den {ρ : Rn} : ∀ {E : VE} {env : Env} (seen : List Nat), denEnv ρ E = some env → ∃ env', denEnv ρ (tidy seen E) = some env' ∧ ∀ p ∈ env', hasK seen p.1 = false ∧ look env p.1 = some p.2
  | [], env, seen, h => by cases h; exact ⟨[], rfl, fun p hp => by cases hp⟩
  | (k, v) :: E, env, seen, h => by
    obtain ⟨x, r, h1, h2, rfl⟩ := denEnv_cons h
    simp only [tidy]
    cases hk : hasK seen k with
    | true =>
      obtain ⟨env', g1, g2⟩ := tidy_den seen h2
      refine ⟨env', g1, fun p hp => ?_⟩
      obtain ⟨q1, q2⟩ := g2 p hp
      refine ⟨q1, ?_⟩
      rw [look_cons_ne _ _ (fun e => by rw [← e, hk] at q1; cases q1)]; exact q2
    | false =>
      obtain ⟨env', g1, g2⟩ := tidy_den (k :: seen) h2
      refine ⟨(k, x) :: env', denEnv_mk h1 g1, fun p hp => ?_⟩
      rcases List.mem_cons.1 hp with rfl | hp
      · exact ⟨hk, look_cons_self ..⟩
      · obtain ⟨q1, q2⟩ := g2 p hp
        rw [hasK_cons, Bool.or_eq_false_iff] at q1
        refine ⟨q1.2, ?_⟩
        rw [look_cons_ne _ _ (fun e => by rw [e] at q1; simp at q1)]; exact q2
def tidyK {α : Type} : List Nat → VE → (VE → α) → α
  | _, [], k => k []
  | seen, (j, v) :: E, k => match hasK seen j with
    | true => tidyK seen E k
    | false => tidyK (j :: seen) E fun E' => k ((j, v) :: E')
theorem tidyK_eq {α : Type} : ∀ (E : VE) (seen : List Nat) (k : VE → α), tidyK seen E k = k (tidy seen E)
  | [], seen, k => rfl
  | (j, v) :: E, seen, k => by
    simp only [tidyK, tidy]
    cases hasK seen j <;> simp only [tidyK_eq E]
def appK {α : Type} : VH → VH → (VH → α) → α
  | [], H', k => k H'
  | x :: H, H', k => appK H H' fun r => k (x :: r)
theorem appK_eq {α : Type} : ∀ (H H' : VH) (k : VH → α), appK H H' k = k (H ++ H')
  | [], H', k => rfl
  | x :: H, H', k => by simp only [appK, appK_eq H, List.cons_append]
theorem tidy_sub {ρ : Rn} {E : VE} {env : Env} (h : denEnv ρ E = some env) : ∃ env', denEnv ρ (tidy [] E) = some env' ∧ Sub env' env := by
  obtain ⟨env', g1, g2⟩ := tidy_den [] h
  exact ⟨env', g1, fun p hp => (g2 p hp).2⟩
end
end Go.SL
