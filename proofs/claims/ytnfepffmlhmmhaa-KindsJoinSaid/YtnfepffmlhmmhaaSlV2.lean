/- Closed calls, run by the kernel: operations that look at memory, at most. -/
import Derived.Test.YtnfepffmlhmmhaaSlV1
set_option linter.unusedVariables false
namespace Go.SL
noncomputable section

/-! ### Operations without blocks: the model itself is run -/
def pureP (P : Program) {α : Type} : Sem α → Option α
  | .pure a => some a
  | .program k => pureP P (k P)
  | .mark _ k => pureP P k
  | .choose q k => match q.forced with
    | true => pureP P (k 0)
    | false => none
  | _ => none
theorem pureP_run {P : Program} {α : Type} : ∀ {e : Sem α} {r : α}, pureP P e = some r → ∀ w, e.run P w = .ok r w := by
  intro e
  induction e with
  | pure a => intro r h w; cases h; rfl
  | program k ih => intro r h w; exact ih P h w
  | mark m k ih => intro r h w; exact ih h w
  | choose q k ih =>
    intro r h w
    simp only [pureP] at h
    cases hq : q.forced with
    | false => rw [hq] at h; cases h
    | true =>
      rw [hq] at h
      simp only [Sem.run, hq, if_true]
      exact ih 0 h w
  | _ => intro r h; cases h

mutual
def toLit : VV → Option Value
  | .lit v => some v
  | .agg l => match toLits l with | some xs => some (.agg ⟨xs⟩) | none => none
  | .tup l => match toLits l with | some xs => some (.tuple ⟨xs⟩) | none => none
  | .ifc t v => match toLit v with | some x => some (.iface t x) | none => none
  | _ => none
def toLits : List VV → Option (List Value)
  | [] => some []
  | v :: l => match toLit v with
    | some x => match toLits l with
      | some xs => some (x :: xs)
      | none => none
    | none => none
end
mutual
theorem toLit_den {ρ : Rn} : ∀ {v : VV} {x : Value}, toLit v = some x → den ρ v = some x
  | .lit v, x, h => h
  | .agg l, x, h => by
    simp only [toLit] at h
    cases hl : toLits l with
    | none => rw [hl] at h; cases h
    | some xs => rw [hl] at h; cases h; simp only [den, toLits_den hl]
  | .tup l, x, h => by
    simp only [toLit] at h
    cases hl : toLits l with
    | none => rw [hl] at h; cases h
    | some xs => rw [hl] at h; cases h; simp only [den, toLits_den hl]
  | .ifc t v, x, h => by
    simp only [toLit] at h
    cases hl : toLit v with
    | none => rw [hl] at h; cases h
    | some xs => rw [hl] at h; cases h; simp only [den, toLit_den hl]
  | .ptr b off, x, h => by cases h
  | .slc b off len c, x, h => by cases h
  | .fn f a c, x, h => by cases h
  | .mp b, x, h => by cases h
theorem toLits_den {ρ : Rn} : ∀ {l : List VV} {xs : List Value}, toLits l = some xs → denL ρ l = some xs
  | [], xs, h => by cases h; rfl
  | v :: l, xs, h => by
    simp only [toLits] at h
    cases hv : toLit v with
    | none => rw [hv] at h; cases h
    | some x =>
      rw [hv] at h
      simp only at h
      cases hl : toLits l with
      | none => rw [hl] at h; cases h
      | some ys => rw [hl] at h; cases h; exact denL_mk (toLit_den hv) (toLits_den hl)
end
def litOf (E : VE) (x : Operand) : Option Value := match evV E x with
  | some v => toLit v
  | none => none
def litEv (E : VE) (x : Operand) : Value := match litOf E x with
  | some v => v
  | none => undef
def allLit (E : VE) : List Operand → Bool
  | [] => true
  | x :: r => match litOf E x with
    | some _ => allLit E r
    | none => false
theorem allLit_mem {E : VE} : ∀ {l : List Operand}, allLit E l = true → ∀ x ∈ l, ∃ v, litOf E x = some v
  | [], _, x, hx => by cases hx
  | y :: l, h, x, hx => by
    simp only [allLit] at h
    cases hy : litOf E y with
    | none => rw [hy] at h; cases h
    | some v =>
      rw [hy] at h
      rcases List.mem_cons.1 hx with rfl | hx
      · exact ⟨v, hy⟩
      · exact allLit_mem h x hx
theorem litEv_eval {ρ : Rn} {E : VE} {env : Env} {n : Nat} {a : Act} (h : denEnv ρ E = some env) (ha : Has n env a) {x : Operand} {v : Value} (hx : litOf E x = some v) : a.eval x = litEv E x := by
  simp only [litEv, hx]
  unfold litOf at hx
  cases hv : evV E x with
  | none => rw [hv] at hx; cases hx
  | some u =>
    rw [hv] at hx
    obtain ⟨y, g1, g2⟩ := evV_den h hv
    have := toLit_den (ρ := ρ) hx
    rw [g2] at this; cases this
    exact ha.eval g1
def evPure (P : Program) (E : VE) (o : Oper) : Option VV := match plainOp o.op with
  | true => match allLit E o.op.operands.toList with
    | true => match pureP P (execOp (litEv E) o) with
      | some (.value v) => some (.lit v)
      | _ => none
    | false => none
  | false => none
theorem evPure_ok {P : Program} {ρ : Rn} {E : VE} {env : Env} {o : Oper} {v : VV} {hs : List Heap} {n : Nat} (he : denEnv ρ E = some env) (h : evPure P E o = some v) : ∃ x, den ρ v = some x ∧ OpV P hs n o env x := by
  unfold evPure at h
  split at h
  · rename_i hp
    split at h
    · rename_i hl
      split at h
      · rename_i x hx
        cases h
        refine ⟨x, rfl, opv_run hp fun a w ha => ?_⟩
        have := pureP_run hx w
        rw [execOp_congr o (fun cs b e => by rw [e] at hp; cases hp) fun y hy => ?_]
        · exact this
        · obtain ⟨u, hu⟩ := allLit_mem hl y (by simpa using hy)
          exact litEv_eval he ha hu
      · cases h
    · cases h
  · cases h

/-! ### Types -/
theorem ty_of {P : Program} {t : TypeId} {d : TypeDesc} {i : TypeInfo} {z : Value} (h1 : P.underlying t = some d) (h2 : P.info? t = some i) (h3 : i.zero = some z) : Ty P t d z i :=
  ⟨h1, fun w => by simp [zeroValue, run_info h2, h3], h2⟩
/-- How many cells; whether one value is several. -/
def sizeV (P : Program) (t : TypeId) : Option Nat := match P.info? t with
  | some i => some i.size
  | none => none
theorem sizeV_ok {P : Program} {t : TypeId} {s : Nat} (h : sizeV P t = some s) : ∀ w, (sizeOf t).run P w = .ok s w := by
  unfold sizeV at h
  split at h
  · rename_i i hi; cases h; exact fun w => run_size hi w
  · cases h
def aggV (P : Program) (t : TypeId) : Option Bool := match P.underlying t with
  | some d => some (aggD d)
  | none => none
theorem aggV_ok {P : Program} {t : TypeId} {s : Bool} (h : aggV P t = some s) : ∀ w, (isAgg t).run P w = .ok s w := by
  unfold aggV at h
  split at h
  · rename_i i hi; cases h; exact fun w => run_agg hi w
  · cases h

/-! ### Memory looked at -/
/-- A value of a type, out of cells. -/
def aggO : Option (List VV) → Option VV
  | some r => some (.agg r)
  | none => none
def takeQ (s : Nat) : Option (List VV) → Option (List VV)
  | some m => takeF s m
  | none => none
def partA (P : Program) (t : TypeId) (l : List VV) (off : Nat) : Option VV := match sizeV P t with
  | some s => aggO (takeQ s (dropF off l))
  | none => none
def partV (P : Program) (t : TypeId) (l : List VV) (off : Nat) : Option VV := match aggV P t with
  | some true => partA P t l off
  | some false => nthF l off
  | none => none
theorem partV_eq {P : Program} {t : TypeId} {l : List VV} {off : Nat} : partV P t l off = match aggV P t with
  | some true => match sizeV P t with
    | some s => match dropO l off with
      | some m => match takeO m s with
        | some r => some (.agg r)
        | none => none
      | none => none
    | none => none
  | some false => nth l off
  | none => none := by
  unfold partV partA
  cases aggV P t with
  | none => rfl
  | some b =>
    cases b with
    | false => exact nthF_eq l off
    | true =>
      simp only []
      cases sizeV P t with
      | none => rfl
      | some s =>
        simp only [dropF_eq]
        cases dropO l off with
        | none => rfl
        | some m =>
          simp only [takeQ, takeF_eq]
          cases takeO m s <;> rfl
def loadV (P : Program) (H : VH) (t : TypeId) (b off : Nat) : Option VV := match getH H b with
  | some (.cells l _) => partV P t l off
  | _ => none
theorem pre_nth {p xs q : List Value} {k : Nat} {x : Value} (h : nth xs k = some x) : (p ++ xs ++ q)[p.length + k]? = some x := by
  rw [nth_eq] at h
  have hlt := (List.getElem?_eq_some_iff.1 h).1
  rw [List.append_assoc, List.getElem?_append_right (by omega), Nat.add_sub_cancel_left, List.getElem?_append_left hlt]; exact h
theorem loadV_ok {P : Program} {ρ : Rn} {H : VH} {own hs : List Heap} {t : TypeId} {b off : Nat} {v : VV} {i : BI} (hH : denH ρ H = some own) (hsub : ∀ h ∈ own, h ∈ hs) (h : loadV P H t b off = some v) (hi : ρ b = some i) :
    ∃ x, den ρ v = some x ∧ ∀ w X, Sat (hs ++ X) w → (loadVar t (i.at off)).run P w = .ok x w := by
  unfold loadV at h
  split at h
  · rename_i l T hg
    obtain ⟨j, ob, h1, h2, h3⟩ := getH_den hH hg
    rw [hi] at h1; cases h1
    obtain ⟨xs, hl, -, rfl⟩ := denO_cells h2
    · have hb : ∀ w X, Sat (hs ++ X) w → w.heap[i.blk]? = some (.cells ⟨i.pre ++ xs ++ i.post⟩ T (0, 0)) := fun w X s => s.at (List.mem_append.2 (.inl (hsub _ h3))) (blk_self _ _)
      rw [partV_eq] at h
      split at h
      · rename_i ha
        split at h
        · rename_i s hs'
          split at h
          · rename_i m hm
            split at h
            · rename_i r hr
              cases h
              obtain ⟨ys, g1, g2⟩ := denL_drop hl hm
              obtain ⟨zs, g3, g4⟩ := denL_take g2 hr
              refine ⟨.agg ⟨zs⟩, by simp only [den, g4], fun w X sat => ?_⟩
              obtain ⟨rfl, k1⟩ := dropO_eq g1
              obtain ⟨rfl, k2⟩ := takeO_eq g3
              have hlen : ((xs.drop off).take s).length = s := by simp at k2 ⊢; omega
              have := run_loadCells_list (P := P) w (i.at off) ((xs.drop off).take s) (fun j v hj => by
                unfold BI.at
                rw [addr_add, cell_at (hb w X sat)]
                rw [List.getElem?_take] at hj
                split at hj
                · rw [List.getElem?_drop, ← nth_eq] at hj
                  rw [Nat.add_assoc, List.getElem?_toArray]
                  exact pre_nth hj
                · cases hj)
              rw [hlen] at this
              simp [loadVar, aggV_ok ha, sizeV_ok hs', this]
            · cases h
          · cases h
        · cases h
      · rename_i ha
        obtain ⟨x, g1, g2⟩ := denL_nth hl h
        refine ⟨x, g2, fun w X sat => ?_⟩
        have : w.cell? (i.at off) = some x := by
          unfold BI.at
          rw [cell_at (hb w X sat), List.getElem?_toArray]; exact pre_nth g1
        simp [loadVar, aggV_ok ha, this]
      · cases h
  · cases h
end
end Go.SL
