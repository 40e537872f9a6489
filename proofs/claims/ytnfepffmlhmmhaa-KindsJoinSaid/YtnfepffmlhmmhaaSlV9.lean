/- Closed calls, run by the kernel: append, copy, maps that grow. -/
import Derived.Test.YtnfepffmlhmmhaaSlV8
set_option linter.unusedVariables false
set_option linter.unusedSimpArgs false
namespace Go.SL
noncomputable section

section
variable {P : Program} {ρ : Rn} {E : VE} {env : Env} {H : VH} {own hs : List Heap} {n nx : Nat} {o : Oper}

def cellsAt (H : VH) (b off k : Nat) : Option (List VV) := match getH H b with
  | some (.cells l _) => match dropO l off with
    | some m => takeO m k
    | none => none
  | _ => none
theorem cellsAt_ok {b off k : Nat} {m : List VV} {i : BI} (hH : denH ρ H = some own) (hi : ρ b = some i) (h : cellsAt H b off k = some m) :
    ∃ ys, denL ρ m = some ys ∧ ys.length = k ∧ ∀ w X, Sat (own ++ X) w → ∀ j v, ys[j]? = some v → w.cell? ((i.at off).add j) = some v := by
  unfold cellsAt at h
  split at h
  · rename_i l T hg
    split at h
    · rename_i m' hm
      obtain ⟨j, ob, g1, g2, g3⟩ := getH_den hH hg
      rw [hi] at g1; cases g1
      obtain ⟨xs, q1, q2, rfl⟩ := denO_cells g2
      obtain ⟨zs, q3, q4⟩ := denL_drop q1 hm
      obtain ⟨ys, q5, q6⟩ := denL_take q4 h
      obtain ⟨rfl, k1⟩ := dropO_eq q3
      obtain ⟨rfl, k2⟩ := takeO_eq q5
      refine ⟨_, q6, by simp at k2 ⊢; omega, fun w X s j v hj => ?_⟩
      have hb : w.heap[i.blk]? = some (.cells ⟨i.pre ++ xs ++ i.post⟩ T (0, 0)) := s.at (List.mem_append.2 (.inl g3)) (blk_self _ _)
      unfold BI.at
      rw [addr_add, cell_at hb]
      rw [List.getElem?_take] at hj
      split at hj
      · rw [List.getElem?_drop, ← nth_eq] at hj
        rw [Nat.add_assoc, List.getElem?_toArray]
        exact pre_nth hj
      · cases hj
    · cases h
  · cases h

/-! ### copy -/
def copyV (P : Program) (E : VE) (H : VH) (t : TypeId) (x y : Operand) : Option (VV × VH) := match evV E x, evV E y, P.underlying t with
  | some (.slc b off len _), some (.slc b2 off2 len2 _), some (.slice e) => match sizeV P e with
    | some sz => match cellsAt H b2 off2 (Nat.min len2 len * sz) with
      | some m => match putCells H b off m with
        | some H' => some (.lit (.int .i64 (Nat.min len2 len)), H')
        | none => none
      | none => none
    | none => none
  | some (.slc b off len _), some (.lit (.slice none 0 0)), some (.slice e) => match sizeV P e, putCells H b off [] with
    | some _, some H' => some (.lit (.int .i64 0), H')
    | _, _ => none
  | _, _, _ => none
theorem copyV_ok {t t2 : TypeId} {c : Call} {x y : Operand} {v : VV} {H' : VH} (hf : Fresh ρ nx) (he : denEnv ρ E = some env) (hH : denH ρ H = some own) (ho : o.op = .call c) (hc : c.callee = .builtin .copy) (hax : c.args = #[x, y]) (hat : c.argTypes = #[t, t2])
    (h : copyV P E H t x y = some (v, H')) : HOp P own n o env (Post ρ v H' nx) := by
  unfold copyV at h
  split at h
  · rename_i b off len c1 b2 off2 len2 c2 e hx hy hu
    split at h
    · rename_i sz hsz
      split at h
      · rename_i m hm
        split at h
        · rename_i H2 hp
          cases h
          obtain ⟨v1, g1, g2⟩ := evV_den he hx
          obtain ⟨v2, g3, g4⟩ := evV_den he hy
          obtain ⟨i, hi, -, rfl⟩ := den_slc g2
          obtain ⟨j, hj, -, rfl⟩ := den_slc g4
          obtain ⟨ys, q1, q2, q3⟩ := cellsAt_ok hH hj hm
          obtain ⟨own', k1, k2⟩ := putCells_ok (P := P) hH q1 hi hp
          refine ⟨by rw [ho]; rfl, fun a w X ha sat => ?_⟩
          obtain ⟨w', r1, r2⟩ := k2 w X sat
          refine ⟨w', .inl ⟨_, own', ?_, r2, ρ, Ext.refl ρ, hf, rfl, k1⟩⟩
          have hfc := run_firstCells_some (P := P) w sz (Nat.min len2 len) (j.at off2) len2 (j.cp c2) ys q2 (q3 w X sat)
          have hfc' : ∀ q, q = Nat.min len2 len → (Builtin.firstCells sz q (.slice (some (j.at off2)) len2 (j.cp c2))).run P w = .ok ys.toArray w := fun q hq => by rw [hq]; exact hfc
          simp only [execOp, ho]
          simp [resolve, hc, hax, hat, invoke, builtin, Builtin.copy_, ha.eval g1, ha.eval g3, run_und hu, Builtin.lenOf, sizeV_ok hsz, goInt]
          rw [hfc' _ (by simp [Nat.min_def])]
          simp [r1]
        · cases h
      · cases h
    · cases h
  · rename_i b off len c1 e hx hy hu
    split at h
    · rename_i sz H2 hsz hp
      cases h
      obtain ⟨v1, g1, g2⟩ := evV_den he hx
      obtain ⟨v2, g3, g4⟩ := evV_den he hy
      cases g4
      obtain ⟨i, hi, -, rfl⟩ := den_slc g2
      obtain ⟨own', k1, k2⟩ := putCells_ok (P := P) hH (m := []) rfl hi hp
      refine ⟨by rw [ho]; rfl, fun a w X ha sat => ?_⟩
      obtain ⟨w', r1, r2⟩ := k2 w X sat
      refine ⟨w', .inl ⟨_, own', ?_, r2, ρ, Ext.refl ρ, hf, rfl, k1⟩⟩
      simp only [execOp, ho]
      simp [resolve, hc, hax, hat, invoke, builtin, Builtin.copy_, ha.eval g1, ha.eval g3, run_und hu, Builtin.lenOf, sizeV_ok hsz, goInt, Builtin.firstCells, r1]
    · cases h
  · cases h

/-! ### clear -/
def clearV (P : Program) (E : VE) (H : VH) (t : TypeId) (x : Operand) : Option VH := match evV E x, P.underlying t with
  | some (.slc b off (len + 1) _), some (.slice e) => match zeroV P e with
    | some z => putCells H b off (lits (Builtin.zeroCells z.cells (len + 1)).toList)
    | none => none
  | some (.slc _ _ 0 _), some (.slice _) => some H
  | some (.tl _ _ _ _ _), some (.slice _) => some H
  | some (.lit (.slice none _ _)), some (.slice _) => some H
  | _, _ => none
theorem clearV_ok {t : TypeId} {c : Call} {x : Operand} {H' : VH} (hf : Fresh ρ nx) (he : denEnv ρ E = some env) (hH : denH ρ H = some own) (ho : o.op = .call c) (hc : c.callee = .builtin .clear) (hax : c.args = #[x]) (hat : c.argTypes = #[t])
    (h : clearV P E H t x = some H') : HOp P own n o env (Post ρ (.lit (.tuple #[])) H' nx) := by
  unfold clearV at h
  split at h
  · rename_i b off len c1 e hx hu
    split at h
    · rename_i z hz
      obtain ⟨v1, g1, g2⟩ := evV_den he hx
      obtain ⟨i, hi, -, rfl⟩ := den_slc g2
      obtain ⟨own', k1, k2⟩ := putCells_ok (P := P) hH (denL_lits _) hi h
      refine ⟨by rw [ho]; rfl, fun a w X ha sat => ?_⟩
      obtain ⟨w', r1, r2⟩ := k2 w X sat
      refine ⟨w', .inl ⟨_, own', ?_, r2, ρ, Ext.refl ρ, hf, rfl, k1⟩⟩
      simp only [execOp, ho]
      simp [resolve, hc, hax, hat, invoke, builtin, Builtin.clear_, ha.eval g1, run_und hu, zeroV_run hz, r1]
    · cases h
  · rename_i e hx hu
    cases h
    obtain ⟨v1, g1, g2⟩ := evV_den he hx
    obtain ⟨i, hi, -, rfl⟩ := den_slc g2
    refine ⟨by rw [ho]; rfl, fun a w X ha sat => ⟨w, .inl ⟨_, own, ?_, sat, ρ, Ext.refl ρ, hf, rfl, hH⟩⟩⟩
    simp only [execOp, ho]
    simp [resolve, hc, hax, hat, invoke, builtin, Builtin.clear_, ha.eval g1, run_und hu]
  · rename_i e hx hu
    cases h
    obtain ⟨v1, g1, g2⟩ := evV_den he hx
    obtain ⟨i, hi, -, rfl⟩ := den_tl g2
    refine ⟨by rw [ho]; rfl, fun a w X ha sat => ⟨w, .inl ⟨_, own, ?_, sat, ρ, Ext.refl ρ, hf, rfl, hH⟩⟩⟩
    simp only [execOp, ho]
    simp [resolve, hc, hax, hat, invoke, builtin, Builtin.clear_, ha.eval g1, run_und hu]
  · rename_i e hx hu
    cases h
    obtain ⟨v1, g1, g2⟩ := evV_den he hx
    cases g2
    refine ⟨by rw [ho]; rfl, fun a w X ha sat => ⟨w, .inl ⟨_, own, ?_, sat, ρ, Ext.refl ρ, hf, rfl, hH⟩⟩⟩
    simp only [execOp, ho]
    simp [resolve, hc, hax, hat, invoke, builtin, Builtin.clear_, ha.eval g1, run_und hu]
  · cases h

/-! ### Maps that grow -/
def upE : List ME → Nat → Value → VV → List ME
  | [], _, _, _ => []
  | e :: l, 0, k, v => ⟨k, v, e.born⟩ :: l
  | e :: l, i + 1, k, v => e :: upE l i k v
theorem upE_den {k : Value} {v : VV} {x : Value} (hv : den ρ v = some x) : ∀ {es : List ME} {r : List MapEntry} {i : Nat}, denE ρ es = some r → denE ρ (upE es i k v) = some (r.modify i fun e => { e with key := k, val := x })
  | [], r, i, h => by cases h; cases i <;> rfl
  | e :: es, r, 0, h => by
    simp only [denE] at h
    split at h
    · rename_i y r' h1 h2
      cases h
      simp only [upE, denE, hv, h2]; rfl
    · cases h
  | e :: es, r, i + 1, h => by
    simp only [denE] at h
    split at h
    · rename_i y r' h1 h2
      cases h
      simp only [upE, denE, h1, upE_den hv h2]; rfl
    · cases h
theorem denE_append {e : ME} {x : Value} (hv : den ρ e.val = some x) : ∀ {es : List ME} {r : List MapEntry}, denE ρ es = some r → denE ρ (es ++ [e]) = some (r ++ [{ key := e.key, val := x, born := e.born }])
  | [], r, h => by cases h; simp only [List.nil_append, denE, hv]
  | m :: es, r, h => by
    simp only [denE] at h
    split at h
    · rename_i y r' h1 h2
      cases h
      simp only [List.cons_append, denE, h1, denE_append hv h2]
    · cases h
def insertV (P : Program) (E : VE) (H : VH) (t : TypeId) (m k x : Operand) : Option VH := match evV E m, evV E k, evV E x with
  | some (.mp b), some (.lit kv), some u => match P.underlying t, getH H b with
    | some (.map kt _), some (.map es ck) => match P.underlying kt with
      | some d => match plainKey d, findV d kv es 0 with
        | true, some none => setH H b (.map (es ++ [⟨kv, u, ck⟩]) (ck + 1))
        | _, _ => none
      | none => none
    | _, _ => none
  | _, _, _ => none
theorem insertV_ok {t : TypeId} {m k x : Operand} {H' : VH} (hf : Fresh ρ nx) (he : denEnv ρ E = some env) (hH : denH ρ H = some own) (ho : o.op = .insert t m k x ∨ o.op = .mapUpdate t m k x) (h : insertV P E H t m k x = some H') : HOp P own n o env (Post ρ (.lit undef) H' nx) := by
  unfold insertV at h
  split at h
  · rename_i b kv u hm hk hx
    split at h
    · rename_i kt et es ck hu hg
      split at h
      · rename_i d hd
        split at h
        · rename_i hp hfv
          obtain ⟨v1, g1, g2⟩ := evV_den he hm
          obtain ⟨v2, g3, g4⟩ := evV_den he hk
          obtain ⟨v3, g5, g6⟩ := evV_den he hx
          cases g4
          obtain ⟨i, hi, rfl⟩ := den_mp g2
          obtain ⟨j, ob, q1, q2, q3⟩ := getH_den hH hg
          rw [hi] at q1; cases q1
          simp only [denO] at q2
          split at q2
          · rename_i r hr
            cases q2
            have hden : denO ρ i (.map (es ++ [⟨kv, u, ck⟩]) (ck + 1)) = some (.map ⟨r ++ [{ key := kv, val := v3, born := ck }]⟩ (ck + 1)) := by
              simp only [denO, denE_append (e := ⟨kv, u, ck⟩) g6 hr]
            have hden0 : denO ρ i (.map es ck) = some (.map ⟨r⟩ ck) := by simp only [denO, hr]
            obtain ⟨own', rest, k1, k2, k3⟩ := setH_den hH hg h hi hden0 hden
            obtain ⟨q', e1, e2⟩ := findV_ok hr hfv
            rcases e2 with ⟨-, rfl⟩ | ⟨j', v', x', e3, -, -⟩
            rotate_left
            · cases e3
            refine ⟨by rcases ho with ho | ho <;> (rw [ho]; rfl), fun a w X ha sat => ?_⟩
            have hb : w.heap[i.blk]? = some (.map ⟨r⟩ ck) := sat.at (List.mem_append.2 (.inl q3)) (blk_self _ _)
            have hlt := (Array.getElem?_eq_some_iff.1 hb).1
            let w' : World := { w with heap := w.heap.setIfInBounds i.blk (.map ⟨r ++ [{ key := kv, val := v3, born := ck }]⟩ (ck + 1)) }
            have s1 : Sat (blk i.blk (.map ⟨r⟩ ck) :: (rest ++ X)) w := sat.perm (k2.append_right X)
            have s2 : Sat (blk i.blk (.map ⟨r ++ [{ key := kv, val := v3, born := ck }]⟩ (ck + 1)) :: (rest ++ X)) w' :=
              s1.put (by simp [w', hlt]) rfl rfl (fun k hk => by simp only [w']; rw [Array.getElem?_setIfInBounds_ne (Ne.symm hk)]) (fun _ => rfl)
            refine ⟨w', .inr (.inl ⟨own', ?_, s2.perm (k3.append_right X).symm, ρ, Ext.refl ρ, hf, rfl, k1⟩)⟩
            have hpush : (⟨r⟩ : Array MapEntry).push { key := kv, val := v3, born := ck } = ⟨r ++ [{ key := kv, val := v3, born := ck }]⟩ := Array.ext' (by simp)
            rcases ho with ho | ho <;>
            simp [execOp, ho, ha.eval g1, ha.eval g3, ha.eval g5, Instr.mapUpdate, run_und hu, getObj, setObj, Sem.run, hb, checkKey_ok hd hp, Instr.findKey, run_und hd, e1, w', hpush]
          · cases q2
        · cases h
      · cases h
    · cases h
  · cases h
end
end
end Go.SL
