/- Closed calls, run by the kernel: slices, maps looked at, values put together. -/
import Derived.Test.YtnfepffmlhmmhaaSlV3
set_option linter.unusedVariables false
set_option linter.unusedSimpArgs false
namespace Go.SL
noncomputable section

section
variable {P : Program} {ρ : Rn} {E : VE} {env : Env} {H : VH} {own hs : List Heap} {n : Nat} {o : Oper}

/-! ### Slices of slices -/
def intOf (E : VE) (x : Operand) : Option Int := match evV E x with
  | some (.lit (.int _ j)) => some j
  | _ => none
theorem intOf_ok {x : Operand} {j : Int} (he : denEnv ρ E = some env) (h : intOf E x = some j) : ∃ k, ev env x = some (.int k j) := by
  unfold intOf at h
  split at h
  · rename_i k j' hv
    cases h
    obtain ⟨y, g1, g2⟩ := evV_den he hv
    cases g2; exact ⟨k, g1⟩
  · cases h
def bndV (E : VE) (x : Operand) (y : Nat) : Option Nat := match intOf E x with
  | some j => match decide (0 ≤ j), Nat.ble j.toNat y with
    | true, true => some j.toNat
    | _, _ => none
  | none => none
theorem bndV_ok {x : Operand} {y l : Nat} (he : denEnv ρ E = some env) (h : bndV E x y = some l) : l ≤ y ∧ ∃ k j, ev env x = some (.int k j) ∧ 0 ≤ j ∧ j.toNat = l := by
  unfold bndV at h
  split at h
  · rename_i j hj
    split at h
    · rename_i h1 h2
      cases h
      obtain ⟨k, hk⟩ := intOf_ok he hj
      exact ⟨Nat.le_of_ble_eq_true h2, k, j, hk, of_decide_eq_true h1, rfl⟩
    · cases h
  · cases h
/-- The bounds of a slice: from, to, and the greatest place, where it is known. -/
def sbV (E : VE) (len lb : Nat) (lo hi mx : Option Operand) : Option (Nat × Nat × Option Nat) :=
  match mx with
  | some z => match bndV E z lb, hi with
    | some m, some y => match bndV E y m with
      | some h => match lo with
        | some x => match bndV E x h with
          | some l => some (l, h, some m)
          | none => none
        | none => some (0, h, some m)
      | none => none
    | _, _ => none
  | none => match (match hi with | some y => bndV E y lb | none => some len) with
    | some h => match lo with
      | some x => match bndV E x h with
        | some l => some (l, h, none)
        | none => none
      | none => some (0, h, none)
    | none => none
theorem run_bnd {x : Operand} {y y' l : Nat} (he : denEnv ρ E = some env) (h : bndV E x y = some l) (hy : y ≤ y') {code : BoundsCode} {a : Act} (ha : Has n env a) (w : World) : (Instr.sliceBound (a.eval x) y' code).run P w = .ok l w := by
  obtain ⟨g1, k, j, g2, g3, rfl⟩ := bndV_ok he h
  rw [ha.eval g2]
  exact run_bound g3 (by omega) w
theorem sbV_ok {len cap lb l h : Nat} {lo hi mx : Option Operand} {m : Option Nat} (he : denEnv ρ E = some env) (hlb : lb ≤ cap) (hs : sbV E len lb lo hi mx = some (l, h, m)) :
    ∀ (b : Bool) (a : Act) (w : World), Has n env a → (Instr.sliceBounds b len cap (lo.map a.eval) (hi.map a.eval) (mx.map a.eval)).run P w = .ok (l, h, m.getD cap) w := by
  unfold sbV at hs
  split at hs
  · rename_i z
    split at hs
    · rename_i m' y hm
      split at hs
      · rename_i h' hh
        have b1 := (bndV_ok he hm).1
        have b2 := (bndV_ok he hh).1
        split at hs
        · rename_i x
          split at hs
          · rename_i l' hl
            cases hs
            have b3 := (bndV_ok he hl).1
            intro b a w ha
            simp [Instr.sliceBounds, run_bnd he hm hlb ha, run_bnd he hh (Nat.le_refl _) ha, run_bnd he hl (Nat.le_refl _) ha]
          · cases hs
        · cases hs
          intro b a w ha
          simp [Instr.sliceBounds, run_bnd he hm hlb ha, run_bnd he hh (Nat.le_refl _) ha]
      · cases hs
    · cases hs
  · split at hs
    · rename_i h' hh
      split at hs
      · rename_i x
        split at hs
        · rename_i l' hl
          cases hs
          intro b a w ha
          cases hi with
          | none => simp only at hh; cases hh; simp [Instr.sliceBounds, run_bnd he hl (Nat.le_refl _) ha]
          | some y => simp [Instr.sliceBounds, run_bnd he hh hlb ha, run_bnd he hl (Nat.le_refl _) ha]
        · cases hs
      · cases hs
        intro b a w ha
        cases hi with
        | none => simp only at hh; cases hh; simp [Instr.sliceBounds]
        | some y => simp [Instr.sliceBounds, run_bnd he hh hlb ha]
    · cases hs
/-- What is left to grow. -/
def capSub : Cap → Nat → Cap
  | .k n, l => .k (n - l)
  | .o m lb sz, l => .o (m + l) (lb - l) sz
theorem capSub_cp {i : BI} {c : Cap} {l : Nat} : i.cp (capSub c l) = i.cp c - l := by
  cases c with
  | k n => rfl
  | o m lb sz => simp only [capSub, BI.cp]; omega
theorem capSub_ok {i : BI} {c : Cap} {l : Nat} (h : i.ok c = true) : i.ok (capSub c l) = true := by
  cases c with
  | k n => rfl
  | o m lb sz =>
    simp only [BI.ok, capSub, Bool.and_eq_true] at h ⊢
    have := Nat.le_of_ble_eq_true h.1
    exact ⟨Nat.ble_eq_true_of_le (by omega), h.2⟩
/-- Is the greatest place another one than where it begins? ('none': not known) -/
def farV (c : Cap) (m : Option Nat) (l : Nat) : Option Bool := match m with
  | some m' => some (!Nat.beq m' l)
  | none => match c with
    | .k n => some (!Nat.beq n l)
    | .o _ lb _ => match Nat.ble (l + 1) lb with
      | true => some true
      | false => none
theorem farV_ok {i : BI} {c : Cap} {m : Option Nat} {l : Nat} {b : Bool} (hc : i.ok c = true) (h : farV c m l = some b) : b = true ↔ m.getD (i.cp c) ≠ l := by
  unfold farV at h
  split at h
  · cases h; simp [Nat.beq_eq_true_eq, ← Bool.not_eq_true]
  · split at h
    · cases h; simp [BI.cp, Nat.beq_eq_true_eq, ← Bool.not_eq_true]
    · split at h
      · rename_i m' lb sz hb
        cases h
        have h1 := Nat.le_of_ble_eq_true hb
        have h2 := BI.lb_le hc
        simp only [Cap.lb] at h2
        simp only [Option.getD_none, true_iff]
        omega
      · cases h
def farTo (c : Cap) (m : Option Nat) (l : Nat) : Option Bool := match Nat.beq l 0 with
  | true => some true
  | false => farV c m l
def offTo : Bool → Nat → Nat → Nat
  | true, off, d => off + d
  | false, off, _ => off
def capTo : Option Nat → Cap → Nat → Cap
  | some m, _, l => .k (m - l)
  | none, c, l => capSub c l
theorem capTo_ok {i : BI} {m : Option Nat} {c : Cap} {l : Nat} (h : i.ok c = true) : i.ok (capTo m c l) = true := by
  cases m with
  | none => exact capSub_ok h
  | some m' => rfl
theorem capTo_cp {i : BI} {m : Option Nat} {c : Cap} {l : Nat} : i.cp (capTo m c l) = m.getD (i.cp c) - l := by
  cases m with
  | none => exact capSub_cp
  | some m' => rfl
/-- An empty slice at the end: it may be that it has not moved. -/
def sliceT (b off l sz h : Nat) (m : Option Nat) : Cap → Option VV
  | .o mm lb s => match m, Nat.beq (h - l) 0, Nat.ble l lb with
    | none, true, true => some (.tl b (off + l * sz) (l * sz) (mm + l) s)
    | _, _, _ => none
  | .k _ => none
theorem sliceT_ok {b off l sz h : Nat} {m : Option Nat} {c : Cap} {v : VV} {i : BI} (hi : ρ b = some i) (hc : i.ok c = true) (hs : sliceT b off l sz h m c = some v) :
    m = none ∧ h - l = 0 ∧ (i.cp c = l → den ρ v = some (.slice (some (i.at off)) 0 (i.cp c - l))) ∧ (¬ i.cp c = l → den ρ v = some (.slice (some ((i.at off).add (l * sz))) 0 (i.cp c - l))) := by
  cases c with
  | k n => cases hs
  | o mm lb s =>
    simp only [sliceT] at hs
    split at hs
    · rename_i h1 h2
      cases hs
      have hl := BI.lb_le hc
      simp only [BI.ok, Bool.and_eq_true] at hc
      have hsz := Nat.eq_of_beq_eq_true hc.2
      have hle := Nat.le_of_ble_eq_true h2
      simp only [Cap.lb, BI.cp] at hl
      subst hsz
      have e : i.cap - (mm + l) = i.cap - mm - l := by omega
      refine ⟨rfl, Nat.eq_of_beq_eq_true h1, fun hq => ?_, fun hq => ?_⟩
      · rw [den_tl_mk hi]
        simp only [BI.cp] at hq ⊢
        have e0 : i.cap - mm - l = 0 := by omega
        rw [e, e0]
        simp [tlOff]
      · rw [den_tl_mk hi]
        simp only [BI.cp] at hq ⊢
        obtain ⟨k, hk⟩ : ∃ k, i.cap - mm - l = k + 1 := ⟨i.cap - mm - l - 1, by omega⟩
        rw [e, hk]
        simp only [tlOff, at_add]
    · cases hs
def sliceV (P : Program) (E : VE) (t : TypeId) (lo hi mx : Option Operand) : VV → Option VV
  | .slc b off len c => match P.underlying t with
    | some (.slice e) => match sizeV P e with
      | some sz => match sbV E len c.lb lo hi mx with
        | some (l, h, m) => match farTo c m l with
          | some far => some (.slc b (offTo far off (l * sz)) (h - l) (capTo m c l))
          | none => sliceT b off l sz h m c
        | none => none
      | none => none
    | _ => none
  | .ptr b off => match P.underlying t with
    | some (.array k e) => match sizeV P e with
      | some sz => match sbV E k k lo hi mx with
        | some (l, h, m) => match farTo (.k k) m l with
          | some far => some (.slc b (offTo far off (l * sz)) (h - l) (capTo m (.k k) l))
          | none => none
        | none => none
      | none => none
    | _ => none
  | _ => none
theorem far_addr {i : BI} {off l sz : Nat} {c : Cap} {m : Option Nat} {far : Bool} (hc : i.ok c = true) (h : farTo c m l = some far) :
    (if m.getD (i.cp c) = l then i.at off else (i.at off).add (l * sz)) = i.at (offTo far off (l * sz)) := by
  unfold farTo at h
  split at h
  · rename_i hb
    cases h
    have := Nat.eq_of_beq_eq_true hb; subst this
    rw [Nat.zero_mul, at_add]; split <;> rfl
  · have hf := farV_ok hc h
    cases far with
    | true => rw [if_neg (hf.1 rfl), at_add]; rfl
    | false =>
      have : m.getD (i.cp c) = l := Decidable.byContradiction fun hne => by have := hf.2 hne; cases this
      rw [if_pos this]; rfl
theorem sliceV_ok {t : TypeId} {x : Operand} {lo hi mx : Option Operand} {u v : VV} {y : Value} (he : denEnv ρ E = some env) (ho : o.op = .slice t x lo hi mx) (hx : ev env x = some y) (hy : den ρ u = some y) (h : sliceV P E t lo hi mx u = some v) : ∃ r, den ρ v = some r ∧ OpV P hs n o env r := by
  cases u with
  | slc b off len c =>
    simp only [sliceV] at h
    split at h
    · rename_i e hu
      split at h
      · rename_i sz hsz
        split at h
        · rename_i l hh m hb
          split at h
          · rename_i far hf
            cases h
            obtain ⟨i, hi', hc, rfl⟩ := den_slc hy
            have b4 := sbV_ok (P := P) (n := n) he (BI.lb_le hc) hb
            have ha := far_addr (off := off) (sz := sz) hc hf
            refine ⟨_, den_slc_mk hi' (capTo_ok hc), opv_run (by rw [ho]; rfl) fun a w hA => ?_⟩
            rw [capTo_cp, ← ha]
            simp only [execOp, ho, hA.eval hx]
            by_cases hm : m.getD (i.cp c) = l
            · simp [Instr.sliceAt, Instr.slice, run_und hu, b4 true a w hA, sizeV_ok hsz, hm]
            · simp [Instr.sliceAt, Instr.slice, run_und hu, b4 true a w hA, sizeV_ok hsz, hm]
          · obtain ⟨i, hi', hc, rfl⟩ := den_slc hy
            have b4 := sbV_ok (P := P) (n := n) he (BI.lb_le hc) hb
            obtain ⟨rfl, h0, hv1, hv2⟩ := sliceT_ok hi' hc h
            simp only [Option.getD_none] at b4
            by_cases hm : i.cp c = l
            · refine ⟨_, hv1 hm, opv_run (by rw [ho]; rfl) fun a w hA => ?_⟩
              simp only [execOp, ho, hA.eval hx]
              have b5 := b4 true a w hA
              rw [hm] at b5 ⊢
              simp [Instr.sliceAt, Instr.slice, run_und hu, b5, sizeV_ok hsz, h0]
            · refine ⟨_, hv2 hm, opv_run (by rw [ho]; rfl) fun a w hA => ?_⟩
              simp only [execOp, ho, hA.eval hx]
              simp [Instr.sliceAt, Instr.slice, run_und hu, b4 true a w hA, sizeV_ok hsz, hm, h0]
        · cases h
      · cases h
    · cases h
  | ptr b off =>
    simp only [sliceV] at h
    split at h
    · rename_i k e hu
      split at h
      · rename_i sz hsz
        split at h
        · rename_i l hh m hb
          split at h
          · rename_i far hf
            cases h
            obtain ⟨i, hi', rfl⟩ := den_ptr hy
            have b4 := sbV_ok (P := P) (n := n) he (Nat.le_refl k) hb
            have ha := far_addr (i := i) (c := .k k) (off := off) (sz := sz) rfl hf
            refine ⟨_, den_slc_mk hi' (capTo_ok (c := .k k) rfl), opv_run (by rw [ho]; rfl) fun a w hA => ?_⟩
            rw [capTo_cp, ← ha]
            simp only [execOp, ho, hA.eval hx]
            by_cases hm : m.getD (i.cp (.k k)) = l
            · have hm' : m.getD k = l := hm
              simp [Instr.sliceAt, run_und hu, b4 false a w hA, sizeV_ok hsz, hm', Instr.sureAddr, BI.cp]
            · have hm' : ¬ m.getD k = l := hm
              simp [Instr.sliceAt, run_und hu, b4 false a w hA, sizeV_ok hsz, hm', Instr.sureAddr, BI.cp]
          · cases h
        · cases h
      · cases h
    · cases h
  | _ => cases h

/-! ### Lengths -/
def lenV (P : Program) (H : VH) (t : TypeId) : VV → Option VV
  | .slc _ _ len _ => match P.underlying t with
    | some (.slice _) => some (.lit (.int .i64 len))
    | _ => none
  | .tl _ _ _ _ _ => match P.underlying t with
    | some (.slice _) => some (.lit (.int .i64 0))
    | _ => none
  | .mp b => match P.underlying t, getH H b with
    | some (.map _ _), some (.map es _) => some (.lit (.int .i64 es.length))
    | some (.map _ _), some (.tab es) => some (.lit (.int .i64 es.length))
    | _, _ => none
  | _ => none
theorem denE_length : ∀ {es : List ME} {r : List MapEntry}, denE ρ es = some r → r.length = es.length
  | [], r, h => by cases h; rfl
  | e :: es, r, h => by
    simp only [denE] at h
    split at h
    · rename_i x r' h1 h2; cases h; simp [denE_length h2]
    · cases h
theorem map_at {b : Nat} {es : List ME} {c : Nat} (hH : denH ρ H = some own) (hsub : ∀ h ∈ own, h ∈ hs) (hg : getH H b = some (.map es c)) : ∃ i r, ρ b = some i ∧ denE ρ es = some r ∧ ∀ w X, Sat (hs ++ X) w → w.heap[i.blk]? = some (.map ⟨r⟩ c) := by
  obtain ⟨i, ob, h1, h2, h3⟩ := getH_den hH hg
  simp only [denO] at h2
  split at h2
  · rename_i r hr; cases h2
    exact ⟨i, r, h1, hr, fun w X s => s.at (List.mem_append.2 (.inl (hsub _ h3))) (blk_self _ _)⟩
  · cases h2
theorem denT_length : ∀ {es : List (Value × VV)} {r : List (Value × Value)}, denT ρ es = some r → r.length = es.length
  | [], r, h => by cases h; rfl
  | e :: es, r, h => by
    simp only [denT] at h
    split at h
    · rename_i x r' h1 h2; cases h; simp [denT_length h2]
    · cases h
theorem tab_at {b : Nat} {es : List (Value × VV)} (hH : denH ρ H = some own) (hsub : ∀ h ∈ own, h ∈ hs) (hg : getH H b = some (.tab es)) : ∃ i r, ρ b = some i ∧ denT ρ es = some r ∧ (i.ents.map fun e => (e.key, e.val)).Perm r ∧ ∀ w X, Sat (hs ++ X) w → w.heap[i.blk]? = some (.map ⟨i.ents⟩ i.clk) := by
  obtain ⟨i, ob, h1, h2, h3⟩ := getH_den hH hg
  obtain ⟨r, g1, g2, rfl⟩ := denO_tab h2
  exact ⟨i, r, h1, g1, g2, fun w X s => s.at (List.mem_append.2 (.inl (hsub _ h3))) (blk_self _ _)⟩
theorem lenV_ok {t : TypeId} {c : Call} {x : Operand} {u v : VV} {y : Value} (hH : denH ρ H = some own) (hsub : ∀ h ∈ own, h ∈ hs) (ho : o.op = .call c) (hc : c.callee = .builtin .len) (hax : c.args = #[x]) (hat : c.argTypes = #[t])
    (hx : ev env x = some y) (hy : den ρ u = some y) (h : lenV P H t u = some v) : ∃ r, den ρ v = some r ∧ OpV P hs n o env r := by
  cases u with
  | slc b off len cp =>
    simp only [lenV] at h
    split at h
    · rename_i e hu
      cases h
      obtain ⟨i, hi, hk, rfl⟩ := den_slc hy
      refine ⟨_, rfl, opv_run (by rw [ho]; rfl) fun a w ha => ?_⟩
      simp [execOp, ho, resolve, hc, hax, hat, invoke, builtin, Builtin.len_, ha.eval hx, run_und hu, goInt]
    · cases h
  | tl b off d m sz =>
    simp only [lenV] at h
    split at h
    · rename_i e hu
      cases h
      obtain ⟨i, hi, hk, rfl⟩ := den_tl hy
      refine ⟨_, rfl, opv_run (by rw [ho]; rfl) fun a w ha => ?_⟩
      simp [execOp, ho, resolve, hc, hax, hat, invoke, builtin, Builtin.len_, ha.eval hx, run_und hu, goInt]
    · cases h
  | mp b =>
    simp only [lenV] at h
    split at h
    · rename_i e1 e2 es ck hu hg
      cases h
      obtain ⟨i, r, h1, h2, h3⟩ := map_at hH hsub hg
      obtain ⟨j, hj, rfl⟩ := den_mp hy
      rw [h1] at hj; cases hj
      refine ⟨_, rfl, by rw [ho]; rfl, fun a w X ha s => ⟨w, s, .inl ?_⟩⟩
      have hr := denE_length h2
      simp [execOp, ho, resolve, hc, hax, hat, invoke, builtin, Builtin.len_, ha.eval hx, run_und hu, goInt, getObj, Sem.run, h3 w X s, hr]
    · rename_i e1 e2 es hu hg
      cases h
      obtain ⟨i, r, h1, h2, hp, h3⟩ := tab_at hH hsub hg
      obtain ⟨j, hj, rfl⟩ := den_mp hy
      rw [h1] at hj; cases hj
      refine ⟨_, rfl, by rw [ho]; rfl, fun a w X ha s => ⟨w, s, .inl ?_⟩⟩
      have hr : i.ents.length = es.length := by rw [← denT_length h2, ← hp.length_eq, List.length_map]
      simp [execOp, ho, resolve, hc, hax, hat, invoke, builtin, Builtin.len_, ha.eval hx, run_und hu, goInt, getObj, Sem.run, h3 w X s, hr]
    · cases h
  | _ => cases h
end
end
end Go.SL
