/- Closed calls, run by the kernel: new blocks; stores. -/
import Derived.Test.YtnfepffmlhmmhaaSlG5
section
set_option linter.unusedVariables false
set_option linter.unusedSimpArgs false
namespace Go.SL
noncomputable section

def Fresh (ρ : Rn) (nx : Nat) : Prop := ∀ b, nx ≤ b → ρ b = none
def putR (ρ : Rn) (b : Nat) (i : BI) : Rn := fun k => if k = b then some i else ρ k
theorem putR_self (ρ : Rn) (b : Nat) (i : BI) : putR ρ b i b = some i := by simp [putR]
theorem putR_ext {ρ : Rn} {nx : Nat} (h : Fresh ρ nx) (i : BI) : Ext ρ (putR ρ nx i) := fun b j hb => by
  by_cases e : b = nx
  · subst e; rw [h b (Nat.le_refl _)] at hb; cases hb
  · simp only [putR, if_neg e]; exact hb
theorem putR_fresh {ρ : Rn} {nx : Nat} (h : Fresh ρ nx) (i : BI) : Fresh (putR ρ nx i) (nx + 1) := fun b hb => by
  simp only [putR]; rw [if_neg (by omega)]; exact h b (by omega)

/-! ### New blocks -/
inductive NK
  | p
  | s (len cap : Nat)
  | m
def NK.vv (b : Nat) : NK → VV
  | .p => .ptr b 0
  | .s l c => .slc b 0 l (.k c)
  | .m => .mp b
def NK.val (β : Nat) : NK → Value
  | .p => .pointer (some ⟨β, 0, none⟩)
  | .s l c => .slice (some ⟨β, 0, none⟩) l c
  | .m => .map (some β)
theorem NK.den {ρ : Rn} {b : Nat} {i : BI} (h : ρ b = some i) (hp : i.pre = []) (k : NK) : SL.den ρ (k.vv b) = some (k.val i.blk) := by
  cases k <;> simp [NK.vv, NK.val, SL.den, h, BI.at, BI.ok, BI.cp, hp]
def newV (P : Program) (E : VE) (o : Oper) : Option (NK × VO) := match o.op with
  | .alloc t => match zeroV P t with
    | some z => some (.p, .cells (cellsV (.lit z)) t)
    | none => none
  | .box t x => match evV E x with
    | some u => some (.p, .cells (cellsV u) t)
    | none => none
  | .buildSlice t len ps => match P.underlying t with
    | some (.slice e) => match P.info? e with
      | some i => match i.zero, evpsV E ps.toList, P.underlying e with
        | some z, some qs, some _ => match cellsO z with
          | some zc => match Nat.beq zc.length i.size, zrep len zc, Nat.ble (len * i.size) 16777216 with
            | true, some zs, true => match buildVO (fun j => some (j * i.size, i.size)) (lits zs) qs with
              | some cs => some (.s len len, .cells cs e)
              | none => none
            | _, _, _ => none
          | none => none
        | _, _, _ => none
      | none => none
    | _ => none
  | .makeSlice t l c => match P.underlying t with
    | some (.slice e) => match P.info? e with
      | some i => match i.zero, intOf E l, intOf E c with
        | some z, some l, some c => match cellsO z with
          | some zc => match decide (0 ≤ l), decide (l ≤ c), Nat.beq zc.length i.size, Nat.ble (c.toNat * i.size) 16777216, Nat.ble (i.bytes * c.toNat) 70368744177664 with
            | true, true, true, true, true => match Nat.ble c.toNat 16777216, zrep c.toNat zc with
              | true, some zs => some (.s l.toNat c.toNat, .cells (lits zs) e)
              | _, _ => none
            | _, _, _, _, _ => none
          | none => none
        | _, _, _ => none
      | none => none
    | _ => none
  | .makeMap t none => some (.m, .map [] 0)
  | _ => none
def NewOk (P : Program) (ρ : Rn) (n : Nat) (o : Oper) (env : Env) (k : NK) (vo : VO) : Prop := ∃ ob, (∀ i : BI, i.pre = [] → i.post = [] → i.cap = 0 → denO ρ i vo = some ob) ∧ NewOp P n o env (fun β => k.val β) ob

section
variable {P : Program} {ρ : Rn} {E : VE} {env : Env} {H : VH} {own hs : List Heap} {n : Nat} {o : Oper}
theorem cells_new {l : List VV} {xs : List Value} {T : TypeId} (h : denL ρ l = some xs) : ∀ i : BI, i.pre = [] → i.post = [] → i.cap = 0 → denO ρ i (.cells l T) = some (.cells ⟨xs⟩ T (0, 0)) := fun i h1 h2 h3 => by
  rw [denO_cells_mk h (by rw [h3]; omega), h1, h2]; simp
theorem zeros_eq {zc zs : List Value} {len sz : Nat} (hzl : zc.length = sz) (hz : zrep len zc = some zs) : ((Array.range (len * sz)).map fun j => (⟨zc⟩ : Array Value)[j % (⟨zc⟩ : Array Value).size]!) = ⟨zs⟩ := by
  have hzr := zrep_eq zc len
  rw [hz] at hzr
  simp only [Option.some.injEq] at hzr
  apply Array.ext'
  apply List.ext_getElem?
  intro j
  have hs0 : (⟨zc⟩ : Array Value).size = sz := hzl
  rw [hs0]
  by_cases hj : j < len * sz
  · have hszpos : 0 < sz := Nat.pos_of_ne_zero fun e => by rw [e] at hj; simp at hj
    have hm : j % sz < zc.length := by rw [hzl]; exact Nat.mod_lt _ hszpos
    rw [hzr, zrep_at zc len j (by rw [hzl]; exact hj), hzl]
    simp [hj, hm]
  · rw [hzr, List.getElem?_eq_none (by simp; omega), List.getElem?_eq_none (by simp [hzl]; omega)]
theorem newV_ok {k : NK} {vo : VO} (he : denEnv ρ E = some env) (h : newV P E o = some (k, vo)) : NewOk P ρ n o env k vo := by
  unfold newV at h
  split at h
  · rename_i t ho
    split at h
    · rename_i z hz
      cases h
      obtain ⟨xs, g1, g2⟩ := cellsV_den (ρ := ρ) (v := .lit z) rfl
      refine ⟨_, cells_new g2, by rw [ho]; rfl, fun _ => by simp [fzo], fun a w _ => ?_⟩
      simp [execOp, ho, Instr.alloc, zeroV_run hz, newVar, newRow, cellsO_eq g1, NK.val]
    · cases h
  · rename_i t x ho
    split at h
    · rename_i u hu
      cases h
      obtain ⟨y, g1, g2⟩ := evV_den he hu
      obtain ⟨xs, g3, g4⟩ := cellsV_den g2
      exact ⟨_, cells_new g4, new_box ho g1 g3⟩
    · cases h
  · rename_i t len ps ho
    split at h
    · rename_i e hu
      split at h
      · rename_i i hi
        split at h
        · rename_i z qs de hz hq hde
          split at h
          · rename_i zc hzc
            split at h
            · rename_i zs b1 hzs b2
              split at h
              · rename_i cs hcs
                cases h
                have hl := Nat.eq_of_beq_eq_true b1
                obtain ⟨ps', ys, g1, g2, g3⟩ := build_den he hq (denL_lits zs) hcs
                haveI : TyG P t e i.size i.bytes := tyG_mk hu hi hz (by rw [cellsO_eq hzc]; simpa using hl) rfl rfl
                haveI : Ty P e de z i := ⟨hde, zeroV_run (by simp only [zeroV, hi, hz]), hi⟩
                exact ⟨_, cells_new g3, new_buildSlice ho g1 hzc hl hzs g2 b2⟩
              · cases h
            · cases h
          · cases h
        · cases h
      · cases h
    · cases h
  · rename_i t l c ho
    split at h
    · rename_i e hu
      split at h
      · rename_i i hi
        split at h
        · rename_i z l c hz hl hc
          split at h
          · rename_i zc hzc
            split at h
            · rename_i b1 b2 b3 b4 b5
              split at h
              · rename_i zs b6 hzs
                cases h
                obtain ⟨kl, hl'⟩ := intOf_ok he hl
                obtain ⟨kc, hc'⟩ := intOf_ok he hc
                have c1 := of_decide_eq_true b1
                have c2 := of_decide_eq_true b2
                have c3 := Nat.eq_of_beq_eq_true b3
                have c4 := Nat.le_of_ble_eq_true b4
                have c5 := Nat.le_of_ble_eq_true b5
                have c6 := Nat.le_of_ble_eq_true b6
                refine ⟨_, cells_new (denL_lits zs), by rw [ho]; rfl, fun _ => by simp [fzo], fun a w ha => ?_⟩
                have wl : IntKind.i64.wrap l = l := wrap64_id (by omega) (by omega)
                have wc : IntKind.i64.wrap c = c := wrap64_id (by omega) (by omega)
                have hb : ¬ (281474976710656 < (i.bytes : Int) * c) := by
                  have : (i.bytes : Int) * c = ((i.bytes * c.toNat : Nat) : Int) := by rw [Int.natCast_mul, Int.toNat_of_nonneg (by omega)]
                  omega
                have hn : ¬ (c < 0) := by omega
                have hn2 : ¬ (l < 0) := by omega
                have hn3 : ¬ (c < l) := by omega
                have hroom : ∀ w : World, (askRoom (c.toNat * i.bytes)).run P w = .ok () w := fun w => by unfold askRoom; split <;> simp
                have hzz := zeros_eq c3 hzs
                have hzz' : ((Array.range (c.toNat * i.size)).map fun x => z.cells[x % z.cells.size]!) = ⟨zs⟩ := by rw [cellsO_eq hzc]; exact hzz
                have hzn : ∀ w, (zeroValue e).run P w = .ok z w := zeroV_run (by simp only [zeroV, hi, hz])
                have hbig : ¬ 16777216 < c.toNat * i.size := by omega
                by_cases h0 : c.toNat * i.size = 0
                · have hzs0 : zs = [] := by
                    have : zs.length = c.toNat * i.size := by have hzr := zrep_eq zc c.toNat; rw [hzs] at hzr; cases hzr; simp [c3]
                    rw [h0] at this; exact List.length_eq_zero_iff.1 this
                  subst hzs0
                  simp [execOp, ho, ha.eval hl', ha.eval hc', Instr.makeSlice, run_und hu, asInt, asIntOf, run_info hi, wl, wc, hb, hn, hn2, hn3, hroom, run_size hi, h0, newRow, NK.val, show (Array.range 0).map (fun (_ : Nat) => (default : Value)) = ⟨[]⟩ by simp]
                · simp [execOp, ho, ha.eval hl', ha.eval hc', Instr.makeSlice, run_und hu, asInt, asIntOf, run_info hi, wl, wc, hb, hn, hn2, hn3, hroom, run_size hi, h0, newRow, NK.val, hzn, hzz']
              · cases h
            · cases h
          · cases h
        · cases h
      · cases h
    · cases h
  · rename_i t ho
    cases h
    refine ⟨.map #[] 0, fun i _ _ _ => rfl, by rw [ho]; rfl, fun _ => rfl, fun a w ha => ?_⟩
    simp [execOp, ho, Instr.makeMap, NK.val]
  · cases h
end
end
end Go.SL
end
section
/- Closed calls, run by the kernel: memory that turns. -/
set_option linter.unusedVariables false
set_option linter.unusedSimpArgs false
namespace Go.SL
noncomputable section

/-- What an operation comes to: a value, a heap; new numbers for new blocks. -/
def Post (ρ : Rn) (v : VV) (H : VH) (nx : Nat) : Value → List Heap → Prop := fun x own => ∃ ρ', Ext ρ ρ' ∧ Fresh ρ' nx ∧ den ρ' v = some x ∧ denH ρ' H = some own

section
variable {P : Program} {ρ : Rn} {E : VE} {env : Env} {H : VH} {own hs : List Heap} {n nx : Nat} {o : Oper}

theorem hop_new {k : NK} {vo : VO} (hf : Fresh ρ nx) (hH : denH ρ H = some own) (h : NewOk P ρ n o env k vo) : HOp P own n o env (Post ρ (k.vv nx) ((nx, vo) :: H) (nx + 1)) := by
  obtain ⟨ob, h1, h2, h3, h4⟩ := h
  refine ⟨h2, fun a w X ha hs => ⟨{ w with heap := w.heap.push ob }, .inl ⟨k.val w.heap.size, blk w.heap.size ob :: own, h4 a w ha, sat_alloc hs ob h3, ?_⟩⟩⟩
  let i : BI := { blk := w.heap.size, pre := [], post := [], cap := 0, sz := 0 }
  have hi : putR ρ nx i nx = some i := putR_self ..
  have he := putR_ext hf i
  exact ⟨putR ρ nx i, he, putR_fresh hf i, NK.den hi rfl k, denH_mk hi (denO_ext he (h1 i rfl rfl rfl)) (denH_ext he hH)⟩
theorem hop_quiet {v : VV} (hf : Fresh ρ nx) (hH : denH ρ H = some own) (h : ∃ x, den ρ v = some x ∧ OpV P own n o env x) : HOp P own n o env (Post ρ v H nx) := by
  obtain ⟨x, h1, h2, h3⟩ := h
  refine ⟨h2, fun a w X ha hs => ?_⟩
  obtain ⟨w', s', hr⟩ := h3 a w X ha hs
  have hp : Post ρ v H nx x own := ⟨ρ, Ext.refl ρ, hf, h1, hH⟩
  refine ⟨w', ?_⟩
  rcases hr with hr | ⟨hr, rfl⟩ | ⟨f, args, hr, hc⟩
  · exact .inl ⟨x, own, hr, s', hp⟩
  · exact .inr (.inl ⟨own, hr, s', hp⟩)
  · exact .inr (.inr (.inl ⟨f, args, hr, hc.mono fun e w'' ⟨he, s2⟩ => ⟨x, own, he, s2, hp⟩⟩))

/-! ### Stores -/
def oneV : VV → Bool
  | .lit v => v.oneCell'
  | .agg _ | .tup _ => false
  | _ => true
def oneVs : List VV → Bool
  | [] => true
  | v :: l => match oneV v with
    | true => oneVs l
    | false => false
theorem oneV_ok {v : VV} {x : Value} (h : den ρ v = some x) (ho : oneV v = true) : x.oneCell' = true := by
  cases v with
  | lit v => cases h; exact ho
  | agg l => cases ho
  | tup l => cases ho
  | ptr b off => obtain ⟨i, -, rfl⟩ := den_ptr h; rfl
  | slc b off len c => obtain ⟨i, -, -, rfl⟩ := den_slc h; rfl
  | fn f a c => obtain ⟨xs, ys, -, -, rfl⟩ := den_fn h; rfl
  | ifc t v => obtain ⟨y, -, rfl⟩ := den_ifc h; rfl
  | mp b => obtain ⟨i, -, rfl⟩ := den_mp h; rfl
  | tl b off d m sz => obtain ⟨i, -, -, rfl⟩ := den_tl h; rfl
  | yl b => obtain ⟨i, -, rfl⟩ := den_yl h; rfl
theorem oneVs_ok : ∀ {l : List VV} {xs : List Value}, denL ρ l = some xs → oneVs l = true → ∀ x ∈ xs, x.oneCell' = true
  | [], xs, h, _ => by cases h; intro x hx; cases hx
  | v :: l, xs, h, ho => by
    obtain ⟨y, ys, h1, h2, rfl⟩ := denL_cons h
    simp only [oneVs] at ho
    split at ho
    · rename_i h3
      intro x hx
      rcases List.mem_cons.1 hx with rfl | hx
      · exact oneV_ok h1 h3
      · exact oneVs_ok h2 ho x hx
    · cases ho
/-- Cells put into a block. -/
def putCells (H : VH) (b off : Nat) (m : List VV) : Option VH := match getH H b with
  | some (.cells l T) => match oneVs m, spliceO l off m with
    | true, some l' => setH H b (.cells l' T)
    | _, _ => none
  | _ => none
theorem splice_row {p q xs ys zs : List Value} {off : Nat} (h : spliceO xs off ys = some zs) :
    (p ++ xs ++ q).take (p.length + off) ++ ys ++ (p ++ xs ++ q).drop (p.length + off + ys.length) = p ++ zs ++ q ∧ zs.length = xs.length := by
  obtain ⟨rfl, h2⟩ := spliceO_eq h
  constructor
  · rw [List.append_assoc p xs q, List.take_append, List.take_of_length_le (by omega), Nat.add_sub_cancel_left, List.take_append_of_le_length (by omega)]
    rw [List.drop_append, List.drop_of_length_le (by omega), List.nil_append, show p.length + off + ys.length - p.length = off + ys.length by omega, List.drop_append_of_le_length h2]
    simp [List.append_assoc]
  · simp; omega
theorem putCells_ok {b off : Nat} {m : List VV} {ys : List Value} {H' : VH} {i : BI} (hH : denH ρ H = some own) (hm : denL ρ m = some ys) (hi : ρ b = some i) (h : putCells H b off m = some H') :
    ∃ own', denH ρ H' = some own' ∧ ∀ w X, Sat (own ++ X) w → ∃ w', (storeCells (i.at off) ys).run P w = .ok () w' ∧ Sat (own' ++ X) w' := by
  unfold putCells at h
  split at h
  · rename_i l T hg
    split at h
    · rename_i l' h1 h2
      obtain ⟨j, ob, g1, g2, g3⟩ := getH_den hH hg
      rw [hi] at g1; cases g1
      obtain ⟨xs, q1, q2, rfl⟩ := denO_cells g2
      obtain ⟨zs, q3, q4⟩ := denL_splice q1 hm h2
      obtain ⟨r1, r2⟩ := splice_row (p := i.pre) (q := i.post) q3
      have g5 := denO_cells_mk (i := i) (T := T) q4 (by rw [r2]; exact q2)
      obtain ⟨own', rest, k1, k2, k3⟩ := setH_den hH hg h hi g2 g5
      refine ⟨own', k1, fun w X s => ?_⟩
      have hb : w.heap[i.blk]? = some (.cells ⟨i.pre ++ xs ++ i.post⟩ T (0, 0)) := s.at (List.mem_append.2 (.inl g3)) (blk_self _ _)
      have hlen := (spliceO_eq q3).2
      have hst := run_storeCells_at P i.blk (i.pre.length + off) T ys 0 ⟨i.pre ++ xs ++ i.post⟩ w hb (by simp; omega) (oneVs_ok hm h1)
      have hrow : ((⟨i.pre ++ xs ++ i.post⟩ : Array Value).toList.take (i.pre.length + off + 0) ++ ys ++ (⟨i.pre ++ xs ++ i.post⟩ : Array Value).toList.drop (i.pre.length + off + 0 + ys.length)).toArray = ⟨i.pre ++ zs ++ i.post⟩ := by
        rw [Nat.add_zero]; exact congrArg List.toArray r1
      rw [hrow] at hst
      refine ⟨_, hst, ?_⟩
      have s1 : Sat (blk i.blk (.cells ⟨i.pre ++ xs ++ i.post⟩ T (0, 0)) :: (rest ++ X)) w := s.perm (k2.append_right X)
      have s2 := s1.put (setRow_heap w i.blk _ ⟨i.pre ++ zs ++ i.post⟩ T (0, 0) hb) (by rfl) (by rfl) (fun k hk => setRow_other w i.blk k _ hk) (fun _ => rfl)
      exact s2.perm (k3.append_right X).symm
    · cases h
  · cases h
def storeV (P : Program) (E : VE) (H : VH) (t : TypeId) (x y : Operand) : Option VH := match evV E x, evV E y with
  | some (.ptr b off), some u => match sizeV P t with
    | some s => match Nat.beq (cellsV u).length s with
      | true => putCells H b off (cellsV u)
      | false => none
    | none => none
  | _, _ => none
theorem storeV_ok {t : TypeId} {x y : Operand} {H' : VH} (hf : Fresh ρ nx) (he : denEnv ρ E = some env) (hH : denH ρ H = some own) (ho : o.op = .store t x y) (h : storeV P E H t x y = some H') : HOp P own n o env (Post ρ (.lit undef) H' nx) := by
  unfold storeV at h
  split at h
  · rename_i b off u hx hy
    split at h
    · rename_i s hs
      split at h
      · rename_i hb
        obtain ⟨v1, g1, g2⟩ := evV_den he hx
        obtain ⟨v2, g3, g4⟩ := evV_den he hy
        obtain ⟨i, hi, rfl⟩ := den_ptr g2
        obtain ⟨ys, g5, g6⟩ := cellsV_den g4
        obtain ⟨own', k1, k2⟩ := putCells_ok (P := P) hH g6 hi h
        refine ⟨by rw [ho]; rfl, fun a w X ha sat => ?_⟩
        obtain ⟨w', r1, r2⟩ := k2 w X sat
        refine ⟨w', .inr (.inl ⟨own', ?_, r2, ρ, Ext.refl ρ, hf, rfl, k1⟩)⟩
        have hsz : ys.length = s := by rw [denL_length g6]; exact Nat.eq_of_beq_eq_true hb
        simp [execOp, ho, Instr.storeAt, ha.eval g1, ha.eval g3, Instr.sureAddr, storeVar, sizeV_ok hs, cellsO_eq g5, hsz, r1]
      · cases h
    · cases h
  · cases h
end
end
end Go.SL
end
section
/- Closed calls, run by the kernel: append, copy, maps that grow. -/
set_option linter.unusedVariables false
set_option linter.unusedSimpArgs false
namespace Go.SL
noncomputable section

section
variable {P : Program} {ρ : Rn} {E : VE} {env : Env} {H : VH} {own hs : List Heap} {n nx : Nat} {o : Oper}

def cellsAt (H : VH) (b off k : Nat) : Option (List VV) := match getH H b with
  | some (.cells l _) => match dropO l off with
    | some m => takeO m k
    | none => none
  | _ => none
theorem cellsAt_ok {b off k : Nat} {m : List VV} {i : BI} (hH : denH ρ H = some own) (hi : ρ b = some i) (h : cellsAt H b off k = some m) :
    ∃ ys, denL ρ m = some ys ∧ ys.length = k ∧ ∀ w X, Sat (own ++ X) w → ∀ j v, ys[j]? = some v → w.cell? ((i.at off).add j) = some v := by
  unfold cellsAt at h
  split at h
  · rename_i l T hg
    split at h
    · rename_i m' hm
      obtain ⟨j, ob, g1, g2, g3⟩ := getH_den hH hg
      rw [hi] at g1; cases g1
      obtain ⟨xs, q1, q2, rfl⟩ := denO_cells g2
      obtain ⟨zs, q3, q4⟩ := denL_drop q1 hm
      obtain ⟨ys, q5, q6⟩ := denL_take q4 h
      obtain ⟨rfl, k1⟩ := dropO_eq q3
      obtain ⟨rfl, k2⟩ := takeO_eq q5
      refine ⟨_, q6, by simp at k2 ⊢; omega, fun w X s j v hj => ?_⟩
      have hb : w.heap[i.blk]? = some (.cells ⟨i.pre ++ xs ++ i.post⟩ T (0, 0)) := s.at (List.mem_append.2 (.inl g3)) (blk_self _ _)
      unfold BI.at
      rw [addr_add, cell_at hb]
      rw [List.getElem?_take] at hj
      split at hj
      · rw [List.getElem?_drop, ← nth_eq] at hj
        rw [Nat.add_assoc, List.getElem?_toArray]
        exact pre_nth hj
      · cases hj
    · cases h
  · cases h

/-! ### copy -/
def copyV (P : Program) (E : VE) (H : VH) (t : TypeId) (x y : Operand) : Option (VV × VH) := match evV E x, evV E y, P.underlying t with
  | some (.slc b off len _), some (.slc b2 off2 len2 _), some (.slice e) => match sizeV P e with
    | some sz => match cellsAt H b2 off2 (Nat.min len2 len * sz) with
      | some m => match putCells H b off m with
        | some H' => some (.lit (.int .i64 (Nat.min len2 len)), H')
        | none => none
      | none => none
    | none => none
  | some (.slc b off len _), some (.lit (.slice none 0 0)), some (.slice e) => match sizeV P e, putCells H b off [] with
    | some _, some H' => some (.lit (.int .i64 0), H')
    | _, _ => none
  | _, _, _ => none
theorem copyV_ok {t t2 : TypeId} {c : Call} {x y : Operand} {v : VV} {H' : VH} (hf : Fresh ρ nx) (he : denEnv ρ E = some env) (hH : denH ρ H = some own) (ho : o.op = .call c) (hc : c.callee = .builtin .copy) (hax : c.args = #[x, y]) (hat : c.argTypes = #[t, t2])
    (h : copyV P E H t x y = some (v, H')) : HOp P own n o env (Post ρ v H' nx) := by
  unfold copyV at h
  split at h
  · rename_i b off len c1 b2 off2 len2 c2 e hx hy hu
    split at h
    · rename_i sz hsz
      split at h
      · rename_i m hm
        split at h
        · rename_i H2 hp
          cases h
          obtain ⟨v1, g1, g2⟩ := evV_den he hx
          obtain ⟨v2, g3, g4⟩ := evV_den he hy
          obtain ⟨i, hi, -, rfl⟩ := den_slc g2
          obtain ⟨j, hj, -, rfl⟩ := den_slc g4
          obtain ⟨ys, q1, q2, q3⟩ := cellsAt_ok hH hj hm
          obtain ⟨own', k1, k2⟩ := putCells_ok (P := P) hH q1 hi hp
          refine ⟨by rw [ho]; rfl, fun a w X ha sat => ?_⟩
          obtain ⟨w', r1, r2⟩ := k2 w X sat
          refine ⟨w', .inl ⟨_, own', ?_, r2, ρ, Ext.refl ρ, hf, rfl, k1⟩⟩
          have hfc := run_firstCells_some (P := P) w sz (Nat.min len2 len) (j.at off2) len2 (j.cp c2) ys q2 (q3 w X sat)
          have hfc' : ∀ q, q = Nat.min len2 len → (Builtin.firstCells sz q (.slice (some (j.at off2)) len2 (j.cp c2))).run P w = .ok ys.toArray w := fun q hq => by rw [hq]; exact hfc
          simp only [execOp, ho]
          simp [resolve, hc, hax, hat, invoke, builtin, Builtin.copy_, ha.eval g1, ha.eval g3, run_und hu, Builtin.lenOf, sizeV_ok hsz, goInt]
          rw [hfc' _ (by simp [Nat.min_def])]
          simp [r1]
        · cases h
      · cases h
    · cases h
  · rename_i b off len c1 e hx hy hu
    split at h
    · rename_i sz H2 hsz hp
      cases h
      obtain ⟨v1, g1, g2⟩ := evV_den he hx
      obtain ⟨v2, g3, g4⟩ := evV_den he hy
      cases g4
      obtain ⟨i, hi, -, rfl⟩ := den_slc g2
      obtain ⟨own', k1, k2⟩ := putCells_ok (P := P) hH (m := []) rfl hi hp
      refine ⟨by rw [ho]; rfl, fun a w X ha sat => ?_⟩
      obtain ⟨w', r1, r2⟩ := k2 w X sat
      refine ⟨w', .inl ⟨_, own', ?_, r2, ρ, Ext.refl ρ, hf, rfl, k1⟩⟩
      simp only [execOp, ho]
      simp [resolve, hc, hax, hat, invoke, builtin, Builtin.copy_, ha.eval g1, ha.eval g3, run_und hu, Builtin.lenOf, sizeV_ok hsz, goInt, Builtin.firstCells, r1]
    · cases h
  · cases h

/-! ### clear -/
def clearV (P : Program) (E : VE) (H : VH) (t : TypeId) (x : Operand) : Option VH := match evV E x, P.underlying t with
  | some (.slc b off (len + 1) _), some (.slice e) => match zeroV P e with
    | some z => putCells H b off (lits (Builtin.zeroCells z.cells (len + 1)).toList)
    | none => none
  | some (.slc _ _ 0 _), some (.slice _) => some H
  | some (.tl _ _ _ _ _), some (.slice _) => some H
  | some (.lit (.slice none _ _)), some (.slice _) => some H
  | _, _ => none
theorem clearV_ok {t : TypeId} {c : Call} {x : Operand} {H' : VH} (hf : Fresh ρ nx) (he : denEnv ρ E = some env) (hH : denH ρ H = some own) (ho : o.op = .call c) (hc : c.callee = .builtin .clear) (hax : c.args = #[x]) (hat : c.argTypes = #[t])
    (h : clearV P E H t x = some H') : HOp P own n o env (Post ρ (.lit (.tuple #[])) H' nx) := by
  unfold clearV at h
  split at h
  · rename_i b off len c1 e hx hu
    split at h
    · rename_i z hz
      obtain ⟨v1, g1, g2⟩ := evV_den he hx
      obtain ⟨i, hi, -, rfl⟩ := den_slc g2
      obtain ⟨own', k1, k2⟩ := putCells_ok (P := P) hH (denL_lits _) hi h
      refine ⟨by rw [ho]; rfl, fun a w X ha sat => ?_⟩
      obtain ⟨w', r1, r2⟩ := k2 w X sat
      refine ⟨w', .inl ⟨_, own', ?_, r2, ρ, Ext.refl ρ, hf, rfl, k1⟩⟩
      simp only [execOp, ho]
      simp [resolve, hc, hax, hat, invoke, builtin, Builtin.clear_, ha.eval g1, run_und hu, zeroV_run hz, r1]
    · cases h
  · rename_i e hx hu
    cases h
    obtain ⟨v1, g1, g2⟩ := evV_den he hx
    obtain ⟨i, hi, -, rfl⟩ := den_slc g2
    refine ⟨by rw [ho]; rfl, fun a w X ha sat => ⟨w, .inl ⟨_, own, ?_, sat, ρ, Ext.refl ρ, hf, rfl, hH⟩⟩⟩
    simp only [execOp, ho]
    simp [resolve, hc, hax, hat, invoke, builtin, Builtin.clear_, ha.eval g1, run_und hu]
  · rename_i e hx hu
    cases h
    obtain ⟨v1, g1, g2⟩ := evV_den he hx
    obtain ⟨i, hi, -, rfl⟩ := den_tl g2
    refine ⟨by rw [ho]; rfl, fun a w X ha sat => ⟨w, .inl ⟨_, own, ?_, sat, ρ, Ext.refl ρ, hf, rfl, hH⟩⟩⟩
    simp only [execOp, ho]
    simp [resolve, hc, hax, hat, invoke, builtin, Builtin.clear_, ha.eval g1, run_und hu]
  · rename_i e hx hu
    cases h
    obtain ⟨v1, g1, g2⟩ := evV_den he hx
    cases g2
    refine ⟨by rw [ho]; rfl, fun a w X ha sat => ⟨w, .inl ⟨_, own, ?_, sat, ρ, Ext.refl ρ, hf, rfl, hH⟩⟩⟩
    simp only [execOp, ho]
    simp [resolve, hc, hax, hat, invoke, builtin, Builtin.clear_, ha.eval g1, run_und hu]
  · cases h

/-! ### Maps that grow -/
def upE : List ME → Nat → Value → VV → List ME
  | [], _, _, _ => []
  | e :: l, 0, k, v => ⟨k, v, e.born⟩ :: l
  | e :: l, i + 1, k, v => e :: upE l i k v
theorem upE_den {k : Value} {v : VV} {x : Value} (hv : den ρ v = some x) : ∀ {es : List ME} {r : List MapEntry} {i : Nat}, denE ρ es = some r → denE ρ (upE es i k v) = some (r.modify i fun e => { e with key := k, val := x })
  | [], r, i, h => by cases h; cases i <;> rfl
  | e :: es, r, 0, h => by
    simp only [denE] at h
    split at h
    · rename_i y r' h1 h2
      cases h
      simp only [upE, denE, hv, h2]; rfl
    · cases h
  | e :: es, r, i + 1, h => by
    simp only [denE] at h
    split at h
    · rename_i y r' h1 h2
      cases h
      simp only [upE, denE, h1, upE_den hv h2]; rfl
    · cases h
theorem denE_append {e : ME} {x : Value} (hv : den ρ e.val = some x) : ∀ {es : List ME} {r : List MapEntry}, denE ρ es = some r → denE ρ (es ++ [e]) = some (r ++ [{ key := e.key, val := x, born := e.born }])
  | [], r, h => by cases h; simp only [List.nil_append, denE, hv]
  | m :: es, r, h => by
    simp only [denE] at h
    split at h
    · rename_i y r' h1 h2
      cases h
      simp only [List.cons_append, denE, h1, denE_append hv h2]
    · cases h
def insertV (P : Program) (E : VE) (H : VH) (t : TypeId) (m k x : Operand) : Option VH := match evV E m, evV E k, evV E x with
  | some (.mp b), some (.lit kv), some u => match P.underlying t, getH H b with
    | some (.map kt _), some (.map es ck) => match P.underlying kt with
      | some d => match plainKey d, findV d kv es 0 with
        | true, some none => setH H b (.map (es ++ [⟨kv, u, ck⟩]) (ck + 1))
        | _, _ => none
      | none => none
    | _, _ => none
  | _, _, _ => none
theorem insertV_ok {t : TypeId} {m k x : Operand} {H' : VH} (hf : Fresh ρ nx) (he : denEnv ρ E = some env) (hH : denH ρ H = some own) (ho : o.op = .insert t m k x ∨ o.op = .mapUpdate t m k x) (h : insertV P E H t m k x = some H') : HOp P own n o env (Post ρ (.lit undef) H' nx) := by
  unfold insertV at h
  split at h
  · rename_i b kv u hm hk hx
    split at h
    · rename_i kt et es ck hu hg
      split at h
      · rename_i d hd
        split at h
        · rename_i hp hfv
          obtain ⟨v1, g1, g2⟩ := evV_den he hm
          obtain ⟨v2, g3, g4⟩ := evV_den he hk
          obtain ⟨v3, g5, g6⟩ := evV_den he hx
          cases g4
          obtain ⟨i, hi, rfl⟩ := den_mp g2
          obtain ⟨j, ob, q1, q2, q3⟩ := getH_den hH hg
          rw [hi] at q1; cases q1
          simp only [denO] at q2
          split at q2
          · rename_i r hr
            cases q2
            have hden : denO ρ i (.map (es ++ [⟨kv, u, ck⟩]) (ck + 1)) = some (.map ⟨r ++ [{ key := kv, val := v3, born := ck }]⟩ (ck + 1)) := by
              simp only [denO, denE_append (e := ⟨kv, u, ck⟩) g6 hr]
            have hden0 : denO ρ i (.map es ck) = some (.map ⟨r⟩ ck) := by simp only [denO, hr]
            obtain ⟨own', rest, k1, k2, k3⟩ := setH_den hH hg h hi hden0 hden
            obtain ⟨q', e1, e2⟩ := findV_ok hr hfv
            rcases e2 with ⟨-, rfl⟩ | ⟨j', v', x', e3, -, -⟩
            rotate_left
            · cases e3
            refine ⟨by rcases ho with ho | ho <;> (rw [ho]; rfl), fun a w X ha sat => ?_⟩
            have hb : w.heap[i.blk]? = some (.map ⟨r⟩ ck) := sat.at (List.mem_append.2 (.inl q3)) (blk_self _ _)
            have hlt := (Array.getElem?_eq_some_iff.1 hb).1
            let w' : World := { w with heap := w.heap.setIfInBounds i.blk (.map ⟨r ++ [{ key := kv, val := v3, born := ck }]⟩ (ck + 1)) }
            have s1 : Sat (blk i.blk (.map ⟨r⟩ ck) :: (rest ++ X)) w := sat.perm (k2.append_right X)
            have s2 : Sat (blk i.blk (.map ⟨r ++ [{ key := kv, val := v3, born := ck }]⟩ (ck + 1)) :: (rest ++ X)) w' :=
              s1.put (by simp [w', hlt]) rfl rfl (fun k hk => by simp only [w']; rw [Array.getElem?_setIfInBounds_ne (Ne.symm hk)]) (fun _ => rfl)
            refine ⟨w', .inr (.inl ⟨own', ?_, s2.perm (k3.append_right X).symm, ρ, Ext.refl ρ, hf, rfl, k1⟩)⟩
            have hpush : (⟨r⟩ : Array MapEntry).push { key := kv, val := v3, born := ck } = ⟨r ++ [{ key := kv, val := v3, born := ck }]⟩ := Array.ext' (by simp)
            rcases ho with ho | ho <;>
            simp [execOp, ho, ha.eval g1, ha.eval g3, ha.eval g5, Instr.mapUpdate, run_und hu, getObj, setObj, Sem.run, hb, checkKey_ok hd hp, Instr.findKey, run_und hd, e1, w', hpush]
          · cases q2
        · cases h
      · cases h
    · cases h
  · cases h
end
end
end Go.SL
end
section
/- Closed calls, run by the kernel: append. -/
set_option linter.unusedVariables false
set_option linter.unusedSimpArgs false
namespace Go.SL
noncomputable section

section
variable {P : Program} {ρ : Rn} {E : VE} {env : Env} {H : VH} {own hs : List Heap} {n nx : Nat} {o : Oper}

/-- How append goes: in its place; into a new block; it is not known which. -/
def growV (H : VH) (nx : Nat) (e : TypeId) (sz : Nat) (b off len : Nat) (c : Cap) (m : Nat) (news : List VV) : Option (VV × VH × Nat) := match c with
  | .k k => match Nat.ble (len + m) k with
    | true => match putCells H b (off + len * sz) news with
      | some H' => some (.slc b off (len + m) (.k k), H', nx)
      | none => none
    | false => match cellsAt H b off (len * sz) with
      | some olds => some (.slc nx 0 (len + m) (.o 0 (len + m) sz), (nx, .cells (olds ++ news) e) :: H, nx + 1)
      | none => none
  | .o mm lb s => match cellsAt H b off (len * sz), Nat.beq s sz, Nat.beq off (mm * sz), oneVs news with
    | some olds, true, true, true => match getH H b with
      | some (.cells _ T) => match Nat.beq T e with
        | true => some (.slc nx 0 (len + m) (.o 0 (len + m) sz), (nx, .cells (olds ++ news) e) :: delH H b, nx + 1)
        | false => none
      | _ => none
    | _, _, _, _ => none
def appendV (P : Program) (E : VE) (H : VH) (nx : Nat) (t : TypeId) (x y : Operand) : Option (VV × VH × Nat) := match P.underlying t with
  | some (.slice e) => match P.info? e with
    | some i => match i.zero, evV E x, evV E y with
      | some z, some (.slc b off len c), some (.slc b2 off2 m c2) => match m with
        | 0 => match Nat.ble len c.lb with
          | true => some (.slc b off len c, H, nx)
          | false => none
        | m + 1 => match cellsAt H b2 off2 ((m + 1) * i.size), Nat.ble ((len + (m + 1)) * i.bytes) 70368744177664, Nat.ble (len + (m + 1)) 70368744177664, Nat.beq z.cells.size i.size with
          | some news, true, true, true => growV H nx e i.size b off len c (m + 1) news
          | _, _, _, _ => none
      | some z, some (.slc b off len c), some (.lit (.slice none 0 0)) => match Nat.ble len c.lb with
        | true => some (.slc b off len c, H, nx)
        | false => none
      | some z, some (.slc b off len c), some (.tl _ _ _ _ _) => match Nat.ble len c.lb with
        | true => some (.slc b off len c, H, nx)
        | false => none
      | some z, some (.tl b off d mm sz), some (.slc b2 off2 m c2) => match m with
        | 0 => some (.tl b off d mm sz, H, nx)
        | m + 1 => match cellsAt H b2 off2 ((m + 1) * i.size), Nat.ble ((0 + (m + 1)) * i.bytes) 70368744177664, Nat.ble (0 + (m + 1)) 70368744177664, Nat.beq z.cells.size i.size with
          | some news, true, true, true => growV H nx e i.size b off 0 (.o mm 0 sz) (m + 1) news
          | _, _, _, _ => none
      | some z, some (.tl b off d mm sz), some (.lit (.slice none 0 0)) => some (.tl b off d mm sz, H, nx)
      | some z, some (.tl b off d mm sz), some (.tl _ _ _ _ _) => some (.tl b off d mm sz, H, nx)
      | some z, some (.lit (.slice none 0 0)), some (.tl _ _ _ _ _) => some (.lit (.slice none 0 0), H, nx)
      | some z, some (.lit (.slice none 0 0)), some (.slc b2 off2 m c2) => match m with
        | 0 => some (.lit (.slice none 0 0), H, nx)
        | m + 1 => match cellsAt H b2 off2 ((m + 1) * i.size), Nat.ble ((m + 1) * i.bytes) 70368744177664, Nat.ble (m + 1) 70368744177664, Nat.beq z.cells.size i.size with
          | some news, true, true, true => some (.slc nx 0 (m + 1) (.o 0 (m + 1) i.size), (nx, .cells news e) :: H, nx + 1)
          | _, _, _, _ => none
      | _, _, _ => none
    | none => none
  | _ => none

theorem run_app {o : Oper} {n : Nat} {env : Env} {c : Call} {x y : Operand} {t : TypeId} {u v : Value} {a : Act} (ha : Has n env a) (ho : o.op = .call c) (hc : c.callee = .builtin .append) (hax : c.args = #[x, y]) (hat : c.argTypes = #[t, t])
    (hx : ev env x = some u) (hy : ev env y = some v) {r : Value} {w w' : World} (h : (Builtin.append_ #[t, t] o.type #[u, v]).run P w = .ok r w') : (execOp a.eval o).run P w = .ok (.value r) w' := by
  simp [execOp, ho, resolve, hc, hax, hat, invoke, builtin, ha.eval hx, ha.eval hy, h]
/-- Nothing is appended. -/
theorem run_append_none {t ty e : TypeId} {i : TypeInfo} {ad : Addr} {len cap : Nat} {v : Value} {w : World} (hu : P.underlying t = some (.slice e)) (hi : P.info? e = some i) (hle : len ≤ cap)
    (hv : (∃ b c, v = .slice (some b) 0 c) ∨ v = .slice none 0 0) : (Builtin.append_ #[t, t] ty #[.slice (some ad) len cap, v]).run P w = .ok (.slice (some ad) len cap) w := by
  rcases hv with ⟨b, c, rfl⟩ | rfl
  · have h0 : (loadCells b 0).run P w = .ok #[] w := run_loadCells_list (P := P) w b [] (fun j v hj => by cases hj)
    have hs : ∀ ad : Addr, (storeCells ad []).run P w = .ok () w := fun ad => by simp [storeCells]
    simp [Builtin.append_, run_und hu, run_size hi, Builtin.lenOf, Builtin.firstCells, hle, h0, hs]
  · have hs : ∀ ad : Addr, (storeCells ad []).run P w = .ok () w := fun ad => by simp [storeCells]
    simp [Builtin.append_, run_und hu, run_size hi, Builtin.lenOf, Builtin.firstCells, hle, hs]
theorem run_append_none0 {t ty e : TypeId} {i : TypeInfo} {b : Addr} {c : Nat} {w : World} (hu : P.underlying t = some (.slice e)) (hi : P.info? e = some i) :
    (Builtin.append_ #[t, t] ty #[.slice none 0 0, .slice (some b) 0 c]).run P w = .ok (.slice none 0 0) w := by
  have h0 : (loadCells b 0).run P w = .ok #[] w := run_loadCells_list (P := P) w b [] (fun j v hj => by cases hj)
  simp [Builtin.append_, run_und hu, run_size hi, Builtin.lenOf, Builtin.firstCells, h0]
/-- There is room. -/
theorem run_append_fit {t ty e : TypeId} {i : TypeInfo} {ad b : Addr} {len cap m c : Nat} {news : List Value} {w w' : World} (hu : P.underlying t = some (.slice e)) (hi : P.info? e = some i) (hle : len + m ≤ cap)
    (hl : news.length = m * i.size) (hn : ∀ j v, news[j]? = some v → w.cell? (b.add j) = some v) (hs : (storeCells (ad.add (len * i.size)) news).run P w = .ok () w') :
    (Builtin.append_ #[t, t] ty #[.slice (some ad) len cap, .slice (some b) m c]).run P w = .ok (.slice (some ad) (len + m) cap) w' := by
  have hfc := run_firstCells_some (P := P) w i.size m b m c news hl hn
  simp [Builtin.append_, run_und hu, run_size hi, Builtin.lenOf, hle, hfc, hs]
/-- A new block, that holds what was there, and more. -/
theorem grown_post {l : List VV} {xs : List Value} {e : TypeId} {z : Value} {sz need old : Nat} {w : World} {ρ : Rn} {own X : List Heap} {H : VH} (hf : Fresh ρ nx) (hH : denH ρ H = some own) (hl : denL ρ l = some xs) (hlen : xs.length = need * sz) (hz : z.cells.size = sz)
    (s : Sat (own ++ X) w) :
    ∃ own' w', w' = w.drew.alloc (.cells (xs.toArray ++ Builtin.zeroCells z.cells (grownCap w need old e - need)) e) ∧ Sat (own' ++ X) w' ∧
      Post ρ (.slc nx 0 need (.o 0 need sz)) ((nx, .cells l e) :: H) (nx + 1) (.slice (some ⟨w.heap.size, 0, none⟩) need (grownCap w need old e)) own' := by
  let cp := grownCap w need old e
  have hcp : need ≤ cp := by simp [cp, grownCap, Question.cut]
  have hzc : (Builtin.zeroCells z.cells (cp - need)).size = (cp - need) * sz := by simp [Builtin.zeroCells, hz]
  let i : BI := { blk := w.heap.size, pre := [], post := (Builtin.zeroCells z.cells (cp - need)).toList, cap := cp, sz := sz }
  have hi : putR ρ nx i nx = some i := putR_self ..
  have he := putR_ext hf i
  have hob : denO (putR ρ nx i) i (.cells l e) = some (.cells ⟨[] ++ xs ++ (Builtin.zeroCells z.cells (cp - need)).toList⟩ e (0, 0)) := by
    refine denO_cells_mk (denL_ext he hl) ?_
    simp only [i, Array.length_toList, hzc, hlen, ← Nat.add_mul]
    exact Nat.mul_le_mul_right _ (by omega)
  have hd : den (putR ρ nx i) (.slc nx 0 need (.o 0 need sz)) = some (.slice (some ⟨w.heap.size, 0, none⟩) need cp) := by
    have hok : i.ok (.o 0 need sz) = true := by
      simp only [BI.ok, i, Bool.and_eq_true]
      exact ⟨Nat.ble_eq_true_of_le (by omega), by simp⟩
    exact den_slc_mk hi hok
  have harr : (⟨[] ++ xs ++ (Builtin.zeroCells z.cells (cp - need)).toList⟩ : Array Value) = xs.toArray ++ Builtin.zeroCells z.cells (cp - need) := Array.ext' (by simp)
  have s2 : Sat (own ++ X) w.drew := s.heap rfl rfl rfl
  have s3 := sat_alloc s2 (.cells (xs.toArray ++ Builtin.zeroCells z.cells (cp - need)) e) (fun _ => by simp [fzo])
  rw [← harr] at s3 ⊢
  exact ⟨_, _, rfl, s3, putR ρ nx i, he, putR_fresh hf i, hd, denH_mk hi hob (denH_ext he hH)⟩
/-- What 'append' of new cells does to a slice, where it grows for sure. -/
theorem run_grow_at {t ty e : TypeId} {i : TypeInfo} {z : Value} {ad b : Addr} {len cap m c : Nat} {olds news : List Value} {w : World} (hu : P.underlying t = some (.slice e)) (hi : P.info? e = some i) (hz : i.zero = some z)
    (hlo : olds.length = len * i.size) (ho : ∀ j v, olds[j]? = some v → w.cell? (ad.add j) = some v) (hl : news.length = m * i.size) (hn : ∀ j v, news[j]? = some v → w.cell? (b.add j) = some v)
    (hg : cap < len + m) (hb1 : (len + m) * i.bytes ≤ 70368744177664) (hb2 : len + m ≤ 70368744177664) :
    (Builtin.append_ #[t, t] ty #[.slice (some ad) len cap, .slice (some b) m c]).run P w =
      .ok (.slice (some ⟨w.heap.size, 0, none⟩) (len + m) (grownCap w (len + m) cap e)) (w.drew.alloc (.cells ((olds ++ news).toArray ++ Builtin.zeroCells z.cells (grownCap w (len + m) cap e - (len + m))) e)) := by
  have hnc := nextslicecap_le hg
  have := run_append_grow (P := P) (w := w) t ty e i z hu hi hz ad len cap olds hlo ho b m c news hl hn hg (by omega) (by
    have h1 : Builtin.nextslicecap (len + m) cap * i.bytes ≤ 2 * (len + m) * i.bytes := Nat.mul_le_mul_right _ hnc
    rw [Nat.mul_assoc] at h1
    omega)
  rw [this]
  congr 2
  simp
theorem growV_ok {t e : TypeId} {i : TypeInfo} {z : Value} {c : Call} {x y : Operand} {b off len m b2 off2 : Nat} {cp c2 : Cap} {news : List VV} {r : VV × VH × Nat} (hf : Fresh ρ nx) (he : denEnv ρ E = some env) (hH : denH ρ H = some own)
    (ho : o.op = .call c) (hc : c.callee = .builtin .append) (hax : c.args = #[x, y]) (hat : c.argTypes = #[t, t]) (hu : P.underlying t = some (.slice e)) (hi : P.info? e = some i) (hz : i.zero = some z) (hzs : z.cells.size = i.size)
    {j1 : BI} {ad : Addr} (g1 : ev env x = some (.slice (some ad) len (j1.cp cp))) (hj1 : ρ b = some j1) (hok : j1.ok cp = true) (had : ad = j1.at off ∨ (len = 0 ∧ j1.cp cp = 0)) (hy : evV E y = some (.slc b2 off2 m c2)) (hnew : cellsAt H b2 off2 (m * i.size) = some news) (hm : 0 < m)
    (hb1 : (len + m) * i.bytes ≤ 70368744177664) (hb2 : len + m ≤ 70368744177664) (h : growV H nx e i.size b off len cp m news = some r) : HOp P own n o env (Post ρ r.1 r.2.1 r.2.2) := by
  obtain ⟨v2, g3, g4⟩ := evV_den he hy
  obtain ⟨j2, hj2, -, rfl⟩ := den_slc g4
  obtain ⟨ns, q1, q2, q3⟩ := cellsAt_ok hH hj2 hnew
  have atIn : len + m ≤ j1.cp cp → ad = j1.at off := fun h => by
    rcases had with h1 | ⟨h1, h2⟩
    · exact h1
    · omega
  have atRd : ∀ {os : List Value} {w : World}, os.length = len * i.size → (∀ j v, os[j]? = some v → w.cell? ((j1.at off).add j) = some v) → ∀ j v, os[j]? = some v → w.cell? (ad.add j) = some v := fun {os w} hl hr j v hv => by
    rcases had with rfl | ⟨h1, h2⟩
    · exact hr j v hv
    · rw [h1, Nat.zero_mul] at hl
      rw [List.length_eq_zero_iff.1 hl] at hv
      cases hv
  refine ⟨by rw [ho]; rfl, fun a w X ha sat => ?_⟩
  unfold growV at h
  split at h
  · rename_i k
    split at h
    · rename_i hk
      split at h
      · rename_i H' hp
        cases h
        obtain ⟨own', k1, k2⟩ := putCells_ok (P := P) hH q1 hj1 hp
        obtain ⟨w', r1, r2⟩ := k2 w X sat
        obtain rfl := atIn (Nat.le_of_ble_eq_true hk)
        refine ⟨w', .inl ⟨_, own', run_app ha ho hc hax hat g1 g3 (run_append_fit hu hi (Nat.le_of_ble_eq_true hk) q2 (q3 w X sat) (by rw [at_add]; exact r1)), r2, ρ, Ext.refl ρ, hf, den_slc_mk hj1 rfl, k1⟩⟩
      · cases h
    · rename_i hk
      split at h
      · rename_i olds hol
        cases h
        obtain ⟨os, p1, p2, p3⟩ := cellsAt_ok hH hj1 hol
        have hlt : k < len + m := by
          rcases Nat.lt_or_ge k (len + m) with h | h
          · exact h
          · have := Nat.ble_eq_true_of_le h; rw [hk] at this; cases this
        have hrun := run_grow_at (P := P) (ty := o.type) hu hi hz (cap := k) (c := j2.cp c2) p2 (atRd p2 (p3 w X sat)) q2 (q3 w X sat) hlt hb1 hb2
        obtain ⟨own', w', hw, s', hp⟩ := grown_post (nx := nx) (e := e) (z := z) (old := k) hf hH (denL_append p1 q1) (by rw [List.length_append, p2, q2, ← Nat.add_mul]) hzs sat
        exact ⟨w', .inl ⟨_, own', run_app ha ho hc hax hat g1 g3 (by rw [hw]; exact hrun), s', hp⟩⟩
      · cases h
  · rename_i mm lb s
    split at h
    · rename_i olds hol b1 b2' b3
      split at h
      · rename_i l T hg
        split at h
        · rename_i hT
          cases h
          have hs := Nat.eq_of_beq_eq_true b1
          have hoff := Nat.eq_of_beq_eq_true b2'
          have hTe := Nat.eq_of_beq_eq_true hT
          subst hs; subst hTe
          obtain ⟨j, ob, k1, k2, k3⟩ := getH_den hH hg
          rw [hj1] at k1; cases k1
          obtain ⟨rest, d1, d2⟩ := delH_den hH hg hj1 k2
          obtain ⟨xs, e1, e2, rfl⟩ := denO_cells k2
          obtain ⟨os, p1, p2, p3⟩ := cellsAt_ok hH hj1 hol
          have hsz : j1.sz = i.size := by
            simp only [BI.ok, Bool.and_eq_true] at hok
            exact Nat.eq_of_beq_eq_true hok.2
          rw [hsz] at e2
          have satr : Sat (rest ++ X) w := (sat.perm (d2.append_right X)).tail
          by_cases hfit : len + m ≤ j1.cap - mm
          · -- in its place
            obtain rfl := atIn hfit
            have hb : w.heap[j1.blk]? = some (.cells ⟨j1.pre ++ xs ++ j1.post⟩ T (0, 0)) := sat.at (List.mem_append.2 (.inl k3)) (blk_self _ _)
            have hos : os = (xs.drop off).take (len * i.size) ∧ off + len * i.size ≤ xs.length := by
              unfold cellsAt at hol
              rw [hg] at hol
              simp only at hol
              split at hol
              · rename_i m' hm'
                obtain ⟨zs, z1, z2⟩ := denL_drop e1 hm'
                obtain ⟨ws, z3, z4⟩ := denL_take z2 hol
                rw [p1] at z4; cases z4
                obtain ⟨rfl, y1⟩ := dropO_eq z1
                obtain ⟨rfl, y2⟩ := takeO_eq z3
                simp at y2
                exact ⟨rfl, by omega⟩
              · cases hol
            obtain ⟨hos, hle⟩ := hos
            have hroom : off + len * i.size + m * i.size ≤ xs.length + j1.post.length := by
              have h1 : (len + m) * i.size ≤ (j1.cap - mm) * i.size := Nat.mul_le_mul_right _ hfit
              have h2 : (j1.cap - mm) * i.size = j1.cap * i.size - mm * i.size := Nat.sub_mul ..
              rw [Nat.add_mul] at h1
              have h3 : mm * i.size ≤ j1.cap * i.size := Nat.mul_le_mul_right _ (by omega)
              omega
            have hst := run_storeCells_at P j1.blk (j1.pre.length + (off + len * i.size)) T ns 0 ⟨j1.pre ++ xs ++ j1.post⟩ w hb (by simp [q2]; omega) (oneVs_ok q1 b3)
            let post' := (xs ++ j1.post).drop (off + len * i.size + m * i.size)
            let i' : BI := { blk := j1.blk, pre := j1.pre ++ xs.take off, post := post', cap := j1.cap - mm, sz := i.size }
            have hrow : ((⟨j1.pre ++ xs ++ j1.post⟩ : Array Value).toList.take (j1.pre.length + (off + len * i.size) + 0) ++ ns ++ (⟨j1.pre ++ xs ++ j1.post⟩ : Array Value).toList.drop (j1.pre.length + (off + len * i.size) + 0 + ns.length)).toArray = ⟨i'.pre ++ (os ++ ns) ++ i'.post⟩ := by
              apply congrArg List.toArray
              show (j1.pre ++ xs ++ j1.post).take _ ++ ns ++ (j1.pre ++ xs ++ j1.post).drop _ = (j1.pre ++ xs.take off) ++ (os ++ ns) ++ (xs ++ j1.post).drop _
              rw [List.append_assoc j1.pre xs j1.post, q2, Nat.add_zero, Nat.add_assoc, List.take_append, List.take_of_length_le (by omega), Nat.add_sub_cancel_left, List.drop_append, List.drop_of_length_le (by omega), List.nil_append,
                show j1.pre.length + (off + len * i.size + m * i.size) - j1.pre.length = off + len * i.size + m * i.size by omega, List.take_append_of_le_length hle, List.take_add, ← hos]
              simp only [List.append_assoc]
            rw [hrow] at hst
            have hi' : putR ρ nx i' nx = some i' := putR_self ..
            have hext := putR_ext hf i'
            have hlen' : (j1.cap - mm) * i.size ≤ (os ++ ns).length + post'.length := by
              have h2 : (j1.cap - mm) * i.size = j1.cap * i.size - mm * i.size := Nat.sub_mul ..
              simp only [post', List.length_append, List.length_drop, p2, q2]
              omega
            have hden : denO (putR ρ nx i') i' (.cells (olds ++ news) T) = some (.cells ⟨i'.pre ++ (os ++ ns) ++ i'.post⟩ T (0, 0)) := denO_cells_mk (denL_ext hext (denL_append p1 q1)) hlen'
            have s1 : Sat (blk j1.blk (.cells ⟨j1.pre ++ xs ++ j1.post⟩ T (0, 0)) :: (rest ++ X)) w := sat.perm (d2.append_right X)
            have s2 := s1.put (setRow_heap w j1.blk _ ⟨i'.pre ++ (os ++ ns) ++ i'.post⟩ T (0, 0) hb) (by rfl) (by rfl) (fun k hk => setRow_other w j1.blk k _ hk) (fun _ => rfl)
            have hval : den (putR ρ nx i') (.slc nx 0 (len + m) (.o 0 (len + m) i.size)) = some (.slice (some (j1.at off)) (len + m) (j1.cp (.o mm lb i.size))) := by
              have hok' : i'.ok (.o 0 (len + m) i.size) = true := by
                simp only [BI.ok, i', Bool.and_eq_true]
                exact ⟨Nat.ble_eq_true_of_le (by omega), by simp⟩
              rw [den_slc_mk hi' hok']
              have : i'.at 0 = j1.at off := by
                simp only [BI.at, i', List.length_append, List.length_take]
                congr 1; omega
              rw [this]; rfl
            refine ⟨_, .inl ⟨_, blk i'.blk (.cells ⟨i'.pre ++ (os ++ ns) ++ i'.post⟩ T (0, 0)) :: rest, run_app ha ho hc hax hat g1 g3 (run_append_fit hu hi hfit q2 (q3 w X sat) (by rw [at_add]; exact hst)), s2, putR ρ nx i', hext, putR_fresh hf i', hval, denH_mk hi' hden (denH_ext hext d1)⟩⟩
          · have hrun := run_grow_at (P := P) (ty := o.type) hu hi hz (cap := j1.cap - mm) (c := j2.cp c2) p2 (atRd p2 (p3 w X sat)) q2 (q3 w X sat) (by omega) hb1 hb2
            obtain ⟨own', w', hw, s', hp⟩ := grown_post (nx := nx) (e := T) (z := z) (old := j1.cap - mm) hf d1 (denL_append p1 q1) (by rw [List.length_append, p2, q2, ← Nat.add_mul]) hzs satr
            exact ⟨w', .inl ⟨_, own', run_app ha ho hc hax hat g1 g3 (by rw [hw]; exact hrun), s', hp⟩⟩
        · cases h
      · cases h
    · cases h
theorem appendV_ok {t : TypeId} {c : Call} {x y : Operand} {r : VV × VH × Nat} (hf : Fresh ρ nx) (he : denEnv ρ E = some env) (hH : denH ρ H = some own)
    (ho : o.op = .call c) (hc : c.callee = .builtin .append) (hax : c.args = #[x, y]) (hat : c.argTypes = #[t, t]) (h : appendV P E H nx t x y = some r) : HOp P own n o env (Post ρ r.1 r.2.1 r.2.2) := by
  unfold appendV at h
  split at h
  · rename_i e hu
    split at h
    · rename_i i hi
      split at h
      · rename_i z b off len cp b2 off2 m c2 hz hx hy
        split at h
        · split at h
          · rename_i hle
            cases h
            obtain ⟨v1, g1, g2⟩ := evV_den he hx
            obtain ⟨v2, g3, g4⟩ := evV_den he hy
            obtain ⟨j1, hj1, hok, rfl⟩ := den_slc g2
            obtain ⟨j2, hj2, -, rfl⟩ := den_slc g4
            refine ⟨by rw [ho]; rfl, fun a w X ha sat => ⟨w, .inl ⟨_, own, run_app ha ho hc hax hat g1 g3 (run_append_none hu hi (Nat.le_trans (Nat.le_of_ble_eq_true hle) (BI.lb_le hok)) (.inl ⟨_, _, rfl⟩)), sat, ρ, Ext.refl ρ, hf, g2, hH⟩⟩⟩
          · cases h
        · split at h
          · rename_i news hn b1 b2 b3
            obtain ⟨v1, g1, g2⟩ := evV_den he hx
            obtain ⟨j1, hj1, hok, rfl⟩ := den_slc g2
            exact growV_ok hf he hH ho hc hax hat hu hi hz (Nat.eq_of_beq_eq_true b3) g1 hj1 hok (.inl rfl) hy hn (Nat.succ_pos _) (Nat.le_of_ble_eq_true b1) (Nat.le_of_ble_eq_true b2) h
          · cases h
      · rename_i z b off len cp hz hx hy
        split at h
        · rename_i hle
          cases h
          obtain ⟨v1, g1, g2⟩ := evV_den he hx
          obtain ⟨v2, g3, g4⟩ := evV_den he hy
          cases g4
          obtain ⟨j1, hj1, hok, rfl⟩ := den_slc g2
          refine ⟨by rw [ho]; rfl, fun a w X ha sat => ⟨w, .inl ⟨_, own, run_app ha ho hc hax hat g1 g3 (run_append_none hu hi (Nat.le_trans (Nat.le_of_ble_eq_true hle) (BI.lb_le hok)) (.inr rfl)), sat, ρ, Ext.refl ρ, hf, g2, hH⟩⟩⟩
        · cases h
      · rename_i z b off len cp _ _ _ _ _ hz hx hy
        split at h
        · rename_i hle
          cases h
          obtain ⟨v1, g1, g2⟩ := evV_den he hx
          obtain ⟨v2, g3, g4⟩ := evV_den he hy
          obtain ⟨j1, hj1, hok, rfl⟩ := den_slc g2
          obtain ⟨j2, hj2, -, rfl⟩ := den_tl g4
          exact ⟨by rw [ho]; rfl, fun a w X ha sat => ⟨w, .inl ⟨_, own, run_app ha ho hc hax hat g1 g3 (run_append_none hu hi (Nat.le_trans (Nat.le_of_ble_eq_true hle) (BI.lb_le hok)) (.inl ⟨_, _, rfl⟩)), sat, ρ, Ext.refl ρ, hf, g2, hH⟩⟩⟩
        · cases h
      · rename_i z b off d mm sz b2 off2 m c2 hz hx hy
        obtain ⟨v1, g1, g2⟩ := evV_den he hx
        obtain ⟨j1, hj1, hsz, rfl⟩ := den_tl g2
        split at h
        · cases h
          obtain ⟨v2, g3, g4⟩ := evV_den he hy
          obtain ⟨j2, hj2, -, rfl⟩ := den_slc g4
          exact ⟨by rw [ho]; rfl, fun a w X ha sat => ⟨w, .inl ⟨_, own, run_app ha ho hc hax hat g1 g3 (run_append_none hu hi (Nat.zero_le _) (.inl ⟨_, _, rfl⟩)), sat, ρ, Ext.refl ρ, hf, g2, hH⟩⟩⟩
        · rename_i m'
          split at h
          · rename_i news hn b1 b2 b3
            refine growV_ok (cp := .o mm 0 sz) hf he hH ho hc hax hat hu hi hz (Nat.eq_of_beq_eq_true b3) g1 hj1 ?_ ?_ hy hn (Nat.succ_pos _) (Nat.le_of_ble_eq_true b1) (Nat.le_of_ble_eq_true b2) h
            · simp only [BI.ok, hsz, Nat.beq_refl, Bool.and_true]
              exact Nat.ble_eq_true_of_le (Nat.zero_le _)
            · simp only [BI.cp]
              rcases Nat.eq_zero_or_pos (j1.cap - mm) with h0 | h0
              · exact .inr (by simp [h0])
              · obtain ⟨k, hk⟩ : ∃ k, j1.cap - mm = k + 1 := ⟨j1.cap - mm - 1, by omega⟩
                refine .inl ?_
                rw [hk]; rfl
          · cases h
      · rename_i z b off d mm sz hz hx hy
        cases h
        obtain ⟨v1, g1, g2⟩ := evV_den he hx
        obtain ⟨j1, hj1, hsz, rfl⟩ := den_tl g2
        obtain ⟨v2, g3, g4⟩ := evV_den he hy
        cases g4
        exact ⟨by rw [ho]; rfl, fun a w X ha sat => ⟨w, .inl ⟨_, own, run_app ha ho hc hax hat g1 g3 (run_append_none hu hi (Nat.zero_le _) (.inr rfl)), sat, ρ, Ext.refl ρ, hf, g2, hH⟩⟩⟩
      · rename_i z b off d mm sz _ _ _ _ _ hz hx hy
        cases h
        obtain ⟨v1, g1, g2⟩ := evV_den he hx
        obtain ⟨j1, hj1, hsz, rfl⟩ := den_tl g2
        obtain ⟨v2, g3, g4⟩ := evV_den he hy
        obtain ⟨j2, hj2, -, rfl⟩ := den_tl g4
        exact ⟨by rw [ho]; rfl, fun a w X ha sat => ⟨w, .inl ⟨_, own, run_app ha ho hc hax hat g1 g3 (run_append_none hu hi (Nat.zero_le _) (.inl ⟨_, _, rfl⟩)), sat, ρ, Ext.refl ρ, hf, g2, hH⟩⟩⟩
      · rename_i z _ _ _ _ _ hz hx hy
        cases h
        obtain ⟨v1, g1, g2⟩ := evV_den he hx
        cases g2
        obtain ⟨v2, g3, g4⟩ := evV_den he hy
        obtain ⟨j2, hj2, -, rfl⟩ := den_tl g4
        exact ⟨by rw [ho]; rfl, fun a w X ha sat => ⟨w, .inl ⟨_, own, run_app ha ho hc hax hat g1 g3 (run_append_none0 hu hi), sat, ρ, Ext.refl ρ, hf, rfl, hH⟩⟩⟩
      · rename_i z b2 off2 m c2 hz hx hy
        obtain ⟨v1, g1, g2⟩ := evV_den he hx
        obtain ⟨v2, g3, g4⟩ := evV_den he hy
        cases g2
        obtain ⟨j2, hj2, -, rfl⟩ := den_slc g4
        split at h
        · cases h
          exact ⟨by rw [ho]; rfl, fun a w X ha sat => ⟨w, .inl ⟨_, own, run_app ha ho hc hax hat g1 g3 (run_append_none0 hu hi), sat, ρ, Ext.refl ρ, hf, rfl, hH⟩⟩⟩
        · rename_i m'
          split at h
          · rename_i news hn b1 b2 b3
            cases h
            obtain ⟨ns, q1, q2, q3⟩ := cellsAt_ok hH hj2 hn
            refine ⟨by rw [ho]; rfl, fun a w X ha sat => ?_⟩
            have c1 := Nat.le_of_ble_eq_true b1
            have c3 := Nat.le_of_ble_eq_true b2
            have hrun := run_append_nil (P := P) (w := w) t o.type e i z hu hi hz (j2.at off2) (m' + 1) (j2.cp c2) ns q2 (q3 w X sat) (Nat.succ_pos _) (by omega) (by omega)
            obtain ⟨own', w', hw, s', hp⟩ := grown_post (nx := nx) (e := e) (z := z) (old := 0) hf hH q1 q2 (Nat.eq_of_beq_eq_true b3) sat
            exact ⟨w', .inl ⟨_, own', run_app ha ho hc hax hat g1 g3 (by rw [hw]; exact hrun), s', hp⟩⟩
          · cases h
      · cases h
    · cases h
  · cases h
end
end
end Go.SL
end
section
/- Closed calls, run by the kernel: one operation, whatever it is; the operations of a region in its own order. -/
set_option linter.unusedVariables false
set_option linter.unusedSimpArgs false
namespace Go.SL
noncomputable section

/-- What runs a call: its arguments, the heap, the next number; what comes out, and the same behind it. -/
inductive Who
  | f (f : FuncId)
  | y (b : Nat)
abbrev CallE := Who → List VV → VH → Nat → Option (VV × VH × Nat)
structure RecOk (P : Program) (call : CallE) : Prop where
  f : ∀ f args H nx r, call (.f f) args H nx = some r → ∀ ρ xs own, Fresh ρ nx → denL ρ args = some xs → denH ρ H = some own →
    T P f xs own fun e own' => ∃ v, e = .returned v ∧ Post ρ r.1 r.2.1 r.2.2 v own'
  y : ∀ b args H nx r, call (.y b) args H nx = some r → ∀ ρ xs own i, Fresh ρ nx → denL ρ args = some xs → denH ρ H = some own → ρ b = some i →
    ∀ n env o c x, o.op = .call c → c.callee = .value x → ev env x = some (.func (.yield i.blk) #[] #[]) → evs env c.args.toList = some xs → HOp P own n o env (Post ρ r.1 r.2.1 r.2.2)
def entersB (P : Program) (f : FuncId) : Bool := match P.funcs[f]? with
  | some fn => !(fn.name == "runtime.NumGoroutine") && !fn.body.isNone
  | none => false
theorem entersB_ok {P : Program} {f : FuncId} (h : entersB P f = true) : Enters P f := ⟨fun args w => by
  unfold entersB at h
  split at h
  · rename_i fn hf
    simp only [Bool.and_eq_true, Bool.not_eq_true'] at h
    unfold callFunc
    simp only [Go.program, Sem.run_bind]
    simp [Sem.run, Result.andThen, hf, h.1, h.2]
  · cases h⟩
def funOf : VV → Option (FuncId × List VV × List VV)
  | .lit (.func (.func f) ⟨a⟩ ⟨c⟩) => some (f, lits a, lits c)
  | .fn (.func f) a c => some (f, a, c)
  | _ => none
theorem funOf_ok {ρ : Rn} {v : VV} {f : FuncId} {a c : List VV} {y : Value} (hy : den ρ v = some y) (h : funOf v = some (f, a, c)) : ∃ xs ys, denL ρ a = some xs ∧ denL ρ c = some ys ∧ y = .func (.func f) ⟨xs⟩ ⟨ys⟩ := by
  unfold funOf at h
  split at h
  · cases h; cases hy; exact ⟨_, _, denL_lits _, denL_lits _, rfl⟩
  · cases h; exact den_fn hy
  · cases h
def with0 (nx : Nat) : Option VH → Option (VV × VH × Nat)
  | some H => some (.lit undef, H, nx)
  | none => none
def evCall (P : Program) (call : CallE) (H : VH) (nx : Nat) (E : VE) (c : Call) (x : Operand) : Option (VV × VH × Nat) := match evV E x with
  | some (.yl b) => match evsV E c.args.toList with
    | some vs => call (.y b) vs H nx
    | none => none
  | some u => match funOf u, evsV E c.args.toList with
    | some (f, a, k), some vs => match entersB P f with
      | true => call (.f f) (a ++ vs ++ k) H nx
      | false => none
    | _, _ => none
  | none => none
def new3 (nx : Nat) (H : VH) : Option (NK × VO) → Option (VV × VH × Nat)
  | some (k, vo) => some (k.vv nx, (nx, vo) :: H, nx + 1)
  | none => none
def quiet3 (nx : Nat) (H : VH) : Option VV → Option (VV × VH × Nat)
  | some v => some (v, H, nx)
  | none => none
def opAppend (P : Program) (H : VH) (nx : Nat) (E : VE) (c : Call) : Option (VV × VH × Nat) := match c.args.toList, c.argTypes.toList with
  | [x, y], [t, t'] => match Nat.beq t t' with
    | true => appendV P E H nx t x y
    | false => none
  | _, _ => none
def opCopy (P : Program) (H : VH) (nx : Nat) (E : VE) (c : Call) : Option (VV × VH × Nat) := match c.args.toList, c.argTypes.toList with
  | [x, y], [t, _] => match copyV P E H t x y with
    | some (v, H') => some (v, H', nx)
    | none => none
  | _, _ => none
def opClear (P : Program) (H : VH) (nx : Nat) (E : VE) (c : Call) : Option (VV × VH × Nat) := match c.args.toList, c.argTypes.toList with
  | [x], [t] => match clearV P E H t x with
    | some H' => some (.lit (.tuple #[]), H', nx)
    | none => none
  | _, _ => none
def opCall (P : Program) (call : CallE) (H : VH) (nx : Nat) (E : VE) (o : Oper) (c : Call) : Option (VV × VH × Nat) := match c.callee with
  | .value x => evCall P call H nx E c x
  | .builtin .append => opAppend P H nx E c
  | .builtin .copy => opCopy P H nx E c
  | .builtin .clear => opClear P H nx E c
  | _ => quiet3 nx H (evQ P H E o)
def evOp (P : Program) (call : CallE) (H : VH) (nx : Nat) (E : VE) (o : Oper) : Option (VV × VH × Nat) := match o.op with
  | .alloc _ | .box _ _ | .buildSlice _ _ _ | .makeSlice _ _ _ | .makeMap _ _ => new3 nx H (newV P E o)
  | .store t x y => with0 nx (storeV P E H t x y)
  | .insert t m k x | .mapUpdate t m k x => with0 nx (insertV P E H t m k x)
  | .call c => opCall P call H nx E o c
  | _ => quiet3 nx H (evQ P H E o)

section
variable {P : Program} {call : CallE} {ρ : Rn} {E : VE} {env : Env} {H : VH} {own hs : List Heap} {n nx : Nat} {o : Oper} {r : VV × VH × Nat}
theorem hop_evQ {v : VV} (hf : Fresh ρ nx) (he : denEnv ρ E = some env) (hH : denH ρ H = some own) (h : evQ P H E o = some v) : HOp P own n o env (Post ρ v H nx) :=
  hop_quiet hf hH (evQ_ok he hH (fun _ h => h) h)
theorem evCall_ok (hc : RecOk P call) {c : Call} {x : Operand} (hf : Fresh ρ nx) (he : denEnv ρ E = some env) (hH : denH ρ H = some own) (ho : o.op = .call c) (hcal : c.callee = .value x) (h : evCall P call H nx E c x = some r) :
    HOp P own n o env (Post ρ r.1 r.2.1 r.2.2) := by
  unfold evCall at h
  split at h
  · rename_i b hu
    split at h
    · rename_i vs hvs
      obtain ⟨y, g1, g2⟩ := evV_den he hu
      obtain ⟨i, hi, rfl⟩ := den_yl g2
      obtain ⟨zs, g5, g6⟩ := evsV_den he hvs
      exact hc.y b _ H nx r h ρ _ own i hf g6 hH hi n env o c x ho hcal g1 g5
    · cases h
  · rename_i u hu
    split at h
    · rename_i f a k vs hfu hvs
      split at h
      · rename_i hen
        haveI := entersB_ok hen
        obtain ⟨y, g1, g2⟩ := evV_den he hu
        obtain ⟨xs, ys, g3, g4, rfl⟩ := funOf_ok g2 hfu
        obtain ⟨zs, g5, g6⟩ := evsV_den he hvs
        have hl := denL_append (denL_append g3 g6) g4
        exact hop_call (vall := xs ++ zs ++ ys) ho hcal g1 g5 (by simp [appO, app2_some]) (hc.f f _ H nx r h ρ _ own hf hl hH)
      · cases h
    · cases h
  · cases h
theorem with0_some {nx : Nat} {q : Option VH} (h : with0 nx q = some r) : ∃ H', q = some H' ∧ r = (.lit undef, H', nx) := by
  cases q with
  | none => cases h
  | some H' => cases h; exact ⟨H', rfl, rfl⟩
theorem evOp_ok (hc : RecOk P call) (hf : Fresh ρ nx) (he : denEnv ρ E = some env) (hH : denH ρ H = some own) (h : evOp P call H nx E o = some r) : HOp P own n o env (Post ρ r.1 r.2.1 r.2.2) := by
  have new : ∀ {q : Option (NK × VO)}, newV P E o = q → new3 nx H q = some r → HOp P own n o env (Post ρ r.1 r.2.1 r.2.2) := fun {q} hq hr => by
    cases q with
    | none => cases hr
    | some kv => obtain ⟨k, vo⟩ := kv; cases hr; exact hop_new hf hH (newV_ok he hq)
  have qt : quiet3 nx H (evQ P H E o) = some r → HOp P own n o env (Post ρ r.1 r.2.1 r.2.2) := fun hr => by
    cases hq : evQ P H E o with
    | none => rw [hq] at hr; cases hr
    | some v => rw [hq] at hr; cases hr; exact hop_evQ hf he hH hq
  unfold evOp at h
  split at h
  · exact new rfl h
  · exact new rfl h
  · exact new rfl h
  · exact new rfl h
  · exact new rfl h
  · rename_i t x y ho
    obtain ⟨H', hs, rfl⟩ := with0_some h
    exact storeV_ok hf he hH ho hs
  · rename_i t m k x ho
    obtain ⟨H', hs, rfl⟩ := with0_some h
    exact insertV_ok hf he hH (.inl ho) hs
  · rename_i t m k x ho
    obtain ⟨H', hs, rfl⟩ := with0_some h
    exact insertV_ok hf he hH (.inr ho) hs
  · rename_i c ho
    unfold opCall at h
    split at h
    · rename_i x hcal
      exact evCall_ok hc hf he hH ho hcal h
    · rename_i hcal
      unfold opAppend at h
      split at h
      · rename_i x y t t' hx ht
        split at h
        · rename_i hb
          have := Nat.eq_of_beq_eq_true hb; subst this
          exact appendV_ok hf he hH ho hcal (Array.ext' (by simpa using hx)) (Array.ext' (by simpa using ht)) h
        · cases h
      · cases h
    · rename_i hcal
      unfold opCopy at h
      split at h
      · rename_i x y t t' hx ht
        split at h
        · rename_i v H' hcp
          cases h
          exact copyV_ok hf he hH ho hcal (Array.ext' (by simpa using hx)) (Array.ext' (by simpa using ht)) hcp
        · cases h
      · cases h
    · rename_i hcal
      unfold opClear at h
      split at h
      · rename_i x t hx ht
        split at h
        · rename_i H' hcl
          cases h
          exact clearV_ok hf he hH ho hcal (Array.ext' (by simpa using hx)) (Array.ext' (by simpa using ht)) hcl
        · cases h
      · cases h
    · exact qt h
  · exact qt h

/-! ### Guards -/
def wantedV (all : Array Oper) (E : VE) (o : Oper) : Option Bool := match o.guard with
  | none => some true
  | some (j, want) => match nthF all.toList j with
    | some p => match p.dst with
      | some d => match lookV E d with
        | some (.lit (.bool b)) => some (b == want)
        | some (.lit _) => some false
        | _ => none
      | none => none
    | none => none
theorem wantedV_ok {all : Array Oper} {t : Bool} (he : denEnv ρ E = some env) (h : wantedV all E o = some t) : wantedE all env o = some t := by
  unfold wantedV at h
  unfold wantedE
  cases hg : o.guard with
  | none => rw [hg] at h; exact h
  | some p =>
    obtain ⟨j, want⟩ := p
    rw [hg] at h
    simp only at h ⊢
    split at h
    · rename_i q hq
      rw [nthF_eq, nth_eq, Array.getElem?_toList] at hq
      split at h
      · rename_i d hd
        have e1 : (all[j]?).bind (·.dst) = some d := by rw [hq]; exact hd
        rw [e1]
        simp only
        split at h
        · rename_i b hb
          obtain ⟨x, g1, g2⟩ := lookV_den he hb
          cases g2; rw [g1]; exact h
        · rename_i v hnb hv
          obtain ⟨x, g1, g2⟩ := lookV_den he hv
          cases g2; rw [g1]
          cases h
          cases v <;> first | rfl | exact (hnb _ rfl).elim
        · cases h
      · cases h
    · cases h

/-! ### The operations, one behind the other -/
def setE (E : VE) (d : Option Nat) (v : VV) : VE := match d with
  | some d => (d, v) :: E
  | none => E
def dstOk (n : Nat) : Option Nat → Bool
  | some d => Nat.blt d n
  | none => true
abbrev KOps := VE → VH → Nat → Option (VE × VH × Nat)
def contO (d : Option Nat) (E : VE) (k : KOps) : Option (VV × VH × Nat) → Option (VE × VH × Nat)
  | some (v, H', nx') => fVV v fun v => fN nx' fun nx' => k (setE E d v) H' nx'
  | none => none
def passO (o : Oper) (E : VE) (H : VH) (nx : Nat) (k : KOps) : Option (VE × VH × Nat) := match plainOp o.op with
  | true => k (setE E o.dst (.lit undef)) H nx
  | false => none
def wantO (P : Program) (call : CallE) (o : Oper) (E : VE) (H : VH) (nx : Nat) (k : KOps) : Option Bool → Option (VE × VH × Nat)
  | some true => contO o.dst E k (evOp P call H nx E o)
  | some false => passO o E H nx k
  | none => none
def stepO (P : Program) (call : CallE) (n : Nat) (all : Array Oper) (o : Oper) (k : KOps) (E : VE) (H : VH) (nx : Nat) : Option (VE × VH × Nat) := match dstOk n o.dst with
  | true => wantO P call o E H nx k (wantedV all E o)
  | false => none
def evOpsS (P : Program) (call : CallE) (n : Nat) (all : Array Oper) : List Oper → KOps
  | [], E, H, nx => some (E, H, nx)
  | o :: l, E, H, nx => stepO P call n all o (evOpsS P call n all l) E H nx
def evOps (P : Program) (call : CallE) (n : Nat) (all : Array Oper) (l : List Oper) : KOps :=
  List.rec (motive := fun _ => KOps) (fun E H nx => some (E, H, nx)) (fun o _ ih => stepO P call n all o ih) l
theorem evOps_cons {P : Program} {call : CallE} {n : Nat} {all : Array Oper} {o : Oper} {l : List Oper} {E : VE} {H : VH} {nx : Nat} : evOps P call n all (o :: l) E H nx = match dstOk n o.dst with
    | true => match wantedV all E o with
      | some true => match evOp P call H nx E o with
        | some (v, H', nx') => fVV v fun v => fN nx' fun nx' => evOps P call n all l (setE E o.dst v) H' nx'
        | none => none
      | some false => match plainOp o.op with
        | true => evOps P call n all l (setE E o.dst (.lit undef)) H nx
        | false => none
      | none => none
    | false => none := by
  show stepO P call n all o (evOps P call n all l) E H nx = _
  unfold stepO
  cases dstOk n o.dst with
  | false => rfl
  | true =>
    simp only []
    cases wantedV all E o with
    | none => rfl
    | some b =>
      cases b with
      | true =>
        simp only [wantO]
        cases evOp P call H nx E o <;> rfl
      | false =>
        rfl
theorem sl_hopA {all : Array Oper} {l : List Oper} {r : Option Nat} {F : Heap} {Q : SPost} {ds : List Deferred} {R : Value → List Heap → Prop} (hd : dstOk n o.dst = true) (hg : wantedE all env o = some true) (h : HOp P own n o env R)
    (hr : ∀ v own', R v own' → SOL false P r F n all l Q (match o.dst with | some d => (d, v) :: env | none => env) own' ds) : SOL false P r F n all (o :: l) Q env own ds := fun k hk => by
  obtain ⟨i, k', rfl, hi, hk'⟩ := unl hk
  intro a w ha hds hs'
  rw [wpOpsIn_cons]
  refine hop_wp (X := [F]) h hi (wanted_of ha hg) ha rfl (hs'.perm (List.perm_append_comm (l₁ := [F]) (l₂ := own))) fun v own' w' hR s => ?_
  have h2 := hr v own' hR
  cases hdd : o.dst with
  | none =>
    rw [hdd] at h2
    exact h2 k' hk' _ w' ha hds (s.perm (List.perm_append_comm (l₁ := own') (l₂ := [F])))
  | some d =>
    rw [hdd] at h2 hd
    exact h2 k' hk' _ w' (ha.put v (Nat.le_of_ble_eq_true hd)) hds (s.perm (List.perm_append_comm (l₁ := own') (l₂ := [F])))
theorem setE_den {d : Option Nat} {v : VV} {x : Value} (he : denEnv ρ E = some env) (hv : den ρ v = some x) : denEnv ρ (setE E d v) = some (match d with | some d => (d, x) :: env | none => env) := by
  cases d with
  | none => exact he
  | some d => exact denEnv_mk hv he
/-- What stands behind a piece of code. -/
def Cont (ρ : Rn) (E : VE) (H : VH) (nx : Nat) (K : Env → List Heap → Prop) : Prop := ∀ ρ' env own, Ext ρ ρ' → Fresh ρ' nx → denEnv ρ' E = some env → denH ρ' H = some own → K env own
theorem Cont.ext {ρ ρ' : Rn} {E : VE} {H : VH} {nx : Nat} {K : Env → List Heap → Prop} (h : Cont ρ E H nx K) (e : Ext ρ ρ') : Cont ρ' E H nx K := fun ρ2 env own e2 => h ρ2 env own (e.trans e2)
theorem evOps_ok (hc : RecOk P call) {all : Array Oper} {rd : Option Nat} {F : Heap} {Q : SPost} {ds : List Deferred} : ∀ {l : List Oper} {E : VE} {H : VH} {nx : Nat} {env : Env} {own : List Heap} {ρ : Rn} {E' : VE} {H' : VH} {nx' : Nat}, evOps P call n all l E H nx = some (E', H', nx') →
    Fresh ρ nx → denEnv ρ E = some env → denH ρ H = some own → Cont ρ E' H' nx' (fun env own => Q .normal env own ds) → SOL false P rd F n all l Q env own ds
  | [], E, H, nx, env, own, ρ, E', H', nx', h, hf, he, hH, hk => by cases h; exact sl_nil (hk ρ env own (Ext.refl ρ) hf he hH)
  | o :: l, E, H, nx, env, own, ρ, E', H', nx', h, hf, he, hH, hk => by
    rw [evOps_cons] at h
    split at h
    · rename_i hd
      split at h
      · rename_i hw
        split at h
        · rename_i v H1 nx1 hop
          rw [fVV_eq, fN_eq] at h
          refine sl_hopA hd (wantedV_ok he hw) (evOp_ok hc hf he hH hop) ?_
          rintro x own1 ⟨ρ1, e1, f1, d1, h1⟩
          exact evOps_ok hc h f1 (setE_den (denEnv_ext e1 he) d1) h1 (hk.ext e1)
        · cases h
      · rename_i hw
        split at h
        · rename_i hp
          cases hdd : o.dst with
          | none =>
            rw [hdd] at h
            exact sl_pass0 hdd (wantedV_ok he hw) hp (evOps_ok hc h hf he hH hk)
          | some d =>
            rw [hdd] at h hd
            exact sl_pass hdd hd (wantedV_ok he hw) hp (evOps_ok hc h hf (setE_den (d := some d) he (v := .lit undef) rfl) hH hk)
        · cases h
      · cases h
    · cases h
end
end
end Go.SL
end
