/- Closed calls, run by the kernel: new blocks; stores. -/
import Derived.Test.YtnfepffmlhmmhaaSlV6
set_option linter.unusedVariables false
set_option linter.unusedSimpArgs false
namespace Go.SL
noncomputable section

def Fresh (ρ : Rn) (nx : Nat) : Prop := ∀ b, nx ≤ b → ρ b = none
def putR (ρ : Rn) (b : Nat) (i : BI) : Rn := fun k => if k = b then some i else ρ k
theorem putR_self (ρ : Rn) (b : Nat) (i : BI) : putR ρ b i b = some i := by simp [putR]
theorem putR_ext {ρ : Rn} {nx : Nat} (h : Fresh ρ nx) (i : BI) : Ext ρ (putR ρ nx i) := fun b j hb => by
  by_cases e : b = nx
  · subst e; rw [h b (Nat.le_refl _)] at hb; cases hb
  · simp only [putR, if_neg e]; exact hb
theorem putR_fresh {ρ : Rn} {nx : Nat} (h : Fresh ρ nx) (i : BI) : Fresh (putR ρ nx i) (nx + 1) := fun b hb => by
  simp only [putR]; rw [if_neg (by omega)]; exact h b (by omega)

/-! ### New blocks -/
inductive NK
  | p
  | s (len cap : Nat)
  | m
def NK.vv (b : Nat) : NK → VV
  | .p => .ptr b 0
  | .s l c => .slc b 0 l (.k c)
  | .m => .mp b
def NK.val (β : Nat) : NK → Value
  | .p => .pointer (some ⟨β, 0, none⟩)
  | .s l c => .slice (some ⟨β, 0, none⟩) l c
  | .m => .map (some β)
theorem NK.den {ρ : Rn} {b : Nat} {i : BI} (h : ρ b = some i) (hp : i.pre = []) (k : NK) : SL.den ρ (k.vv b) = some (k.val i.blk) := by
  cases k <;> simp [NK.vv, NK.val, SL.den, h, BI.at, BI.ok, BI.cp, hp]
def newV (P : Program) (E : VE) (o : Oper) : Option (NK × VO) := match o.op with
  | .alloc t => match zeroV P t with
    | some z => some (.p, .cells (cellsV (.lit z)) t)
    | none => none
  | .box t x => match evV E x with
    | some u => some (.p, .cells (cellsV u) t)
    | none => none
  | .buildSlice t len ps => match P.underlying t with
    | some (.slice e) => match P.info? e with
      | some i => match i.zero, evpsV E ps.toList, P.underlying e with
        | some z, some qs, some _ => match cellsO z with
          | some zc => match Nat.beq zc.length i.size, zrep len zc, Nat.ble (len * i.size) 16777216 with
            | true, some zs, true => match buildVO (fun j => some (j * i.size, i.size)) (lits zs) qs with
              | some cs => some (.s len len, .cells cs e)
              | none => none
            | _, _, _ => none
          | none => none
        | _, _, _ => none
      | none => none
    | _ => none
  | .makeSlice t l c => match P.underlying t with
    | some (.slice e) => match P.info? e with
      | some i => match i.zero, intOf E l, intOf E c with
        | some z, some l, some c => match cellsO z with
          | some zc => match decide (0 ≤ l), decide (l ≤ c), Nat.beq zc.length i.size, Nat.ble (c.toNat * i.size) 16777216, Nat.ble (i.bytes * c.toNat) 70368744177664 with
            | true, true, true, true, true => match Nat.ble c.toNat 16777216, zrep c.toNat zc with
              | true, some zs => some (.s l.toNat c.toNat, .cells (lits zs) e)
              | _, _ => none
            | _, _, _, _, _ => none
          | none => none
        | _, _, _ => none
      | none => none
    | _ => none
  | .makeMap t none => some (.m, .map [] 0)
  | _ => none
def NewOk (P : Program) (ρ : Rn) (n : Nat) (o : Oper) (env : Env) (k : NK) (vo : VO) : Prop := ∃ ob, (∀ i : BI, i.pre = [] → i.post = [] → i.cap = 0 → denO ρ i vo = some ob) ∧ NewOp P n o env (fun β => k.val β) ob

section
variable {P : Program} {ρ : Rn} {E : VE} {env : Env} {H : VH} {own hs : List Heap} {n : Nat} {o : Oper}
theorem cells_new {l : List VV} {xs : List Value} {T : TypeId} (h : denL ρ l = some xs) : ∀ i : BI, i.pre = [] → i.post = [] → i.cap = 0 → denO ρ i (.cells l T) = some (.cells ⟨xs⟩ T (0, 0)) := fun i h1 h2 h3 => by
  rw [denO_cells_mk h (by rw [h3]; omega), h1, h2]; simp
theorem zeros_eq {zc zs : List Value} {len sz : Nat} (hzl : zc.length = sz) (hz : zrep len zc = some zs) : ((Array.range (len * sz)).map fun j => (⟨zc⟩ : Array Value)[j % (⟨zc⟩ : Array Value).size]!) = ⟨zs⟩ := by
  have hzr := zrep_eq zc len
  rw [hz] at hzr
  simp only [Option.some.injEq] at hzr
  apply Array.ext'
  apply List.ext_getElem?
  intro j
  have hs0 : (⟨zc⟩ : Array Value).size = sz := hzl
  rw [hs0]
  by_cases hj : j < len * sz
  · have hszpos : 0 < sz := Nat.pos_of_ne_zero fun e => by rw [e] at hj; simp at hj
    have hm : j % sz < zc.length := by rw [hzl]; exact Nat.mod_lt _ hszpos
    rw [hzr, zrep_at zc len j (by rw [hzl]; exact hj), hzl]
    simp [hj, hm]
  · rw [hzr, List.getElem?_eq_none (by simp; omega), List.getElem?_eq_none (by simp [hzl]; omega)]
theorem newV_ok {k : NK} {vo : VO} (he : denEnv ρ E = some env) (h : newV P E o = some (k, vo)) : NewOk P ρ n o env k vo := by
  unfold newV at h
  split at h
  · rename_i t ho
    split at h
    · rename_i z hz
      cases h
      obtain ⟨xs, g1, g2⟩ := cellsV_den (ρ := ρ) (v := .lit z) rfl
      refine ⟨_, cells_new g2, by rw [ho]; rfl, fun _ => by simp [fzo], fun a w _ => ?_⟩
      simp [execOp, ho, Instr.alloc, zeroV_run hz, newVar, newRow, cellsO_eq g1, NK.val]
    · cases h
  · rename_i t x ho
    split at h
    · rename_i u hu
      cases h
      obtain ⟨y, g1, g2⟩ := evV_den he hu
      obtain ⟨xs, g3, g4⟩ := cellsV_den g2
      exact ⟨_, cells_new g4, new_box ho g1 g3⟩
    · cases h
  · rename_i t len ps ho
    split at h
    · rename_i e hu
      split at h
      · rename_i i hi
        split at h
        · rename_i z qs de hz hq hde
          split at h
          · rename_i zc hzc
            split at h
            · rename_i zs b1 hzs b2
              split at h
              · rename_i cs hcs
                cases h
                have hl := Nat.eq_of_beq_eq_true b1
                obtain ⟨ps', ys, g1, g2, g3⟩ := build_den he hq (denL_lits zs) hcs
                haveI : TyG P t e i.size i.bytes := tyG_mk hu hi hz (by rw [cellsO_eq hzc]; simpa using hl) rfl rfl
                haveI : Ty P e de z i := ⟨hde, zeroV_run (by simp only [zeroV, hi, hz]), hi⟩
                exact ⟨_, cells_new g3, new_buildSlice ho g1 hzc hl hzs g2 b2⟩
              · cases h
            · cases h
          · cases h
        · cases h
      · cases h
    · cases h
  · rename_i t l c ho
    split at h
    · rename_i e hu
      split at h
      · rename_i i hi
        split at h
        · rename_i z l c hz hl hc
          split at h
          · rename_i zc hzc
            split at h
            · rename_i b1 b2 b3 b4 b5
              split at h
              · rename_i zs b6 hzs
                cases h
                obtain ⟨kl, hl'⟩ := intOf_ok he hl
                obtain ⟨kc, hc'⟩ := intOf_ok he hc
                have c1 := of_decide_eq_true b1
                have c2 := of_decide_eq_true b2
                have c3 := Nat.eq_of_beq_eq_true b3
                have c4 := Nat.le_of_ble_eq_true b4
                have c5 := Nat.le_of_ble_eq_true b5
                have c6 := Nat.le_of_ble_eq_true b6
                refine ⟨_, cells_new (denL_lits zs), by rw [ho]; rfl, fun _ => by simp [fzo], fun a w ha => ?_⟩
                have wl : IntKind.i64.wrap l = l := wrap64_id (by omega) (by omega)
                have wc : IntKind.i64.wrap c = c := wrap64_id (by omega) (by omega)
                have hb : ¬ (281474976710656 < (i.bytes : Int) * c) := by
                  have : (i.bytes : Int) * c = ((i.bytes * c.toNat : Nat) : Int) := by rw [Int.natCast_mul, Int.toNat_of_nonneg (by omega)]
                  omega
                have hn : ¬ (c < 0) := by omega
                have hn2 : ¬ (l < 0) := by omega
                have hn3 : ¬ (c < l) := by omega
                have hroom : ∀ w : World, (askRoom (c.toNat * i.bytes)).run P w = .ok () w := fun w => by unfold askRoom; split <;> simp
                have hzz := zeros_eq c3 hzs
                have hzz' : ((Array.range (c.toNat * i.size)).map fun x => z.cells[x % z.cells.size]!) = ⟨zs⟩ := by rw [cellsO_eq hzc]; exact hzz
                have hzn : ∀ w, (zeroValue e).run P w = .ok z w := zeroV_run (by simp only [zeroV, hi, hz])
                have hbig : ¬ 16777216 < c.toNat * i.size := by omega
                by_cases h0 : c.toNat * i.size = 0
                · have hzs0 : zs = [] := by
                    have : zs.length = c.toNat * i.size := by have hzr := zrep_eq zc c.toNat; rw [hzs] at hzr; cases hzr; simp [c3]
                    rw [h0] at this; exact List.length_eq_zero_iff.1 this
                  subst hzs0
                  simp [execOp, ho, ha.eval hl', ha.eval hc', Instr.makeSlice, run_und hu, asInt, asIntOf, run_info hi, wl, wc, hb, hn, hn2, hn3, hroom, run_size hi, h0, newRow, NK.val, show (Array.range 0).map (fun (_ : Nat) => (default : Value)) = ⟨[]⟩ by simp]
                · simp [execOp, ho, ha.eval hl', ha.eval hc', Instr.makeSlice, run_und hu, asInt, asIntOf, run_info hi, wl, wc, hb, hn, hn2, hn3, hroom, run_size hi, h0, newRow, NK.val, hzn, hzz']
              · cases h
            · cases h
          · cases h
        · cases h
      · cases h
    · cases h
  · rename_i t ho
    cases h
    refine ⟨.map #[] 0, fun i _ _ _ => rfl, by rw [ho]; rfl, fun _ => rfl, fun a w ha => ?_⟩
    simp [execOp, ho, Instr.makeMap, NK.val]
  · cases h
end
end
end Go.SL
