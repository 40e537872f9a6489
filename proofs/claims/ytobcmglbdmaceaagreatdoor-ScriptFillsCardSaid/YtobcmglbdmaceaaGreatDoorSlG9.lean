/- Blocks within a heap that turn; pointers that are nil, and such that are not. -/
import Derived.Test.YtobcmglbdmaceaaGreatDoorSlG8
set_option linter.unusedVariables false
set_option linter.unusedSimpArgs false
set_option linter.unusedSectionVars false
section
namespace Go.SL
/-- A heap in which one block turned. -/
def updB (h : Heap) (b : Nat) (o : Obj) : Heap := fun k => match k with
  | .b n => if n = b then some (.o o) else h (.b n)
  | k => h k
theorem updB_self (h : Heap) (b : Nat) (o : Obj) : updB h b o (.b b) = some (.o o) := by simp [updB]
theorem updB_ne {h : Heap} {b c : Nat} {o : Obj} (e : c ≠ b) : updB h b o (.b c) = h (.b c) := by simp [updB, e]
instance InH.upd {h : Heap} {b : Nat} {o : Obj} : InH (updB h b o) b o := ⟨updB_self h b o⟩
theorem InH.upd_ne {h : Heap} {b c : Nat} {o o' : Obj} (i : InH h c o') (e : c ≠ b) : InH (updB h b o) c o' := ⟨by rw [updB_ne e]; exact i.eq⟩
theorem Sat.setU {h : Heap} {hs : List Heap} {w w' : World} {b : Nat} {o o' : Obj} (s : Sat (h :: hs) w) (hin : h (.b b) = some (.o o)) (hb' : w'.heap[b]? = some o') (h1 : w'.os = w.os) (h2 : w'.output = w.output) (h3 : ∀ k, k ≠ b → w'.heap[k]? = w.heap[k]?)
    (h4 : ∀ off, fzo o' off = fzo o off) : Sat (updB h b o' :: hs) w' := by
  have hb : w.heap[b]? = some o := wh_b.1 (s.le _ (List.mem_cons_self ..) _ _ hin)
  have h4' : ∀ off, w'.frozen? ⟨b, off, none⟩ = w.frozen? ⟨b, off, none⟩ := fun off => by rw [frozen_at hb', frozen_at hb, h4]
  have kb := wh_but (size_same fun k => by
    by_cases e : k = b
    · rw [e, hb', hb]; rfl
    · rw [h3 k e]) h1 h2 h3 h4'
  refine s.upd (fun k u hk => ?_) (fun k u hk hu => ?_) (fun k u hk => ?_)
  · by_cases e : k = .b b
    · subst e
      rw [updB_self] at hk; cases hk
      exact wh_b.2 hb'
    · rw [kb k e]
      refine s.le _ (List.mem_cons_self ..) _ _ ?_
      cases k with
      | b n => rwa [updB_ne (fun e' => e (by rw [e']))] at hk
      | os => exact hk
      | fz n => exact hk
  · rw [kb k (fun e => by subst e; rw [hin] at hk; cases hk)]; exact hu
  · cases k with
    | b n =>
      by_cases e : n = b
      · subst e; exact .inr ⟨_, hin⟩
      · rw [updB_ne e] at hk; exact .inr ⟨_, hk⟩
    | os => exact .inr ⟨_, hk⟩
    | fz n => exact .inr ⟨_, hk⟩
theorem hop_storeU {P : Program} {n : Nat} {o : Oper} {env : Env} {t T : TypeId} {x y : Operand} {b off : Nat} {h : Heap} {v : Value} {cs vs cs' : List Value} {d : TypeDesc} {z : Value} {ti : TypeInfo} [ty : Ty P t d z ti]
    (hin : InH h b (.cells ⟨cs⟩ T (0, 0))) (ho : o.op = .store t x y) (hx : ev env x = some (.pointer (some ⟨b, off, none⟩))) (hy : ev env y = some v)
    (hv : cellsO v = some vs) (hsz : vs.length = ti.size) (h1 : vs.all (·.oneCell') = true) (hc : spliceO cs off vs = some cs') :
    HOp P [h] n o env fun _ own' => own' = [updB h b (.cells ⟨cs'⟩ T (0, 0))] := by
  refine ⟨by rw [ho]; rfl, fun a w X ha hs => ?_⟩
  obtain ⟨g1, g2⟩ := spliceO_eq hc
  have s1 : Sat (h :: X) w := by simpa using hs
  have hb : w.heap[b]? = some (.cells ⟨cs⟩ T (0, 0)) := s1.at (List.mem_cons_self ..) hin.eq
  have hst := run_storeCells_at P b off T vs 0 ⟨cs⟩ w hb (by simpa using g2) (by simpa using h1)
  have hrow : ((⟨cs⟩ : Array Value).toList.take (off + 0) ++ vs ++ (⟨cs⟩ : Array Value).toList.drop (off + 0 + vs.length)).toArray = ⟨cs'⟩ := by rw [g1]; rfl
  rw [hrow] at hst
  have hc' := cellsO_eq hv
  have hrun : (execOp a.eval o).run P w = .ok .skip (w.setRow b ⟨cs'⟩) := by
    simp [execOp, ho, Instr.storeAt, ha.eval hx, ha.eval hy, Instr.sureAddr, storeVar, run_size ty.i, hc', hsz, hst]
  refine ⟨w.setRow b ⟨cs'⟩, .inr (.inl ⟨_, hrun, ?_, rfl⟩)⟩
  have s2 := s1.setU hin.eq (setRow_heap w b _ ⟨cs'⟩ T (0, 0) hb) (by rfl) (by rfl) (fun k hk => setRow_other w b k _ hk) (fun _ => rfl)
  simpa using s2
section
variable {P : Program} {r : Option Nat} {F : Heap} {n : Nat} {Q : SPost} {env : Env} {own rest hs prot : List Heap} {ds : List Deferred} {all : Array Oper} {l : List Oper} {o : Oper} {s : List Sg} {an : An}
theorem sl_storeU {t T : TypeId} {x y : Operand} {b off : Nat} {h : Heap} {v : Value} {cs vs cs' : List Value} {d : TypeDesc} {z : Value} {ti : TypeInfo} [ty : Ty P t d z ti]
    (hd : o.dst = none) (hg : wantedE all env o = some true) (ho : o.op = .store t x y) (hx : ev env x = some (.pointer (some ⟨b, off, none⟩))) (hy : ev env y = some v) (hin : InH h b (.cells ⟨cs⟩ T (0, 0))) [tk : TakeL own [h] rest]
    (hv : cellsO v = some vs) (hsz : vs.length = ti.size) (h1 : vs.all (·.oneCell') = true) (hc : spliceO cs off vs = some cs')
    (next : SOL false P r F n all l Q env (updB h b (.cells ⟨cs'⟩ T (0, 0)) :: rest) ds) : SOL false P r F n all (o :: l) Q env own ds :=
  sl_hop0 hd hg (hop_storeU hin ho hx hy hv hsz h1 hc) fun v' own' hR => by
    subst hR; exact ⟨_, rfl, next⟩
theorem chu_storeU {m : Nat} {t T : TypeId} {x y : Operand} {b off : Nat} {h : Heap} {v : Value} {cs vs cs' : List Value} {d : TypeDesc} {z : Value} {ti : TypeInfo} [ty : Ty P t d z ti]
    (hi : all[m]? = some o) (hd : o.dst = none) (hg : wantedE all env o = some true) (ho : o.op = .store t x y) (hx : ev env x = some (.pointer (some ⟨b, off, none⟩))) (hy : ev env y = some v) (hin : InH h b (.cells ⟨cs⟩ T (0, 0))) [tk : TakeL own [h] rest] {rest2 : List Heap} [tp : TakeL rest prot rest2]
    (hv : cellsO v = some vs) (hsz : vs.length = ti.size) (h1 : vs.all (·.oneCell') = true) (hc : spliceO cs off vs = some cs')
    (next : ChU P r F n all prot Q ds s env (updB h b (.cells ⟨cs'⟩ T (0, 0)) :: rest) an) : ChU P r F n all prot Q ds (.h true m :: s) env own an :=
  chu_h0 hi hd hg (hop_storeU hin ho hx hy hv hsz h1 hc) grow_c (fun _ => .inl ⟨rest2, tp.perm⟩) fun v' own' hR => by
    subst hR; exact ⟨_, rfl, next⟩
end
/-- A base that is there. -/
class NN (base : Option Addr) : Prop where
  ex : ∃ a, base = some a
section
variable {P : Program} {own : List Heap} {n : Nat} {env : Env} {o : Oper}
theorem opv_nilCheckE {x : Operand} {base : Option Addr} {k : Nat} [nn : NN base] (ho : o.op = .nilCheck x) (hx : ev env x = some (ept base k)) : OpV P own n o env (ept base k) := by
  obtain ⟨a, rfl⟩ := nn.ex
  exact opv_nilCheck ho hx
theorem run_eq_ptr {t e : TypeId} {p : Option Addr} (hu : P.underlying t = some (.pointer e)) (w : World) : (Op.equal t (.pointer p) (.pointer none)).run P w = .ok p.isNone w := by
  have h : (Op.equalIn 10000 t (.pointer p) (.pointer none)).run P w = .ok p.isNone w := by
    rw [show (10000 : Nat) = 9999 + 1 from rfl, Op.equalIn]
    cases p <;> simp [run_und hu]
  exact h
theorem opv_ptrEql {t e u : TypeId} {x : Operand} {z : Value} {i : TypeInfo} {p : Option Addr} [h1 : Ty P t (.pointer e) z i] (ho : o.op = .binOp .eql t x (.const (.pointer none)) u) (hx : ev env x = some (.pointer p)) : OpV P own n o env (.bool p.isNone) :=
  opv_run (by rw [ho]; rfl) fun c w ha => by
    have hy : c.eval (.const (.pointer none)) = .pointer none := rfl
    have hg : ∀ w, (eqGuard .eql t x (.const (.pointer none)) (.pointer p) (.pointer none)).run P w = .ok () w := fun w => by simp [eqGuard]
    simp only [execOp, ho, ha.eval hx, hy]
    simp [hg, binOp, run_eq_ptr h1.u]
theorem opv_ptrNeq {t e u : TypeId} {x : Operand} {z : Value} {i : TypeInfo} {p : Option Addr} [h1 : Ty P t (.pointer e) z i] (ho : o.op = .binOp .neq t x (.const (.pointer none)) u) (hx : ev env x = some (.pointer p)) : OpV P own n o env (.bool (!p.isNone)) :=
  opv_run (by rw [ho]; rfl) fun c w ha => by
    have hy : c.eval (.const (.pointer none)) = .pointer none := rfl
    have hg : ∀ w, (eqGuard .neq t x (.const (.pointer none)) (.pointer p) (.pointer none)).run P w = .ok () w := fun w => by simp [eqGuard]
    simp only [execOp, ho, ha.eval hx, hy]
    simp [hg, binOp, run_eq_ptr h1.u]
end
end Go.SL
end
section
/- Where the walk stops: ahead of a region, and what looks at its answer. -/
namespace Go.SL
theorem stop_at2 {P : Program} {r : Option Nat} {F : Heap} {n : Nat} {Q : SPost} {env : Env} {own : List Heap} {ds : List Deferred} (k : Nat) {l : Array Oper} {d : Bool} {c1 : Code} (h : SWP P r F n ((Code.region k l d).seq c1) Q env own ds) : SWP P r F n ((Code.region k l d).seq c1) Q env own ds := h
end Go.SL
end
section
/- Two heaps that a contract hands back become one. -/
namespace Go.SL
theorem T_join2 {P : Program} {f : FuncId} {args : List Value} {own : List Heap} {R : Ending → Heap → Heap → List Heap → Prop}
    (h : T P f args own fun e o => ∃ a b rest, o = a :: b :: rest ∧ R e a b rest) : T P f args own fun e o => ∃ a b rest, o = join a b :: rest ∧ Disj a b ∧ R e a b rest := by
  intro w X s
  refine (h w X s).mono ?_
  rintro e w' ⟨o, s2, a, b, rest, rfl, hR⟩
  have s3 : Sat ([a, b] ++ (rest ++ X)) w' := by simpa using s2
  have d : Disj a b := (List.pairwise_cons.1 s3.dj).1 b (by simp)
  have e : joins [a, b] = join a b := by
    funext x
    simp only [joins, join, emp]
    split <;> rename_i q
    · rfl
    · cases b x <;> rfl
  have s4 := s3.joins
  rw [e] at s4
  exact ⟨join a b :: rest, by simpa using s4, a, b, rest, rfl, d, hR⟩
end Go.SL
end
section
/- copy of elements of some cells, into a block of one's own: from elsewhere, or from the block itself. -/
namespace Go.SL
theorem hop_copyB {P : Program} {n : Nat} {o : Oper} {env : Env} {t t2 e : TypeId} {c : Call} {x y : Operand} {b off : Nat} {b2 : Addr} {len cap n2 c2 sz m : Nat} {own : List Heap} {cs src : List Value} {T : TypeId} [g : TyE P t e sz]
    (hsrc : ∀ (w : World) (X : List Heap), Sat (blk b (.cells ⟨cs⟩ T (0, 0)) :: (own ++ X)) w → ∀ j v, src[j]? = some v → w.cell? (b2.add j) = some v)
    (hm : Nat.min n2 len = m) (hsl : src.length = m * sz) (hin : off + m * sz ≤ cs.length) (h1 : src.all (·.oneCell') = true)
    (ho : o.op = .call c) (hc : c.callee = .builtin .copy) (hax : c.args = #[x, y]) (hat : c.argTypes = #[t, t2]) (hx : ev env x = some (.slice (some ⟨b, off, none⟩) len cap)) (hy : ev env y = some (.slice (some b2) n2 c2)) :
    HOp P (blk b (.cells ⟨cs⟩ T (0, 0)) :: own) n o env fun v own' => v = .int .i64 (m : Int) ∧ own' = blk b (.cells ⟨cs.take off ++ src ++ cs.drop (off + m * sz)⟩ T (0, 0)) :: own := by
  refine ⟨by rw [ho]; rfl, fun a w X ha hs => ?_⟩
  have s1 : Sat (blk b (.cells ⟨cs⟩ T (0, 0)) :: (own ++ X)) w := by simpa using hs
  have hb : w.heap[b]? = some (.cells ⟨cs⟩ T (0, 0)) := s1.at (List.mem_cons_self ..) (blk_self _ _)
  have hst := run_storeCells_at P b off T src 0 ⟨cs⟩ w hb (by simp; omega) (by simpa using h1)
  let arr' : Array Value := ((⟨cs⟩ : Array Value).toList.take (off + 0) ++ src ++ (⟨cs⟩ : Array Value).toList.drop (off + 0 + src.length)).toArray
  have hfc : (Builtin.firstCells sz m (.slice (some b2) n2 c2)).run P w = .ok src.toArray w :=
    run_firstCells_some (P := P) w sz m b2 n2 c2 src (hsl) fun j v hj => hsrc w X s1 j v hj
  have hrun : (execOp a.eval o).run P w = .ok (.value (.int .i64 (m : Int))) (w.setRow b arr') := by
    simp only [execOp, ho]
    simp [resolve, hc, hax, hat, invoke, builtin, Builtin.copy_, ha.eval hx, ha.eval hy, run_und g.u, Builtin.lenOf, goInt, g.s]
    rw [hm, hfc]
    simp only [Result.andThen]
    rw [hst]
  have e1 : arr' = ⟨cs.take off ++ src ++ cs.drop (off + m * sz)⟩ := by simp [arr', hsl]
  refine ⟨w.setRow b arr', .inl ⟨_, blk b (.cells arr' T (0, 0)) :: own, hrun, ?_, rfl, by rw [e1]⟩⟩
  have s2 := s1.put (setRow_heap w b _ arr' T (0, 0) hb) (by rfl) (by rfl) (fun k hk => setRow_other w b k _ hk) (fun _ => rfl)
  simpa using s2
theorem src_other {b : Nat} {b2 : Addr} {cs src : List Value} {T : TypeId} {k : Heap} {own : List Heap} (sl : Sl k (some b2) src) (hk : k ∈ own) (w : World) (X : List Heap) (s : Sat (blk b (.cells ⟨cs⟩ T (0, 0)) :: (own ++ X)) w) (j : Nat) (v : Value) (hj : src[j]? = some v) : w.cell? (b2.add j) = some v := by
  obtain ⟨a', arr3, T3, fz3, p1, p2, p3, p4⟩ := sl.cell j v hj
  cases p1
  obtain ⟨bb, o2, sp⟩ := b2
  obtain rfl : sp = none := p2
  have := s.at (List.mem_cons_of_mem _ (List.mem_append_left X hk)) p3
  have e : Addr.add ⟨bb, o2, none⟩ j = ⟨bb, o2 + j, none⟩ := by simp [Addr.add]
  rw [e, cell_at this]
  exact p4
theorem src_same {b o2 : Nat} {cs src : List Value} {T : TypeId} {own : List Heap} (hs : ∀ j v, src[j]? = some v → cs[o2 + j]? = some v) (w : World) (X : List Heap) (s : Sat (blk b (.cells ⟨cs⟩ T (0, 0)) :: (own ++ X)) w) (j : Nat) (v : Value) (hj : src[j]? = some v) : w.cell? ((⟨b, o2, none⟩ : Addr).add j) = some v := by
  have := s.at (List.mem_cons_self ..) (blk_self b (.cells ⟨cs⟩ T (0, 0)))
  have e : Addr.add ⟨b, o2, none⟩ j = ⟨b, o2 + j, none⟩ := by simp [Addr.add]
  rw [e, cell_at this]
  simpa using hs j v hj
section
variable {P : Program} {r : Option Nat} {F : Heap} {n : Nat} {Q : SPost} {env : Env} {own rest hs prot : List Heap} {ds : List Deferred} {all : Array Oper} {l : List Oper} {o : Oper} {s : List Sg} {an : An}
theorem sl_copyK {d : Nat} {t t2 e : TypeId} {c : Call} {x y : Operand} {b off : Nat} {b2 : Addr} {len cap n2 c2 sz m : Nat} {k : Heap} {cs src cs' : List Value} {T : TypeId} [g : TyE P t e sz]
    (hd : o.dst = some d) (hnt : Nat.blt d n = true) (hg : wantedE all env o = some true) (ho : o.op = .call c) (hc : c.callee = .builtin .copy) (hax : c.args = #[x, y]) (hat : c.argTypes = #[t, t2]) (hx : ev env x = some (.slice (some ⟨b, off, none⟩) len cap)) (hy : ev env y = some (.slice (some b2) n2 c2))
    [tk : TakeL own [blk b (.cells ⟨cs⟩ T (0, 0)), k] rest] (sl : Sl k (some b2) src) (hm : Nat.min n2 len = m) (hsl : src.length = m * sz) (hin : off + m * sz ≤ cs.length) (h1 : src.all (·.oneCell') = true) (hcs : cs.take off ++ src ++ cs.drop (off + m * sz) = cs')
    (next : SOL false P r F n all l Q ((d, .int .i64 (m : Int)) :: env) (blk b (.cells ⟨cs'⟩ T (0, 0)) :: k :: rest) ds) : SOL false P r F n all (o :: l) Q env own ds :=
  sl_hop hd hnt hg (hop_copyB (own := [k]) (src_other sl (List.mem_cons_self ..)) hm hsl hin h1 ho hc hax hat hx hy) fun v' own' hR => by
    obtain ⟨rfl, rfl⟩ := hR; rw [hcs]; exact ⟨_, rfl, next⟩
theorem chu_copyS {m0 d : Nat} {t t2 e : TypeId} {c : Call} {x y : Operand} {b off o2 : Nat} {len cap n2 c2 sz m : Nat} {cs src cs' : List Value} {T : TypeId} [g : TyE P t e sz]
    (hi : all[m0]? = some o) (hd : o.dst = some d) (hg : wantedE all env o = some true) (ho : o.op = .call c) (hc : c.callee = .builtin .copy) (hax : c.args = #[x, y]) (hat : c.argTypes = #[t, t2]) (hx : ev env x = some (.slice (some ⟨b, off, none⟩) len cap)) (hy : ev env y = some (.slice (some ⟨b, o2, none⟩) n2 c2))
    [tk : TakeL own [blk b (.cells ⟨cs⟩ T (0, 0))] rest] {rest2 : List Heap} [tp : TakeL rest prot rest2] (hs : ∀ j v, src[j]? = some v → cs[o2 + j]? = some v) (hm : Nat.min n2 len = m) (hsl : src.length = m * sz) (hin : off + m * sz ≤ cs.length) (h1 : src.all (·.oneCell') = true) (hcs : cs.take off ++ src ++ cs.drop (off + m * sz) = cs')
    (next : ChU P r F n all prot Q ds s ((d, .int .i64 (m : Int)) :: env) (blk b (.cells ⟨cs'⟩ T (0, 0)) :: rest) an) : ChU P r F n all prot Q ds (.h true m0 :: s) env own an :=
  chu_h hi hd hg (hop_copyB (own := []) (src_same hs) hm hsl hin h1 ho hc hax hat hx hy) grow_c (fun _ => .inl ⟨rest2, tp.perm⟩) fun v' own' hR => by
    obtain ⟨rfl, rfl⟩ := hR; rw [hcs]; exact ⟨_, rfl, next⟩
end
end Go.SL
end
section
/- Slices of wide elements that are made. -/
namespace Go.SL
theorem flat_at (zs : List Value) (hp : 0 < zs.length) : ∀ (m j : Nat), ((List.replicate m zs).flatten)[j]? = if j < m * zs.length then zs[j % zs.length]? else none
  | 0, j => by simp
  | m + 1, j => by
    rw [List.replicate_succ, List.flatten_cons]
    by_cases h : j < zs.length
    · rw [List.getElem?_append_left h, if_pos (by rw [Nat.succ_mul]; omega), Nat.mod_eq_of_lt h]
    · rw [List.getElem?_append_right (by omega), flat_at zs hp m, ← Nat.mod_eq_sub_mod (by omega)]
      by_cases h2 : j < (m + 1) * zs.length
      · rw [if_pos h2, if_pos (by rw [Nat.succ_mul] at h2; omega)]
      · rw [if_neg h2, if_neg (by rw [Nat.succ_mul] at h2; omega)]
theorem new_makeSliceW {P : Program} {n : Nat} {env : Env} {o : Oper} {t e : TypeId} {sz bytes m : Nat} {x y : Operand} {zv : Value} {zs : List Value} {de : TypeDesc} {ti : TypeInfo} [g : TyG P t e sz bytes] [z : Ty P e de zv ti]
    (ho : o.op = .makeSlice t x y) (hx : ev env x = some (.int .i64 (m : Int))) (hy : ev env y = some (.int .i64 (m : Int)))
    (hz : cellsO zv = some zs) (hs : zs.length = sz) (hp : 0 < sz) (hroom : m * bytes ≤ 70368744177664) (hm : m ≤ 70368744177664) :
    NewOp P n o env (fun b => .slice (some ⟨b, 0, none⟩) m m) (.cells ⟨(List.replicate m zs).flatten⟩ e (0, 0)) := by
  refine ⟨by rw [ho]; rfl, fun _ => by simp [fzo], fun A w hA => ?_⟩
  obtain ⟨i, z', g1, g2, g3, g4, g5, g6⟩ := g.all
  subst g6
  have wl : IntKind.i64.wrap (m : Int) = m := wrap64_id (by omega) (by omega)
  have hb : ¬ (281474976710656 < (i.bytes : Int) * m) := by
    have : (i.bytes : Int) * m = ((m * i.bytes : Nat) : Int) := by rw [Int.natCast_mul, Int.mul_comm]
    omega
  have hn' : ¬ ((m : Int) < 0) := by omega
  have hroom' : ∀ w : World, (askRoom (m * i.bytes)).run P w = .ok () w := fun w => by unfold askRoom; split <;> simp
  have hzc : zv.cells = ⟨zs⟩ := cellsO_eq hz
  have hzz : ((Array.range (m * sz)).map fun x => zv.cells[x % zv.cells.size]!) = ⟨(List.replicate m zs).flatten⟩ := by
    rw [hzc]
    apply Array.ext'
    apply List.ext_getElem?
    intro j
    show _ = ((List.replicate m zs).flatten)[j]?
    rw [flat_at zs (by omega), hs]
    by_cases hj : j < m * sz
    · rw [if_pos hj]
      have h2 : j % sz < zs.length := by rw [hs]; exact Nat.mod_lt _ hp
      have e3 : zs[j % sz]? = some zs[j % sz] := List.getElem?_eq_getElem h2
      simp [hj, hs, e3]
    · rw [if_neg hj]
      simp [hj]
  have hzn : ∀ w, (zeroValue e).run P w = .ok zv w := fun w => z.z w
  by_cases h0 : m = 0
  · subst h0
    simp [execOp, ho, hA.eval hx, hA.eval hy, Instr.makeSlice, run_und g1, asInt, asIntOf, run_info g2, run_size g2, g5, newRow, askRoom, IntKind.wrap, IntKind.bits, IntKind.signed, show (Array.range 0).map (fun (_ : Nat) => (default : Value)) = ⟨[]⟩ by simp]
  · have h0' : ¬ (m * sz = 0) := fun h => by
      rcases Nat.mul_eq_zero.1 h with h | h <;> omega
    simp [execOp, ho, hA.eval hx, hA.eval hy, Instr.makeSlice, run_und g1, asInt, asIntOf, run_info g2, wl, hb, hn', hroom', run_size g2, g5, h0', newRow, hzn, hzz]
section
variable {P : Program} {r : Option Nat} {F : Heap} {n : Nat} {Q : SPost} {env : Env} {own rest hs prot : List Heap} {ds : List Deferred} {all : Array Oper} {l : List Oper} {o : Oper}
theorem sl_new {d : Nat} {vf : Nat → Value} {ob : Obj} (hd : o.dst = some d) (hnt : Nat.blt d n = true) (hg : wantedE all env o = some true) (hn : NewOp P n o env vf ob)
    (next : ∀ b, SOL false P r F n all l Q ((d, vf b) :: env) (blk b ob :: own) ds) : SOL false P r F n all (o :: l) Q env own ds := by
  obtain ⟨h1, h2, h3⟩ := hn
  refine sl_turn hd hnt hg h1 fun A w hA hs => ?_
  exact ⟨vf w.heap.size, { w with heap := w.heap.push ob }, blk w.heap.size ob :: own, h3 A w hA, (sat_alloc hs _ h2).swap, next _⟩
end
end Go.SL
end
section
/- Calls that turn memory, in a region that draws its order. -/
namespace Go.SL
section
variable {P : Program} {r : Option Nat} {F : Heap} {n : Nat} {prot : List Heap} {Q : SPost} {env : Env} {own rest hs : List Heap} {ds : List Deferred} {all : Array Oper} {s : List Sg} {o : Oper} {an : An}
theorem chu_Tc {m d : Nat} {cl : Call} {x : Operand} {f : FuncId} {first captured : Array Value} {vs vall : List Value} {R : Ending → List Heap → Prop} [Enters P f]
    (hi : all[m]? = some o) (hd : o.dst = some d) (hg : wantedE all env o = some true) [t : TakeL own hs rest]
    (ho : o.op = .call cl) (hc : cl.callee = .value x) (hx : ev env x = some (.func (.func f) first captured)) (hvs : evs env cl.args.toList = some vs)
    (hall : appO first.toList vs captured.toList = some vall) (hp : T P f vall hs R) {rest2 : List Heap} [tp : TakeL rest prot rest2]
    (h : ∀ (e : Ending) (own' : List Heap), R e own' → ∃ v own2, e = .returned v ∧ appH own' rest = some own2 ∧ ChU P r F n all prot Q ds s ((d, v) :: env) own2 an) : ChU P r F n all prot Q ds (.h true m :: s) env own an :=
  chu_h hi hd hg (hop_T ho hc hx hvs hall hp fun e own' hR => by obtain ⟨v, _, h1, _⟩ := h e own' hR; exact ⟨v, h1⟩)
    (fun h => by cases h) (fun _ => .inl ⟨rest2, tp.perm⟩) fun v own' hR => by
    obtain ⟨v', own2, h1, h2, h3⟩ := h _ _ hR
    cases h1
    exact ⟨own2, h2, h3⟩
end
end Go.SL
end
