/- More operations: max, slices compared with nil, slices of slices, append of any slice. -/
import Derived.Test.YtobcmglbdmaceaaGreatDoorSlG3
import Derived.Sort.Grow
import Derived.Laws.Append
import Derived.Laws.CopyRow
import Derived.Below
import Derived.Laws.AppendOwn
set_option linter.unusedVariables false
set_option linter.unusedSimpArgs false
set_option linter.unusedSectionVars false
section
namespace Go.SL
section
variable {P : Program} {own : List Heap} {n : Nat} {env : Env} {o : Oper}
theorem opv_max {c : Call} {x y : Operand} {k : IntKind} {a b : Int} (ho : o.op = .call c) (hc : c.callee = .builtin .max) (hax : c.args = #[x, y])
    (hx : ev env x = some (.int k a)) (hy : ev env y = some (.int k b)) : OpV P own n o env (.int k (max a b)) :=
  opv_run (by rw [ho]; rfl) fun d w ha => by
    have : (if a < b then b else a) = max a b := by rw [Int.max_def]; split <;> split <;> omega
    simp [execOp, ho, resolve, hc, hax, invoke, builtin, Builtin.max_, Builtin.max2, ha.eval hx, ha.eval hy, this]
theorem run_eq_nil {t e : TypeId} {base : Option Addr} {len cap : Nat} (hu : P.underlying t = some (.slice e)) (w : World) : (Op.equal t (.slice base len cap) (.slice none 0 0)).run P w = .ok base.isNone w := by
  have h : (Op.equalIn 10000 t (.slice base len cap) (.slice none 0 0)).run P w = .ok base.isNone w := by
    rw [show (10000 : Nat) = 9999 + 1 from rfl, Op.equalIn]
    cases base <;> simp [run_und hu]
  exact h
theorem opv_isNil {t e u : TypeId} {x : Operand} {z : Value} {i : TypeInfo} {base : Option Addr} {len cap : Nat} [h1 : Ty P t (.slice e) z i] (ho : o.op = .binOp .eql t x (.const (.slice none 0 0)) u) (hx : ev env x = some (.slice base len cap)) : OpV P own n o env (.bool base.isNone) :=
  opv_run (by rw [ho]; rfl) fun c w ha => by
    have hy : c.eval (.const (.slice none 0 0)) = .slice none 0 0 := rfl
    have hg : ∀ w, (eqGuard .eql t x (.const (.slice none 0 0)) (.slice base len cap) (.slice none 0 0)).run P w = .ok () w := fun w => by simp [eqGuard]
    simp only [execOp, ho, ha.eval hx, hy]
    simp [hg, binOp, run_eq_nil h1.u]
theorem opv_slice3 {t e : TypeId} {sz : Nat} {x y m : Operand} {base : Option Addr} {len cap : Nat} {k k2 : IntKind} {j i : Int} [h1 : TyE P t e sz] (ho : o.op = .slice t x none (some y) (some m)) (hx : ev env x = some (.slice base len cap)) (hy : ev env y = some (.int k j)) (hm : ev env m = some (.int k2 i))
    (h0 : 0 ≤ j) (hj : j ≤ i) (hi : i ≤ cap) : OpV P own n o env (.slice base j.toNat i.toNat) :=
  opv_run (by rw [ho]; rfl) fun a w ha => by
    have hs := sub_zero base i.toNat sz
    unfold sub at hs
    simp only [Nat.zero_mul] at hs
    have hj' : j ≤ (i.toNat : Int) := by omega
    simp [execOp, ho, ha.eval hx, ha.eval hy, ha.eval hm, Instr.sliceAt, Instr.slice, Instr.sliceBounds, run_und h1.u, h1.s, run_bound (by omega) hi, run_bound h0 hj']
    intro h; rw [if_neg (by omega)] at hs; exact hs
end
instance (priority := low) TakeL.refl {own : List Heap} : TakeL own own [] := ⟨by simp⟩
instance (priority := low) TakeL.refl1 {F : Heap} {own : List Heap} : TakeL (F :: own) own [F] := ⟨List.perm_append_comm (l₁ := [F]) (l₂ := own)⟩
theorem appH_nil : ∀ {l : List Heap}, appH l [] = some l
  | [] => rfl
  | _ :: l => by simp only [appH, appH_nil (l := l)]
theorem run_append_zero {P : Program} {t ty e : TypeId} {i : TypeInfo} {base yb : Option Addr} {len cap mc : Nat} (w : World)
    (ht : P.underlying t = some (.slice e)) (hi : P.info? e = some i) (hle : len ≤ cap) :
    (Builtin.append_ #[t, t] ty #[.slice base len cap, .slice yb 0 mc]).run P w = .ok (.slice base len cap) w := by
  have hf : (Builtin.firstCells i.size 0 (.slice yb 0 mc)).run P w = .ok #[] w := by
    cases yb with
    | none => simp [Builtin.firstCells]
    | some a =>
      have h0 : (loadCells a 0).run P w = .ok #[] w := run_loadCells_list (P := P) w a [] (fun j v hj => by cases hj)
      simp [Builtin.firstCells, h0]
  cases base with
  | none => simp [Builtin.append_, run_und ht, run_size hi, Builtin.lenOf, hle, hf]
  | some a => simp [Builtin.append_, run_und ht, run_size hi, Builtin.lenOf, hle, hf, storeCells]
section
variable {P : Program} {r : Option Nat} {F : Heap} {n : Nat} {Q : SPost} {env : Env} {own rest hs : List Heap} {ds : List Deferred} {all : Array Oper} {l : List Oper} {o : Oper}
/-- A slice of one's own grows by any other one. -/
theorem sl_appendG {t e : TypeId} {sz bytes : Nat} {c : Call} {x y : Operand} {h : Heap} {base yb : Option Addr} {len cap m mc : Nat} {cs news : List Value} {d : Nat} [g : TyG P t e sz bytes]
    (hd : o.dst = some d) (hn : Nat.blt d n = true) (hg : wantedE all env o = some true) (ho : o.op = .call c) (hc : c.callee = .builtin .append) (hax : c.args = #[x, y]) (hat : c.argTypes = #[t, t])
    (hx : ev env x = some (.slice base len cap)) (hy : ev env y = some (.slice yb m mc)) [mm : SlIn own yb news] (os : OS h base len cap e sz cs) [tk : TakeH own h rest]
    (hnl : news.length = m * sz) (hpos : 0 < sz) (h1 : news.all (·.oneCell') = true) (hroom : (len + m) * bytes ≤ 70368744177664) (hlen : len + m ≤ 70368744177664)
    (next : ∀ h' base' cap', OS h' base' (len + m) cap' e sz (cs ++ news) → (base = none → m = 0 → base' = none) → SOL false P r F n all l Q ((d, .slice base' (len + m) cap') :: env) (h' :: rest) ds) :
    SOL false P r F n all (o :: l) Q env own ds := by
  rcases Nat.eq_zero_or_pos m with hm | hm
  · subst hm
    have hn0 : news = [] := List.length_eq_zero_iff.1 (by omega)
    subst hn0
    refine sl_turn hd hn hg (by rw [ho]; rfl) fun A w hA hs => ?_
    obtain ⟨i, z, g1, g2, g3, g4, g5, g6⟩ := g.all
    have s1 : Sat (own ++ [F]) w := hs.perm (List.perm_append_comm (l₁ := [F]) (l₂ := own))
    have s2 : Sat (h :: (rest ++ [F])) w := s1.perm (tk.perm.append_right [F])
    refine ⟨_, w, h :: rest, ?_, s2.perm (List.perm_append_comm (l₁ := h :: rest) (l₂ := [F])), next h base cap (by simpa using os) (fun hb _ => hb)⟩
    simp [execOp, ho, resolve, hc, hax, hat, invoke, builtin, hA.eval hx, hA.eval hy, run_append_zero w g1 g2 os.hle]
  · cases yb with
    | none =>
      refine sl_turn hd hn hg (by rw [ho]; rfl) fun A w hA hs => ?_
      have hpos' : 0 < news.length := by rw [hnl]; exact Nat.mul_pos hm hpos
      have s1 : Sat (own ++ [F]) w := hs.perm (List.perm_append_comm (l₁ := [F]) (l₂ := own))
      obtain ⟨a', e1, -⟩ := mm.cell s1 (List.getElem?_eq_getElem hpos')
      cases e1
    | some a => exact sl_append hd hn hg ho hc hax hat hx hy os hm hnl hpos h1 hroom hlen fun h' b' c' os' => next h' b' c' os' (fun _ e => by omega)
/-- A call by a contract that speaks of all that one has. -/
theorem sl_callW {c : Call} {x : Operand} {f : FuncId} {first captured : Array Value} {vs vall : List Value} {R : Ending → List Heap → Prop} [Enters P f] {d : Nat}
    (hd : o.dst = some d) (hn : Nat.blt d n = true) (hg : wantedE all env o = some true)
    (ho : o.op = .call c) (hc : c.callee = .value x) (hx : ev env x = some (.func (.func f) first captured)) (hvs : evs env c.args.toList = some vs)
    (hall : appO first.toList vs captured.toList = some vall) (h : T P f vall own fun e o => ∃ N, o = own ++ N ∧ R e N)
    (hr : ∀ e N, R e N → ∃ v own2, e = .returned v ∧ appH own N = some own2 ∧ SOL false P r F n all l Q ((d, v) :: env) own2 ds) :
    SOL false P r F n all (o :: l) Q env own ds := by
  haveI : TakeL own own [] := ⟨by simp⟩
  refine sl_callT hd hn hg ho hc hx hvs hall h fun e own' hR => ?_
  obtain ⟨N, rfl, hR⟩ := hR
  obtain ⟨v, own2, h1, h2, h3⟩ := hr e N hR
  exact ⟨v, own2, h1, by rw [appH_nil, appH_eq h2], h3⟩
end
theorem disj_joins {k : Heap} : ∀ {own : List Heap}, (∀ l ∈ own, Disj k l) → Disj k (joins own)
  | [], _ => fun b o o' _ x => by cases x
  | q :: qs, d => disj_join_mk (d q (List.mem_cons_self ..)) (disj_joins fun l hl => d l (List.mem_cons_of_mem _ hl))
theorem hle_joins : ∀ {own : List Heap} {h : Heap}, own.Pairwise Disj → h ∈ own → hle h (joins own)
  | [], _, _, hm => by cases hm
  | k :: own, h, d, hm => by
    obtain ⟨d1, d2⟩ := List.pairwise_cons.1 d
    rcases List.mem_cons.1 hm with rfl | hm
    · exact join_left
    · have hd : Disj k (joins own) := disj_joins d1
      exact (hle_joins d2 hm).trans (join_right hd)
theorem Sl.mono {h k : Heap} {base : Option Addr} {cs : List Value} (s : Sl h base cs) (l : hle h k) : Sl k base cs :=
  ⟨fun j v hj => by obtain ⟨a, arr, T, fz, h1, h2, h3, h4⟩ := s.cell j v hj; exact ⟨a, arr, T, fz, h1, h2, l _ _ h3, h4⟩⟩
/-- All that one has, read as one heap. -/
theorem T_whole {P : Program} {f : FuncId} {args : List Value} {own : List Heap} {R : Ending → List Heap → Prop}
    (h : ∀ J, (∀ h ∈ own, hle h J) → T P f args [J] fun e o => ∃ N, o = J :: N ∧ R e N) : T P f args own fun e o => ∃ N, o = own ++ N ∧ R e N := by
  intro w X s
  have d : own.Pairwise Disj := (List.pairwise_append.1 s.dj).1
  refine (h (joins own) (fun k hk => hle_joins d hk) w X (by simpa using s.joins)).mono ?_
  rintro e w' ⟨o, s2, N, rfl, hR⟩
  refine ⟨own ++ N, ?_, N, rfl, hR⟩
  have := Sat.unjoins d (ks := N ++ X) (by simpa using s2)
  simpa using this
theorem P_whole {P : Program} {f : FuncId} {args : List Value} {own : List Heap} {v : Value} (h : ∀ J, (∀ h ∈ own, hle h J) → PFn P f args [J] v) : PFn P f args own v :=
  (T_whole (R := fun e N => e = .returned v ∧ N = []) fun J hJ => (h J hJ).mono fun e o ⟨h1, h2⟩ => ⟨[], by rw [h2], h1, rfl⟩).mono fun e o ⟨N, h1, h2, h3⟩ => ⟨h2, by rw [h1, h3, List.append_nil]⟩
theorem SlIn.all {own : List Heap} {base : Option Addr} {cs : List Value} (s : SlIn own base cs) {J : Heap} (h : ∀ h ∈ own, hle h J) : Sl J base cs := by
  obtain ⟨k, hk, e⟩ := s.mem; exact e.mono (h k hk)
/-- A new row, as a slice. -/
theorem OS.blk {b len sz : Nat} {T : TypeId} {cs : List Value} (h : cs.length = len * sz) : OS (SL.blk b (.cells ⟨cs⟩ T (0, 0))) (some ⟨b, 0, none⟩) len len T sz cs :=
  ⟨h, Nat.le_refl _, .inr ⟨b, 0, ⟨cs⟩, rfl, rfl, by simp [h], fun k v hk => by simpa using hk⟩⟩
section
variable {P : Program} {r : Option Nat} {F : Heap} {n : Nat} {Q : SPost} {env : Env} {own prot rest : List Heap} {ds : List Deferred} {all : Array Oper} {o : Oper} {an : An} {s : List Sg}
theorem chu_callW {m d : Nat} {cl : Call} {x : Operand} {f : FuncId} {first captured : Array Value} {vs vall : List Value} {R : Ending → List Heap → Prop} [Enters P f]
    (hi : all[m]? = some o) (hd : o.dst = some d) (hg : wantedE all env o = some true)
    (ho : o.op = .call cl) (hc : cl.callee = .value x) (hx : ev env x = some (.func (.func f) first captured)) (hvs : evs env cl.args.toList = some vs)
    (hall : appO first.toList vs captured.toList = some vall) (hp : T P f vall own fun e o => ∃ N, o = own ++ N ∧ R e N)
    (h : ∀ (e : Ending) (N : List Heap), R e N → ∃ v own2, e = .returned v ∧ appH own N = some own2 ∧ ChU P r F n all prot Q ds s ((d, v) :: env) own2 an) : ChU P r F n all prot Q ds (.h false m :: s) env own an := by
  haveI : TakeL own own [] := ⟨by simp⟩
  refine chu_T hi hd hg ho hc hx hvs hall hp (fun e o ⟨N, h1, _⟩ => ⟨N, h1⟩) fun e o hR => ?_
  obtain ⟨N, rfl, hR⟩ := hR
  obtain ⟨v, own2, h1, h2, h3⟩ := h e N hR
  exact ⟨v, own2, h1, by rw [appH_nil, appH_eq h2], h3⟩
end
end Go.SL
end
section
/- Stores into a slice of one's own. -/
namespace Go.SL
theorem hop_storeE {P : Program} {n : Nat} {o : Oper} {env : Env} {t T : TypeId} {x y : Operand} {base : Option Addr} {k len cap sz : Nat} {h : Heap} {v : Value} {cs vs cs' : List Value} {d : TypeDesc} {z : Value} {ti : TypeInfo} [ty : Ty P t d z ti]
    (os : OS h base len cap T sz cs) (ho : o.op = .store t x y) (hx : ev env x = some (ept base k)) (hy : ev env y = some v)
    (hv : cellsO v = some vs) (hsz : vs.length = ti.size) (h1 : vs.all (·.oneCell') = true) (hpos : 0 < vs.length) (hk : k + vs.length ≤ cs.length) (hc : cs' = cs.take k ++ vs ++ cs.drop (k + vs.length)) :
    HOp P [h] n o env fun _ own' => ∃ h', own' = [h'] ∧ OS h' base len cap T sz cs' := by
  refine ⟨by rw [ho]; rfl, fun a w X ha hs => ?_⟩
  have hl := os.hlen
  rcases os.shape with ⟨-, h2, -, -⟩ | ⟨b, off, arr, hb, hh, hsize, hcs⟩
  · rw [h2, Nat.zero_mul] at hl; omega
  · subst hb; subst hh
    have s1 : Sat (blk b (.cells arr T (0, 0)) :: X) w := by simpa using hs
    have hb : w.heap[b]? = some (.cells arr T (0, 0)) := s1.at (List.mem_cons_self ..) (blk_self _ _)
    have hle : len * sz ≤ cap * sz := Nat.mul_le_mul_right _ os.hle
    have hst := run_storeCells_at P b (off + k) T vs 0 arr w hb (by omega) (by simpa using h1)
    have hc' := cellsO_eq hv
    let arr' : Array Value := (arr.toList.take (off + k + 0) ++ vs ++ arr.toList.drop (off + k + 0 + vs.length)).toArray
    have hrun : (execOp a.eval o).run P w = .ok .skip (w.setRow b arr') := by
      simp [execOp, ho, Instr.storeAt, ha.eval hx, ha.eval hy, ept, Instr.sureAddr, storeVar, run_size ty.i, hc', hsz, hst, arr']
    have hlen' : cs'.length = cs.length := by rw [hc]; simp; omega
    refine ⟨w.setRow b arr', .inr (.inl ⟨[blk b (.cells arr' T (0, 0))], hrun, ?_, _, rfl, ?_⟩)⟩
    · have s2 := s1.put (setRow_heap w b _ arr' T (0, 0) hb) (by rfl) (by rfl) (fun k hk => setRow_other w b k _ hk) (fun _ => rfl)
      simpa using s2
    · refine ⟨by rw [hlen', hl], os.hle, .inr ⟨b, off, arr', rfl, rfl, ?_, fun j v hj => ?_⟩⟩
      · have : arr'.size = arr.size := by simp [arr']; omega
        rw [this]; exact hsize
      · subst hc
        simp only [arr', Nat.add_zero, List.getElem?_toArray]
        rw [List.append_assoc] at hj ⊢
        by_cases h1 : j < k
        · rw [List.getElem?_append_left (by simp; omega), List.getElem?_take, if_pos h1] at hj
          rw [List.getElem?_append_left (by simp; omega), List.getElem?_take, if_pos (by omega)]
          have := hcs j v hj
          simpa using this
        · rw [List.getElem?_append_right (by simp; omega)] at hj
          rw [List.getElem?_append_right (by simp; omega)]
          have e1 : (cs.take k).length = k := by simp; omega
          have e2 : (arr.toList.take (off + k)).length = off + k := by simp; omega
          rw [e1] at hj
          rw [e2, show off + j - (off + k) = j - k by omega]
          by_cases h2 : j - k < vs.length
          · rw [List.getElem?_append_left h2] at hj ⊢; exact hj
          · rw [List.getElem?_append_right (by omega), List.getElem?_drop] at hj ⊢
            have := hcs _ v hj
            rw [show off + (k + vs.length + (j - k - vs.length)) = off + k + vs.length + (j - k - vs.length) by omega] at this
            simpa using this
theorem OS.len {h : Heap} {base : Option Addr} {n c : Nat} {T : TypeId} {α : Type} {xs : List α} {f : α → Value} (os : OS h base n c T 1 (xs.map f)) : xs.length = n := by
  have := os.hlen; simpa using this
section
variable {P : Program} {own : List Heap} {n : Nat} {env : Env} {o : Oper}
/-- A struct of three cells of a slice. -/
theorem opv_load3 {t : TypeId} {x : Operand} {k : Nat} {base : Option Addr} {cs : List Value} {v u z : Value} [ty : TyA P t 3] (ho : o.op = .load t x) (hx : ev env x = some (ept base k)) (m : SlIn own base cs) (hv : cs[k]? = some v) (hu : cs[k + 1]? = some u) (hz : cs[k + 2]? = some z) : OpV P own n o env (.agg ⟨[v, u, z]⟩) :=
  opv_loadEA (vs := [v, u, z]) ho hx (Nat.succ_pos 2) rfl fun j w hj => by
    match j, hj with
    | 0, hj => simp at hj; subst hj; exact hv
    | 1, hj => simp at hj; subst hj; exact hu
    | 2, hj => simp at hj; subst hj; exact hz
end
section
variable {P : Program} {r : Option Nat} {F : Heap} {n : Nat} {Q : SPost} {env : Env} {own rest hs prot : List Heap} {ds : List Deferred} {all : Array Oper} {l : List Oper} {o : Oper} {s : List Sg} {an : An}
theorem sl_hop0 {R : Value → List Heap → Prop} (hd : o.dst = none) (hg : wantedE all env o = some true) [t : TakeL own hs rest] (h : HOp P hs n o env R)
    (hr : ∀ v own', R v own' → ∃ own2, appH own' rest = some own2 ∧ SOL false P r F n all l Q env own2 ds) : SOL false P r F n all (o :: l) Q env own ds := fun k hk => by
  obtain ⟨i, k', rfl, hi, hk'⟩ := unl hk
  intro a w ha hds hs'
  rw [wpOpsIn_cons]
  have pp : (F :: own).Perm (hs ++ (rest ++ [F])) := (List.perm_append_comm (l₁ := [F]) (l₂ := own)).trans (by rw [← List.append_assoc]; exact t.perm.append_right [F])
  refine hop_wp h hi (wanted_of ha hg) ha rfl (hs'.perm pp) fun v own' w' hR s => ?_
  rw [hd]
  obtain ⟨own2, e2, h2⟩ := hr v own' hR
  rw [appH_eq e2] at h2
  exact h2 k' hk' _ w' (by simpa [Act.put] using ha) hds (s.perm (by rw [← List.append_assoc]; exact List.perm_append_comm (l₁ := own' ++ rest) (l₂ := [F])))
theorem sl_storeE {t T : TypeId} {x y : Operand} {base : Option Addr} {k len cap sz : Nat} {h : Heap} {v : Value} {cs vs cs' : List Value} {d : TypeDesc} {z : Value} {ti : TypeInfo} [ty : Ty P t d z ti]
    (hd : o.dst = none) (hg : wantedE all env o = some true) (ho : o.op = .store t x y) (hx : ev env x = some (ept base k)) (hy : ev env y = some v) (os : OS h base len cap T sz cs) [tk : TakeL own [h] rest]
    (hv : cellsO v = some vs) (hsz : vs.length = ti.size) (h1 : vs.all (·.oneCell') = true) (hpos : 0 < vs.length) (hk : k + vs.length ≤ cs.length) (hc : cs.take k ++ vs ++ cs.drop (k + vs.length) = cs')
    (next : ∀ h', OS h' base len cap T sz cs' → SOL false P r F n all l Q env (h' :: rest) ds) : SOL false P r F n all (o :: l) Q env own ds :=
  sl_hop0 hd hg (hop_storeE os ho hx hy hv hsz h1 hpos hk hc.symm) fun v' own' hR => by
    obtain ⟨h', rfl, os'⟩ := hR; exact ⟨_, rfl, next h' os'⟩
theorem chu_storeE {m : Nat} {t T : TypeId} {x y : Operand} {base : Option Addr} {k len cap sz : Nat} {h : Heap} {v : Value} {cs vs cs' : List Value} {d : TypeDesc} {z : Value} {ti : TypeInfo} [ty : Ty P t d z ti]
    (hi : all[m]? = some o) (hd : o.dst = none) (hg : wantedE all env o = some true) (ho : o.op = .store t x y) (hx : ev env x = some (ept base k)) (hy : ev env y = some v) (os : OS h base len cap T sz cs) [tk : TakeL own [h] rest] {rest2 : List Heap} [tp : TakeL rest prot rest2]
    (hv : cellsO v = some vs) (hsz : vs.length = ti.size) (h1 : vs.all (·.oneCell') = true) (hpos : 0 < vs.length) (hk : k + vs.length ≤ cs.length) (hc : cs.take k ++ vs ++ cs.drop (k + vs.length) = cs')
    (next : ∀ h', OS h' base len cap T sz cs' → ChU P r F n all prot Q ds s env (h' :: rest) an) : ChU P r F n all prot Q ds (.h true m :: s) env own an :=
  chu_h0 hi hd hg (hop_storeE os ho hx hy hv hsz h1 hpos hk hc.symm) grow_c (fun _ => .inl ⟨rest2, tp.perm⟩) fun v' own' hR => by
    obtain ⟨h', rfl, os'⟩ := hR; exact ⟨_, rfl, next h' os'⟩
/-- The end of a body: what is left behind is found. -/
theorem end_retL {fn : Func} {own1 : List Heap} (hs : List Heap) {v : Value} {Q : Ending → List Heap → Prop} [m : Marks ds own own1] [t : TakeL own1 hs rest] (hr : ResOk P fn.results.toList own1 env n v) (hq : Q (.returned v) hs) : bodyQ P fn n Q .ret env own ds :=
  end_retW hs hr (fun F _ s => (s.perm (t.perm.cons F)).sub (List.Sublist.cons_cons F (List.sublist_append_left _ _))) hq
/-- A call that hands back a known value; it may look at all that one has. -/
theorem opv_callW {c : Call} {x : Operand} {f : FuncId} {first captured : Array Value} {vs vall : List Value} {v : Value} [Enters P f]
    (ho : o.op = .call c) (hc : c.callee = .value x) (hx : ev env x = some (.func (.func f) first captured)) (hvs : evs env c.args.toList = some vs)
    (hall : appO first.toList vs captured.toList = some vall) (h : PFn P f vall own v) : OpV P (F :: own) n o env v :=
  opv_call ho hc hx hvs hall h
theorem chu_PW {m d : Nat} {cl : Call} {x : Operand} {f : FuncId} {first captured : Array Value} {vs vall : List Value} {v : Value} [Enters P f]
    (hi : all[m]? = some o) (hd : o.dst = some d) (hg : wantedE all env o = some true)
    (ho : o.op = .call cl) (hc : cl.callee = .value x) (hx : ev env x = some (.func (.func f) first captured)) (hvs : evs env cl.args.toList = some vs)
    (hall : appO first.toList vs captured.toList = some vall) (hp : PFn P f vall own v) (h : ChU P r F n all prot Q ds s ((d, v) :: env) own an) : ChU P r F n all prot Q ds (.h false m :: s) env own an := by
  haveI : TakeL own own [] := ⟨by simp⟩
  exact chu_P hi hd hg ho hc hx hvs hall hp appH_nil h
end
end Go.SL
end
section
/- The library's sort, and its fellows: rows of numbers, as heaps. -/
namespace Go.SL
open Go.Sort
theorem Sat.world {hs : List Heap} {w w' : World} (s : Sat hs w) (h : hle (wh w) (wh w')) : Sat hs w' := ⟨fun k hk => (s.le k hk).trans h, s.dj⟩
theorem hle_grow (w : World) (gs : Array Obj) : hle (wh w) (wh (grow w gs)) := by
  intro x o hx
  cases x with
  | b n =>
    simp only [wh, Option.map_eq_some_iff] at hx ⊢
    obtain ⟨y, h1, h2⟩ := hx
    have hlt : n < w.heap.size := (Array.getElem?_eq_some_iff.1 h1).1
    exact ⟨y, by rw [heap_grow_old w gs hlt]; exact h1, h2⟩
  | os => exact hx
  | fz n =>
    simp only [wh] at hx ⊢
    split at hx
    · rename_i hlt
      rw [if_pos (by simp; omega), ← hx]
      congr 2
      funext off
      exact frozen?_grow w gs _ hlt
    · cases hx
/-- A slice of one's own numbers, as the library's contracts see it; and what they make of it. -/
theorem OS.row {h : Heap} {X : List Heap} {w : World} {base : Option Addr} {len cap : Nat} {T : TypeId} {k : IntKind} {zs : List Int} (os : OS h base len cap T 1 (zs.map (.int k))) (hpos : 0 < len) (s : Sat (h :: X) w) :
    ∃ b off, base = some ⟨b, off, none⟩ ∧ b < w.heap.size ∧ Holds (Value.int k) w b off zs.toArray ∧
      ∀ (ys : List Int) (n : Nat) (gs : Array Obj), ys.length = zs.length → ∃ h', OS h' base len cap T 1 (ys.map (.int k)) ∧ Sat (h' :: X) (grow (putRow (Value.int k) (Sort.ahead w n) b off ys.toArray) gs) := by
  have hl := os.len
  rcases os.shape with ⟨-, h2, -, -⟩ | ⟨b, off, arr, hb, hh, hsz, hcs⟩
  · omega
  · subst hh
    have hg : w.heap[b]? = some (.cells arr T (0, 0)) := s.at (List.mem_cons_self ..) (blk_self _ _)
    refine ⟨b, off, hb, (Array.getElem?_eq_some_iff.1 hg).1, fun j hj => ?_, fun ys n gs hys => ?_⟩
    · have hj' : j < zs.length := by simpa using hj
      refine ⟨?_, by rw [frozen_at hg]; simp [fzo]⟩
      rw [cell_at hg]
      refine hcs j _ ?_
      simp [hj']
    · have hle := os.hle
      let arr' := putCells (Value.int k) off ys.toArray arr
      refine ⟨SL.blk b (.cells arr' T (0, 0)), ⟨by simp [hys, hl], os.hle, .inr ⟨b, off, arr', hb, rfl, by simpa [arr', putCells] using hsz, fun j v hj => ?_⟩⟩, ?_⟩
      · rw [List.getElem?_map, Option.map_eq_some_iff] at hj
        obtain ⟨y, hy, rfl⟩ := hj
        obtain ⟨hjl, hye⟩ := List.getElem?_eq_some_iff.1 hy
        have hlt : off + j < arr.size := by omega
        simp only [arr', putCells, Array.getElem?_mapIdx, Array.getElem?_eq_getElem hlt, Option.map_some, List.size_toArray]
        rw [if_pos ⟨by omega, by omega⟩, show off + j - off = j by omega]
        simp [hjl, hye]
      · have s0 : Sat (SL.blk b (.cells arr T (0, 0)) :: X) (Sort.ahead w n) := s.heap rfl rfl rfl
        have e : (putRow (Value.int k) (Sort.ahead w n) b off ys.toArray).heap = w.heap.modify b (onCells (putCells (Value.int k) off ys.toArray)) := rfl
        refine Sat.world (w := putRow (Value.int k) (Sort.ahead w n) b off ys.toArray) ?_ (hle_grow _ _)
        refine s0.put (o' := .cells arr' T (0, 0)) ?_ rfl rfl (fun q hq => ?_) (fun _ => rfl)
        · rw [e, Array.getElem?_modify, if_pos rfl, hg]; rfl
        · rw [e, Array.getElem?_modify, if_neg (Ne.symm hq)]; rfl
end Go.SL
end
section
/- Maps whose keys are numbers. -/
set_option linter.unusedVariables false
namespace Go.SL
/-- What entries say of a number. -/
def lookE : List MapEntry → Int → Option Value
  | [], _ => none
  | e :: es, z => match e.key with
    | .int _ a => if z = a then some e.val else lookE es z
    | _ => none
def intKeys (k : IntKind) (es : List MapEntry) : Prop := ∀ e ∈ es, ∃ a, e.key = .int k a
theorem findNow_int {k : IntKind} {z : Int} : ∀ {es : List MapEntry} {i : Nat}, intKeys k es →
    (lookE es z = none ∧ Instr.findNow (.int k) (.int k z) es i = some none) ∨ ∃ v j e, lookE es z = some v ∧ Instr.findNow (.int k) (.int k z) es i = some (some (i + j, v)) ∧ es[j]? = some e ∧ e.key = .int k z ∧
      ∀ u, ∀ y, lookE (es.modify j fun e => { e with key := .int k z, val := u }) y = if y = z then some u else lookE es y
  | [], i, _ => .inl ⟨rfl, rfl⟩
  | e :: es, i, h => by
    obtain ⟨a, ha⟩ := h e (List.mem_cons_self ..)
    have h2 : intKeys k es := fun x hx => h x (List.mem_cons_of_mem _ hx)
    by_cases hz : z = a
    · subst hz
      refine .inr ⟨e.val, 0, e, by simp [lookE, ha], by simp [Instr.findNow, ha, Instr.sameNow], rfl, ha, fun u y => ?_⟩
      simp only [List.modify_zero_cons, lookE, ha]
      split <;> rfl
    · have hb : (z == a) = false := by simpa using hz
      rcases findNow_int (z := z) (i := i + 1) h2 with ⟨g1, g2⟩ | ⟨v, j, e', g1, g2, g3, g4, g5⟩
      · exact .inl ⟨by simp [lookE, ha, hz, g1], by simp [Instr.findNow, ha, Instr.sameNow, hb, g2]⟩
      · refine .inr ⟨v, j + 1, e', by simp [lookE, ha, hz, g1], by simp [Instr.findNow, ha, Instr.sameNow, hb, g2]; omega, by simpa using g3, g4, fun u y => ?_⟩
        simp only [List.modify_succ_cons, lookE, ha, g5]
        by_cases hy : y = a
        · subst hy; rw [if_pos rfl, if_pos rfl, if_neg (Ne.symm hz)]
        · rw [if_neg hy, if_neg hy]
theorem lookE_push {k : IntKind} {z : Int} {v : Value} {n : Nat} : ∀ {es : List MapEntry}, intKeys k es → lookE es z = none → ∀ y, lookE (es ++ [⟨.int k z, v, n⟩]) y = if y = z then some v else lookE es y
  | [], _, _, y => by simp [lookE]
  | e :: es, h, hn, y => by
    obtain ⟨a, ha⟩ := h e (List.mem_cons_self ..)
    have h2 : intKeys k es := fun x hx => h x (List.mem_cons_of_mem _ hx)
    have hz : z ≠ a := fun e2 => by simp [lookE, ha, e2] at hn
    have hn2 : lookE es z = none := by simpa [lookE, ha, hz] using hn
    simp only [List.cons_append, lookE, ha, lookE_push h2 hn2]
    by_cases hy : y = a
    · subst hy; rw [if_pos rfl, if_pos rfl, if_neg (Ne.symm hz)]
    · rw [if_neg hy, if_neg hy]

/-- A map of one's own, by what it says. -/
structure MP (h : Heap) (b : Nat) (k : IntKind) (f : Int → Option Value) : Prop where
  shape : ∃ es clk, h = blk b (.map es clk) ∧ intKeys k es.toList ∧ ∀ z, lookE es.toList z = f z
class HIn (own : List Heap) (h : Heap) : Prop where
  mem : h ∈ own
instance HIn.head {h : Heap} {r : List Heap} : HIn (h :: r) h := ⟨List.mem_cons_self ..⟩
instance (priority := low) HIn.tail {h k : Heap} {r : List Heap} [t : HIn r h] : HIn (k :: r) h := ⟨List.mem_cons_of_mem _ t.mem⟩
theorem MP.nil {b : Nat} {k : IntKind} : MP (blk b (.map #[] 0)) b k (fun _ => none) := ⟨#[], 0, rfl, fun e he => by simp at he, fun z => rfl⟩
section
variable {P : Program} {own : List Heap} {n : Nat} {env : Env} {o : Oper}
theorem run_checkInt {t : TypeId} {k : IntKind} {v : Value} (h : P.underlying t = some (.int k)) (e : Bool) (w : World) : (Instr.checkKey e 10000 t v).run P w = .ok () w := by
  rw [show (10000 : Nat) = 9999 + 1 from rfl, Instr.checkKey]; simp [run_und h]
theorem run_findInt {t : TypeId} {k : IntKind} {z : Int} {es : List MapEntry} {r : Option (Nat × Value)} (h : P.underlying t = some (.int k)) (hf : Instr.findNow (.int k) (.int k z) es 0 = some r) (w : World) : (Instr.findKey t (.int k z) es).run P w = .ok r w := by
  simp [Instr.findKey, run_und h, hf]
theorem opv_lookS {t kt et : TypeId} {x ix : Operand} {ok : Bool} {k : IntKind} {z : Int} {b : Nat} {h : Heap} {f : Int → Option Value} {v zm zk zv : Value} {im ik iv : TypeInfo} {dv : TypeDesc} [h1 : Ty P t (.map kt et) zm im] [h2 : Ty P kt (.int k) zk ik] [h3 : Ty P et dv zv iv]
    (mp : MP h b k f) [hi : HIn own h] (ho : o.op = .lookup t x ix ok) (hx : ev env x = some (.map (some b))) (hix : ev env ix = some (.int k z)) (hf : f z = some v) : OpV P own n o env (if ok then .tuple #[v, .bool true] else v) := by
  obtain ⟨es, clk, rfl, hk, hl⟩ := mp.shape
  refine ⟨by rw [ho]; rfl, fun a w X ha s => ⟨w, s, .inl ?_⟩⟩
  have hb : w.heap[b]? = some (.map es clk) := s.at (List.mem_append.2 (.inl hi.mem)) (blk_self _ _)
  rcases findNow_int (z := z) (i := 0) hk with ⟨g1, g2⟩ | ⟨v', j, e, g1, g2, -⟩
  · rw [hl, hf] at g1; cases g1
  · rw [hl, hf] at g1; cases g1
    cases ok <;> simp [execOp, ho, ha.eval hx, ha.eval hix, Instr.lookup, run_und h1.u, getObj, Sem.run, hb, run_checkInt h2.u, run_findInt h2.u g2]
theorem opv_lookN {t kt et : TypeId} {x ix : Operand} {ok : Bool} {k : IntKind} {z : Int} {b : Nat} {h : Heap} {f : Int → Option Value} {zm zk zv : Value} {im ik iv : TypeInfo} {dv : TypeDesc} [h1 : Ty P t (.map kt et) zm im] [h2 : Ty P kt (.int k) zk ik] [h3 : Ty P et dv zv iv]
    (mp : MP h b k f) [hi : HIn own h] (ho : o.op = .lookup t x ix ok) (hx : ev env x = some (.map (some b))) (hix : ev env ix = some (.int k z)) (hf : f z = none) : OpV P own n o env (if ok then .tuple #[zv, .bool false] else zv) := by
  obtain ⟨es, clk, rfl, hk, hl⟩ := mp.shape
  refine ⟨by rw [ho]; rfl, fun a w X ha s => ⟨w, s, .inl ?_⟩⟩
  have hb : w.heap[b]? = some (.map es clk) := s.at (List.mem_append.2 (.inl hi.mem)) (blk_self _ _)
  rcases findNow_int (z := z) (i := 0) hk with ⟨g1, g2⟩ | ⟨v', j, e, g1, g2, -⟩
  · cases ok <;> simp [execOp, ho, ha.eval hx, ha.eval hix, Instr.lookup, run_und h1.u, getObj, Sem.run, hb, run_checkInt h2.u, run_findInt h2.u g2, h3.z]
  · rw [hl, hf] at g1; cases g1
theorem hop_update {t kt et : TypeId} {x ix y : Operand} {k : IntKind} {z : Int} {b : Nat} {h : Heap} {f : Int → Option Value} {v zm zk : Value} {im ik : TypeInfo} [h1 : Ty P t (.map kt et) zm im] [h2 : Ty P kt (.int k) zk ik]
    (mp : MP h b k f) (ho : o.op = .mapUpdate t x ix y) (hx : ev env x = some (.map (some b))) (hix : ev env ix = some (.int k z)) (hy : ev env y = some v) :
    HOp P [h] n o env fun _ own' => ∃ h', own' = [h'] ∧ MP h' b k (fun q => if q = z then some v else f q) := by
  obtain ⟨es, clk, rfl, hk, hl⟩ := mp.shape
  refine ⟨by rw [ho]; rfl, fun a w X ha s => ?_⟩
  have s1 : Sat (blk b (.map es clk) :: X) w := by simpa using s
  have hb : w.heap[b]? = some (.map es clk) := s1.at (List.mem_cons_self ..) (blk_self _ _)
  have hset : ∀ ob : Obj, (∀ off, fzo ob off = false) → ∃ w', (setObj b ob).run P w = .ok () w' ∧ Sat (blk b ob :: X) w' := fun ob hz => by
    refine ⟨{ w with heap := w.heap.set! b ob }, by simp [setObj, Sem.run, hb], ?_⟩
    have hlt : b < w.heap.size := (Array.getElem?_eq_some_iff.1 hb).1
    refine s1.put (by simp [hlt]) rfl rfl (fun q hq => ?_) (fun off => by rw [hz]; rfl)
    simp [Ne.symm hq]
  rcases findNow_int (z := z) (i := 0) hk with ⟨g1, g2⟩ | ⟨v', j, e, g1, g2, g3, g4, g5⟩
  · obtain ⟨w', hr, s'⟩ := hset (.map (es.push ⟨.int k z, v, clk⟩) (clk + 1)) (fun _ => rfl)
    refine ⟨w', .inr (.inl ⟨[blk b (.map (es.push ⟨.int k z, v, clk⟩) (clk + 1))], ?_, by simpa using s', _, rfl, ⟨_, _, rfl, fun e he => ?_, fun y => ?_⟩⟩)⟩
    · simp [execOp, ho, ha.eval hx, ha.eval hix, ha.eval hy, Instr.mapUpdate, run_und h1.u, getObj, Sem.run, hb, run_checkInt h2.u, run_findInt h2.u g2, hr]
    · rw [Array.toList_push, List.mem_append] at he
      rcases he with he | he
      · exact hk e he
      · simp at he; subst he; exact ⟨z, rfl⟩
    · rw [Array.toList_push, lookE_push hk g1, hl]
  · obtain ⟨w', hr, s'⟩ := hset (.map (es.modify j fun e => { e with key := .int k z, val := v }) clk) (fun _ => rfl)
    refine ⟨w', .inr (.inl ⟨[blk b (.map (es.modify j fun e => { e with key := .int k z, val := v }) clk)], ?_, by simpa using s', _, rfl, ⟨_, _, rfl, fun e he => ?_, fun y => ?_⟩⟩)⟩
    · have hk2 : (Instr.keyThatStays (.int k z) (.int k z)).run P w = .ok (.int k z) w := by simp [Instr.keyThatStays, Instr.sameBits]
      have g3' : es[j]? = some e := by simpa using g3
      simp [execOp, ho, ha.eval hx, ha.eval hix, ha.eval hy, Instr.mapUpdate, run_und h1.u, getObj, Sem.run, hb, run_checkInt h2.u, run_findInt h2.u g2, g3', g4, hk2, hr]
    · rw [Array.toList_modify] at he
      obtain ⟨i, hi, rfl⟩ := List.mem_iff_getElem.1 he
      rw [List.getElem_modify]
      split
      · exact ⟨z, rfl⟩
      · exact hk _ (List.getElem_mem _)
    · rw [Array.toList_modify, g5, hl]
end
section
variable {P : Program} {r : Option Nat} {F : Heap} {n : Nat} {Q : SPost} {env : Env} {own rest hs prot : List Heap} {ds : List Deferred} {all : Array Oper} {l : List Oper} {o : Oper}
theorem sl_update {t kt et : TypeId} {x ix y : Operand} {k : IntKind} {z : Int} {b : Nat} {h : Heap} {f : Int → Option Value} {v zm zk : Value} {im ik : TypeInfo} [h1 : Ty P t (.map kt et) zm im] [h2 : Ty P kt (.int k) zk ik]
    (hd : o.dst = none) (hg : wantedE all env o = some true) (ho : o.op = .mapUpdate t x ix y) (hx : ev env x = some (.map (some b))) (hix : ev env ix = some (.int k z)) (hy : ev env y = some v) (mp : MP h b k f) [tk : TakeL own [h] rest]
    (next : ∀ h', MP h' b k (fun q => if q = z then some v else f q) → SOL false P r F n all l Q env (h' :: rest) ds) : SOL false P r F n all (o :: l) Q env own ds :=
  sl_hop0 hd hg (hop_update mp ho hx hix hy) fun v' own' hR => by
    obtain ⟨h', rfl, mp'⟩ := hR; exact ⟨_, rfl, next h' mp'⟩
theorem sl_makeMap {t : TypeId} {d : Nat} (hd : o.dst = some d) (hn : Nat.blt d n = true) (hg : wantedE all env o = some true) (ho : o.op = .makeMap t none)
    (next : ∀ b, SOL false P r F n all l Q ((d, .map (some b)) :: env) (blk b (.map #[] 0) :: own) ds) : SOL false P r F n all (o :: l) Q env own ds := by
  refine sl_turn hd hn hg (by rw [ho]; rfl) fun A w hA hs => ?_
  refine ⟨.map (some w.heap.size), { w with heap := w.heap.push (.map #[] 0) }, blk w.heap.size (.map #[] 0) :: own, ?_, (sat_alloc hs _ (fun _ => rfl)).swap, next _⟩
  simp [execOp, ho, Instr.makeMap, newObj, Sem.run]
end
/-- What is left of a slice of one's own, without its first. -/
theorem OS.tail {h : Heap} {base : Option Addr} {n c : Nat} {T : TypeId} {x : Value} {cs : List Value} (os : OS h base (n + 1) c T 1 (x :: cs)) : OS h (sub base 1 c 1) n (c - 1) T 1 cs := by
  have hl := os.hlen
  have hle := os.hle
  simp only [List.length_cons, Nat.mul_one] at hl
  refine ⟨by omega, by omega, ?_⟩
  rcases os.shape with ⟨-, h2, -⟩ | ⟨b, off, arr, h1, h2, h3, h4⟩
  · omega
  · subst h1
    unfold sub
    split
    · rename_i hc
      subst hc
      have : cs = [] := List.length_eq_zero_iff.1 (by omega)
      subst this
      exact .inr ⟨b, off, arr, rfl, h2, by omega, fun k v hk => by simp at hk⟩
    · refine .inr ⟨b, off + 1, arr, by simp [addr_add], h2, by omega, fun k v hk => ?_⟩
      have := h4 (k + 1) v (by simpa using hk)
      rw [show off + 1 + k = off + (k + 1) by omega]; exact this
end Go.SL
end
section
/- Slices that are made. -/
namespace Go.SL
section
variable {P : Program} {r : Option Nat} {F : Heap} {n : Nat} {Q : SPost} {env : Env} {own rest hs prot : List Heap} {ds : List Deferred} {all : Array Oper} {l : List Oper} {o : Oper}
theorem sl_makeSlice {t e : TypeId} {bytes m d : Nat} {x y : Operand} {zv : Value} {de : TypeDesc} {ti : TypeInfo} [g : TyG P t e 1 bytes] [z : Ty P e de zv ti]
    (hd : o.dst = some d) (hn : Nat.blt d n = true) (hg : wantedE all env o = some true) (ho : o.op = .makeSlice t x y) (hx : ev env x = some (.int .i64 (m : Int))) (hy : ev env y = some (.int .i64 (m : Int)))
    (hz : cellsO zv = some [zv]) (hroom : m * bytes ≤ 70368744177664) (hm : m ≤ 70368744177664)
    (next : ∀ b h, OS h (some ⟨b, 0, none⟩) m m e 1 (List.replicate m zv) → SOL false P r F n all l Q ((d, .slice (some ⟨b, 0, none⟩) m m) :: env) (h :: own) ds) : SOL false P r F n all (o :: l) Q env own ds := by
  refine sl_turn hd hn hg (by rw [ho]; rfl) fun A w hA hs => ?_
  obtain ⟨i, z', g1, g2, g3, g4, g5, g6⟩ := g.all
  subst g6
  have wl : IntKind.i64.wrap (m : Int) = m := wrap64_id (by omega) (by omega)
  have hb : ¬ (281474976710656 < (i.bytes : Int) * m) := by
    have : (i.bytes : Int) * m = ((m * i.bytes : Nat) : Int) := by rw [Int.natCast_mul, Int.mul_comm]
    omega
  have hn' : ¬ ((m : Int) < 0) := by omega
  have hroom' : ∀ w : World, (askRoom (m * i.bytes)).run P w = .ok () w := fun w => by unfold askRoom; split <;> simp
  have hzc : zv.cells = #[zv] := cellsO_eq hz
  have hzz : ((Array.range m).map fun x => zv.cells[x % zv.cells.size]!) = ⟨List.replicate m zv⟩ := by
    rw [hzc]
    apply Array.ext'
    apply List.ext_getElem?
    intro j
    by_cases hj : j < m
    · simp [hj, Nat.mod_one]
    · simp [hj]
  refine ⟨.slice (some ⟨w.heap.size, 0, none⟩) m m, { w with heap := w.heap.push (.cells ⟨List.replicate m zv⟩ e (0, 0)) }, blk w.heap.size (.cells ⟨List.replicate m zv⟩ e (0, 0)) :: own, ?_, (sat_alloc hs _ (fun _ => by simp [fzo])).swap, next _ _ (OS.blk (by simp))⟩
  have hzn : ∀ w, (zeroValue e).run P w = .ok zv w := fun w => z.z w
  by_cases h0 : m = 0
  · subst h0
    simp [execOp, ho, hA.eval hx, hA.eval hy, Instr.makeSlice, run_und g1, asInt, asIntOf, run_info g2, run_size g2, g5, newRow, askRoom, IntKind.wrap, IntKind.bits, IntKind.signed, show (Array.range 0).map (fun (_ : Nat) => (default : Value)) = ⟨[]⟩ by simp]
  · simp [execOp, ho, hA.eval hx, hA.eval hy, Instr.makeSlice, run_und g1, asInt, asIntOf, run_info g2, wl, hb, hn', hroom', run_size g2, g5, h0, newRow, hzn, hzz]
end
end Go.SL
end
section
/- The end of a slice cleared. -/
namespace Go.SL
section
variable {P : Program} {r : Option Nat} {F : Heap} {n : Nat} {Q : SPost} {env : Env} {own rest hs prot : List Heap} {ds : List Deferred} {all : Array Oper} {l : List Oper} {o : Oper}
theorem sl_clear {t e : TypeId} {bytes len cap i : Nat} {c : Call} {x : Operand} {base : Option Addr} {h : Heap} {zv : Value} {de : TypeDesc} {ti : TypeInfo} {cs : List Value} [g : TyG P t e 1 bytes] [z : Ty P e de zv ti]
    (hd : o.dst = none) (hg : wantedE all env o = some true) (ho : o.op = .call c) (hc : c.callee = .builtin .clear) (hax : c.args = #[x]) (hat : c.argTypes = #[t]) (os : OS h base len cap e 1 cs)
    (hx : ev env x = some (.slice (sub base i cap 1) (len - i) (cap - i))) [tk : TakeL own [h] rest] (hz : cellsO zv = some [zv]) (h1 : zv.oneCell' = true) (hi : i ≤ len)
    (next : ∀ h', OS h' base i cap e 1 (cs.take i) → SOL false P r F n all l Q env (h' :: rest) ds) : SOL false P r F n all (o :: l) Q env own ds := by
  have hl := os.hlen
  have hle := os.hle
  refine sl_hop0 (hs := [h]) (R := fun _ own' => ∃ h', own' = [h'] ∧ OS h' base i cap e 1 (cs.take i)) hd hg ⟨by rw [ho]; rfl, fun A w X hA s => ?_⟩ (fun v own' hR => by obtain ⟨h', rfl, os'⟩ := hR; exact ⟨_, rfl, next h' os'⟩)
  obtain ⟨inf, z', g1, g2, g3, g4, g5, g6⟩ := g.all
  rcases Nat.eq_or_lt_of_le hi with e0 | hlt
  · subst e0
    refine ⟨w, .inl ⟨.tuple #[], [h], ?_, s, h, rfl, by rw [List.take_of_length_le (by omega)]; exact os⟩⟩
    rw [Nat.sub_self] at hx
    cases hb : sub base i cap 1 with
    | none => rw [hb] at hx; simp [execOp, ho, resolve, hc, hax, hat, invoke, builtin, hA.eval hx, Builtin.clear_, run_und g1]
    | some a => rw [hb] at hx; simp [execOp, ho, resolve, hc, hax, hat, invoke, builtin, hA.eval hx, Builtin.clear_, run_und g1]
  · rcases os.shape with ⟨-, h2, -⟩ | ⟨b, off, arr, hb, hh, hsz, hcs⟩
    · omega
    · subst hb; subst hh
      have hsub : sub (some (⟨b, off, none⟩ : Addr)) i cap 1 = some ⟨b, off + i, none⟩ := by
        unfold sub; rw [if_neg (by omega)]; simp [addr_add]
      rw [hsub] at hx
      have s1 : Sat (blk b (.cells arr e (0, 0)) :: X) w := by simpa using s
      have hbw : w.heap[b]? = some (.cells arr e (0, 0)) := s1.at (List.mem_cons_self ..) (blk_self _ _)
      let zs : List Value := List.replicate (len - i) zv
      have hst := run_storeCells_at P b (off + i) e zs 0 arr w hbw (by simp [zs]; omega) (by intro v hv; rw [List.eq_of_mem_replicate hv]; exact h1)
      let arr' : Array Value := (arr.toList.take (off + i + 0) ++ zs ++ arr.toList.drop (off + i + 0 + zs.length)).toArray
      have hzc : zv.cells = #[zv] := cellsO_eq hz
      have hzz : (Builtin.zeroCells zv.cells (len - i)).toList = zs := by
        rw [hzc]
        apply List.ext_getElem?
        intro j
        simp only [Builtin.zeroCells, zs]
        by_cases hj : j < len - i
        · simp [hj, Nat.mod_one]
        · simp [hj]
      have hzn : ∀ w, (zeroValue e).run P w = .ok zv w := fun w => z.z w
      have hrun : (execOp A.eval o).run P w = .ok (.value (.tuple #[])) (w.setRow b arr') := by
        have h0 : len - i ≠ 0 := by omega
        obtain ⟨q, hq⟩ : ∃ q, len - i = q + 1 := ⟨len - i - 1, by omega⟩
        rw [hq] at hx hzz
        simp [execOp, ho, resolve, hc, hax, hat, invoke, builtin, hA.eval hx, Builtin.clear_, run_und g1, hzn, hzz, hst, arr']
      refine ⟨w.setRow b arr', .inl ⟨.tuple #[], [blk b (.cells arr' e (0, 0))], hrun, ?_, _, rfl, ?_⟩⟩
      · have s2 := s1.put (setRow_heap w b _ arr' e (0, 0) hbw) (by rfl) (by rfl) (fun k hk => setRow_other w b k _ hk) (fun _ => rfl)
        simpa using s2
      · refine ⟨by rw [List.length_take]; omega, by omega, .inr ⟨b, off, arr', rfl, rfl, ?_, fun j v hj => ?_⟩⟩
        · have : arr'.size = arr.size := by simp [arr', zs]; omega
          rw [this]; exact hsz
        · rw [List.getElem?_take] at hj
          split at hj
          · rename_i hji
            have := hcs j v hj
            simp only [arr', Nat.add_zero, List.getElem?_toArray, List.append_assoc]
            rw [List.getElem?_append_left (by simp; omega), List.getElem?_take, if_pos (by omega)]
            simpa using this
          · cases hj
end
end Go.SL
end
section
/- copy into a slice of one's own. -/
namespace Go.SL
theorem hop_copy {P : Program} {n : Nat} {o : Oper} {env : Env} {t t2 e : TypeId} {c : Call} {x y : Operand} {base b2 : Option Addr} {len cap n2 c2 : Nat} {h k : Heap} {cs src : List Value} {T : TypeId} [g : TyE P t e 1]
    (os : OS h base len cap T 1 cs) (sl : Sl k b2 src) (hsl : src.length = n2) (hn : n2 ≤ len) (hp : 0 < len) (h1 : src.all (·.oneCell') = true)
    (ho : o.op = .call c) (hc : c.callee = .builtin .copy) (hax : c.args = #[x, y]) (hat : c.argTypes = #[t, t2]) (hx : ev env x = some (.slice base len cap)) (hy : ev env y = some (.slice b2 n2 c2)) :
    HOp P [h, k] n o env fun v own' => v = .int .i64 (n2 : Int) ∧ ∃ h', own' = [h', k] ∧ OS h' base len cap T 1 (src ++ cs.drop n2) := by
  refine ⟨by rw [ho]; rfl, fun a w X ha hs => ?_⟩
  have hl := os.hlen
  rcases os.shape with ⟨-, h2, -, -⟩ | ⟨b, off, arr, hb, hh, hsize, hcs⟩
  · omega
  · subst hb; subst hh
    have s1 : Sat (blk b (.cells arr T (0, 0)) :: k :: X) w := by simpa using hs
    have hb : w.heap[b]? = some (.cells arr T (0, 0)) := s1.at (List.mem_cons_self ..) (blk_self _ _)
    have hle := os.hle
    have hst := run_storeCells_at P b off T src 0 arr w hb (by omega) (by simpa using h1)
    let arr' : Array Value := (arr.toList.take (off + 0) ++ src ++ arr.toList.drop (off + 0 + src.length)).toArray
    have hmin : Nat.min n2 len = n2 := Nat.min_eq_left hn
    have hfc : (Builtin.firstCells 1 n2 (.slice b2 n2 c2)).run P w = .ok src.toArray w := by
      rcases Nat.eq_zero_or_pos n2 with h0 | hp2
      · subst h0
        obtain rfl : src = [] := List.length_eq_zero_iff.1 hsl
        cases b2 with
        | none => simp [Builtin.firstCells]
        | some q => exact run_firstCells_some (P := P) w 1 0 q 0 c2 [] rfl fun j v hj => by cases hj
      · obtain ⟨v0, hv0⟩ : ∃ v, src[0]? = some v := ⟨_, List.getElem?_eq_getElem (by omega)⟩
        obtain ⟨⟨bb, o2, sp⟩, arr2, T2, fz2, q1, q2, q3, q4⟩ := sl.cell 0 v0 hv0
        obtain rfl : sp = none := q2
        subst q1
        refine run_firstCells_some (P := P) w 1 n2 ⟨bb, o2, none⟩ n2 c2 src (by omega) fun j v hj => ?_
        obtain ⟨a', arr3, T3, fz3, p1, p2, p3, p4⟩ := sl.cell j v hj
        cases p1
        have := s1.at (List.mem_cons_of_mem _ (List.mem_cons_self ..)) p3
        have e : Addr.add ⟨bb, o2, none⟩ j = ⟨bb, o2 + j, none⟩ := by simp [Addr.add]
        rw [e, cell_at this]
        exact p4
    have hrun : (execOp a.eval o).run P w = .ok (.value (.int .i64 (n2 : Int))) (w.setRow b arr') := by
      simp only [execOp, ho]
      simp [resolve, hc, hax, hat, invoke, builtin, Builtin.copy_, ha.eval hx, ha.eval hy, run_und g.u, Builtin.lenOf, goInt, g.s]
      rw [hmin, hfc]
      simp only [Result.andThen]
      rw [hst]
    refine ⟨w.setRow b arr', .inl ⟨_, [blk b (.cells arr' T (0, 0)), k], hrun, ?_, rfl, _, rfl, ?_⟩⟩
    · have s2 := s1.put (setRow_heap w b _ arr' T (0, 0) hb) (by rfl) (by rfl) (fun k hk => setRow_other w b k _ hk) (fun _ => rfl)
      simpa using s2
    · refine ⟨by simp; omega, os.hle, .inr ⟨b, off, arr', rfl, rfl, ?_, fun j v hj => ?_⟩⟩
      · have : arr'.size = arr.size := by simp [arr']; omega
        rw [this]; exact hsize
      · simp only [arr', Nat.add_zero, List.getElem?_toArray]
        have e2 : (arr.toList.take off).length = off := by simp; omega
        rw [List.append_assoc, List.getElem?_append_right (by omega), e2, show off + j - off = j by omega]
        by_cases h2 : j < src.length
        · rw [List.getElem?_append_left h2] at hj ⊢; exact hj
        · rw [List.getElem?_append_right (by omega), List.getElem?_drop] at hj ⊢
          have := hcs _ v hj
          rw [show off + (n2 + (j - src.length)) = off + src.length + (j - src.length) by omega] at this
          simpa using this
section
variable {P : Program} {r : Option Nat} {F : Heap} {n : Nat} {Q : SPost} {env : Env} {own rest hs prot : List Heap} {ds : List Deferred} {all : Array Oper} {l : List Oper} {o : Oper}
theorem sl_copy {d : Nat} {t t2 e : TypeId} {c : Call} {x y : Operand} {base b2 : Option Addr} {len cap n2 c2 : Nat} {h k : Heap} {cs src : List Value} {T : TypeId} [g : TyE P t e 1]
    (hd : o.dst = some d) (hnt : Nat.blt d n = true) (hg : wantedE all env o = some true) (ho : o.op = .call c) (hc : c.callee = .builtin .copy) (hax : c.args = #[x, y]) (hat : c.argTypes = #[t, t2]) (hx : ev env x = some (.slice base len cap)) (hy : ev env y = some (.slice b2 n2 c2))
    (os : OS h base len cap T 1 cs) (sl : Sl k b2 src) [tk : TakeL own [h, k] rest] (hsl : src.length = n2) (hn : n2 ≤ len) (hp : 0 < len) (h1 : src.all (·.oneCell') = true)
    (next : ∀ h', OS h' base len cap T 1 (src ++ cs.drop n2) → SOL false P r F n all l Q ((d, .int .i64 (n2 : Int)) :: env) (h' :: k :: rest) ds) : SOL false P r F n all (o :: l) Q env own ds :=
  sl_hop hd hnt hg (hop_copy os sl hsl hn hp h1 ho hc hax hat hx hy) fun v' own' hR => by
    obtain ⟨rfl, h', rfl, os'⟩ := hR; exact ⟨_, rfl, next h' os'⟩
end
end Go.SL
end
section
/- A map's entries that are written down. -/
namespace Go.SL
section
variable {P : Program} {own : List Heap} {n : Nat} {env : Env} {o : Oper}
theorem hop_insert {t kt et : TypeId} {x ix y : Operand} {k : IntKind} {z : Int} {b : Nat} {h : Heap} {f : Int → Option Value} {v zm zk : Value} {im ik : TypeInfo} [h1 : Ty P t (.map kt et) zm im] [h2 : Ty P kt (.int k) zk ik]
    (mp : MP h b k f) (ho : o.op = .insert t x ix y) (hx : ev env x = some (.map (some b))) (hix : ev env ix = some (.int k z)) (hy : ev env y = some v) :
    HOp P [h] n o env fun _ own' => ∃ h', own' = [h'] ∧ MP h' b k (fun q => if q = z then some v else f q) := by
  obtain ⟨-, g⟩ := hop_update (P := P) (n := n) (env := env) (t := t) (kt := kt) (et := et) (o := { o with op := .mapUpdate t x ix y }) mp rfl hx hix hy
  refine ⟨by rw [ho]; rfl, fun a w X ha s => ?_⟩
  have e : execOp a.eval o = execOp a.eval { o with op := .mapUpdate t x ix y } := by unfold execOp; rw [ho]
  rw [e]
  exact g a w X ha s
end
section
variable {P : Program} {r : Option Nat} {F : Heap} {n : Nat} {Q : SPost} {env : Env} {own rest hs prot : List Heap} {ds : List Deferred} {all : Array Oper} {l : List Oper} {o : Oper}
theorem sl_insert {t kt et : TypeId} {x ix y : Operand} {k : IntKind} {z : Int} {b : Nat} {h : Heap} {f : Int → Option Value} {v zm zk : Value} {im ik : TypeInfo} [h1 : Ty P t (.map kt et) zm im] [h2 : Ty P kt (.int k) zk ik]
    (hd : o.dst = none) (hg : wantedE all env o = some true) (ho : o.op = .insert t x ix y) (hx : ev env x = some (.map (some b))) (hix : ev env ix = some (.int k z)) (hy : ev env y = some v) (mp : MP h b k f) [tk : TakeL own [h] rest]
    (next : ∀ h', MP h' b k (fun q => if q = z then some v else f q) → SOL false P r F n all l Q env (h' :: rest) ds) : SOL false P r F n all (o :: l) Q env own ds :=
  sl_hop0 hd hg (hop_insert mp ho hx hix hy) fun v' own' hR => by
    obtain ⟨h', rfl, mp'⟩ := hR; exact ⟨_, rfl, next h' mp'⟩
end
end Go.SL
end
section
/- Heaps that are read from now on, as one. -/
namespace Go.SL
theorem T_join {P : Program} {f : FuncId} {args : List Value} {own : List Heap} {R : Ending → List Heap → List Heap → Prop}
    (h : T P f args own fun e o => ∃ A N, o = N ++ A ∧ R e A N) : T P f args own fun e o => ∃ A N K, o = K :: A ∧ (∀ k ∈ N, hle k K) ∧ R e A N := by
  intro w X s
  refine (h w X s).mono ?_
  rintro e w' ⟨o, s2, A, N, rfl, hR⟩
  have s3 : Sat (N ++ (A ++ X)) w' := by simpa using s2
  have d : N.Pairwise Disj := (List.pairwise_append.1 s3.dj).1
  exact ⟨joins N :: A, by simpa using s3.joins, A, N, joins N, rfl, fun k hk => hle_joins d hk, hR⟩
/-- Some of the heaps become one, which is only read from now on. -/
theorem swp_merge {P : Program} {r : Option Nat} {F : Heap} {n : Nat} {c : Code} {Q : SPost} {env : Env} {own rest : List Heap} {ds : List Deferred} (hs : List Heap) [t : TakeL own hs rest]
    (h : ∀ K, (∀ k ∈ hs, hle k K) → SWP P r F n c Q env (K :: rest) ds) : SWP P r F n c Q env own ds := by
  intro a w ha hds s
  have pp : (F :: own).Perm (hs ++ (rest ++ [F])) := (List.perm_append_comm (l₁ := [F]) (l₂ := own)).trans (by rw [← List.append_assoc]; exact t.perm.append_right [F])
  have s2 : Sat (hs ++ (rest ++ [F])) w := s.perm pp
  have d : hs.Pairwise Disj := (List.pairwise_append.1 s2.dj).1
  exact h (joins hs) (fun k hk => hle_joins d hk) a w ha hds (s2.joins.perm (by
    rw [← List.cons_append]
    exact List.perm_append_comm (l₁ := joins hs :: rest) (l₂ := [F])))
end Go.SL
end
section
/- Checks of pointers that are not nil; what is ahead in a slice. -/
namespace Go.SL
theorem opv_nilCheck {P : Program} {own : List Heap} {n : Nat} {env : Env} {o : Oper} {x : Operand} {a : Addr} (ho : o.op = .nilCheck x) (hx : ev env x = some (.pointer (some a))) : OpV P own n o env (.pointer (some a)) :=
  opv_run (by rw [ho]; rfl) fun c w ha => by simp [execOp, ho, ha.eval hx]
end Go.SL
end
section
/- A range over a function whose iterator looks at what the rounds change. -/
namespace Go.SL
/-- A function that hands to its yield what it finds, as 'nx' tells from the heap of the rounds, until there is none, or yield says no. -/
def IterL (P : Program) (f : FuncId) (first captured : List Value) (hs : List Heap) (nx : Nat → Heap → Option (List Value) → Prop) : Prop :=
  ∀ (L : Nat) (J : Nat → Heap → Prop) (Jd Jx : Heap → Prop),
    (∀ k H, J k H → (∃ x, nx k H (some x) ∧ YT P L x H fun v H' => (v = .bool true ∧ J (k + 1) H') ∨ (v = .bool false ∧ Jx H')) ∨ (nx k H none ∧ Jd H)) →
    ∀ H, J 0 H → T P f (first ++ [.func (.yield L) #[] #[]] ++ captured) (H :: hs) fun e own' => e = .returned (.tuple #[]) ∧ ∃ H', own' = H' :: hs ∧ (Jd H' ∨ Jx H')
theorem hle_tail {h : Heap} {own : List Heap} (d : (h :: own).Pairwise Disj) : hle (joins own) (joins (h :: own)) :=
  join_right (disj_joins (List.pairwise_cons.1 d).1)
section
variable {P : Program} {F : Heap} {n : Nat} {Q : SPost} {env : Env} {own rest hsI : List Heap} {ds : List Deferred} {assign body : Code}
theorem swp_rangeL {g : Operand} {ps : Array Tmp} {f : FuncId} {first captured : Array Value} {nx : Nat → Heap → Option (List Value) → Prop} [he : Enters P f] [t : TakeL own hsI rest]
    (J : Nat → List Heap → Prop) (Jd : List Heap → Prop) (Jx : Code → List Heap → Prop)
    (hg : ev env g = some (.func (.func f) first captured)) (hI : IterL P f first.toList captured.toList hsI nx) (hmono : ∀ k H H' o, hle H H' → nx k H o → nx k H' o)
    (hps : ps.toList.all (fun p => Nat.blt p n) = true) (h0 : J 0 rest)
    (hround : ∀ L k own1, J k own1 → own1.Pairwise Disj → (∃ x, nx k (joins own1) (some x) ∧ x.length = ps.size ∧ ∀ F, ∃ env1, bindO ps.toList x env = some env1 ∧ SWP P (some L) F n assign (Thn (fun env2 own2 ds2 => ∀ F2, SWP P (some L) F2 n body (RoundQ (J (k + 1)) Jx) env2 own2 ds2) fun _ _ _ _ => False) env1 own1 []) ∨ (nx k (joins own1) none ∧ Jd own1))
    (hdone : ∀ D own1, Jd own1 → ∃ own2, appH own1 hsI = some own2 ∧ Q .normal env (blk D (.deferred (some [])) :: own2) (mark D :: ds))
    (hstop : ∀ D c own1, Jx c own1 → ∃ own2, appH own1 hsI = some own2 ∧ SWP P none F n c Q env (blk D (.deferred (some [])) :: own2) (mark D :: ds)) :
    SWP P none F n (.rangeFunc g ps assign body) Q env own ds := by
  have hdone : ∀ D own1, Jd own1 → Q .normal env (blk D (.deferred (some [])) :: (own1 ++ hsI)) (mark D :: ds) := fun D own1 hJ => by
    obtain ⟨own2, e, h⟩ := hdone D own1 hJ
    rw [appH_eq e] at h; exact h
  have hstop : ∀ D c own1, Jx c own1 → SWP P none F n c Q env (blk D (.deferred (some [])) :: (own1 ++ hsI)) (mark D :: ds) := fun D c own1 hJ => by
    obtain ⟨own2, e, h⟩ := hstop D c own1 hJ
    rw [appH_eq e] at h; exact h
  intro a w ha hd hs
  refine wpIn_rangeFunc fun fn _ => ?_
  let L := w.heap.size + 1
  let rc : Loop := { state := .ready, pending := none, fn, tmps := a.tmps, params := ps, assign, body, defers := w.heap.size }
  let xv : Value := .func (.yield L) #[] #[]
  let w1 := (w.alloc (.deferred (some []))).alloc (.loop rc)
  have hres : (resolve a.eval (rangeCall g L) 0).run P w1 = .ok { target := .fn (.func f) captured, args := first ++ #[xv] } w1 := by
    simp only [resolve, ha.eval hg, Deferred.ofValue, Sem.run_pure]
    simp [Act.eval, xv]
  have hinv : (invoke (.fn (.func f) captured) (first ++ #[xv])).run P w1 = .ok (.enter f (first ++ #[xv] ++ captured)) w1 := he.run _ _
  refine ⟨L, [SL.mark w.heap.size], w1, { target := .fn (.func f) captured, args := first ++ #[xv] }, w1, f, first ++ #[xv] ++ captured, w1, run_enterLoop_outer fn a.tmps ps assign body, hres, fun _ _ => by simp, hinv, fun hx => by simp at hx, callsIn_fen _ ?_⟩
  have e : first ++ #[xv] ++ captured = (first.toList ++ [xv] ++ captured.toList).toArray := by apply Array.ext'; simp
  rw [e]
  have sD : Sat (blk w.heap.size (.deferred (some [])) :: F :: own) (w.alloc (.deferred (some []))) := sat_alloc hs _ (fun _ => rfl)
  have sL : Sat (blk L (.loop rc) :: blk w.heap.size (.deferred (some [])) :: F :: own) w1 := by
    have := sat_alloc sD (.loop rc) (fun _ => rfl)
    rw [World.size_alloc] at this; exact this
  have sA : Sat ((blk L (.loop rc) :: rest) ++ (hsI ++ [blk w.heap.size (.deferred (some [])), F])) w1 := by
    refine sL.perm ((?_ : List.Perm _ _).cons _)
    refine ((t.perm.cons F).cons _).trans ?_
    have p1 : (blk w.heap.size (.deferred (some [])) :: F :: (hsI ++ rest)).Perm ((hsI ++ rest) ++ [blk w.heap.size (.deferred (some [])), F]) := List.perm_append_comm (l₁ := [blk w.heap.size (.deferred (some [])), F]) (l₂ := hsI ++ rest)
    refine p1.trans ?_
    have p2 : (hsI ++ rest).Perm (rest ++ hsI) := List.perm_append_comm
    simpa [List.append_assoc] using p2.append_right [blk w.heap.size (.deferred (some [])), F]
  let lr : Loop → Heap := fun r => blk L (.loop r)
  let JJ : Nat → Heap → Prop := fun k H => ∃ own1, (lr rc :: own1).Pairwise Disj ∧ H = joins (lr rc :: own1) ∧ J k own1
  let JD : Heap → Prop := fun H => ∃ own1, (lr rc :: own1).Pairwise Disj ∧ H = joins (lr rc :: own1) ∧ Jd own1
  let JX : Heap → Prop := fun H => ∃ c own1, (lr { rc with state := .done, pending := some c } :: own1).Pairwise Disj ∧ H = joins (lr { rc with state := .done, pending := some c } :: own1) ∧ Jx c own1
  have hpn : ∀ p ∈ ps.toList, p < n := fun p hp => Nat.le_of_ble_eq_true (List.all_eq_true.1 hps p hp)
  have hT := hI L JJ JD JX (fun k H hJ => by
    obtain ⟨own1, hdj, rfl, hJ⟩ := hJ
    rcases hround L k own1 hJ (List.pairwise_cons.1 hdj).2 with ⟨x, h1, h2, h3⟩ | ⟨h1, h2⟩
    · refine .inl ⟨x, hmono _ _ _ _ (hle_tail hdj) h1, ?_⟩
      exact yt_round (rc := rc) (has_tmps ha) hpn h2 rfl hdj fun F => by
        obtain ⟨env1, e, h⟩ := h3 F
        rw [bindO_eq e] at h; exact h
    · exact .inr ⟨hmono _ _ _ _ (hle_tail hdj) h1, own1, hdj, rfl, h2⟩) _ ⟨rest, (sA.sub (List.sublist_append_left _ _)).dj, rfl, h0⟩
  refine (hT w1 [blk w.heap.size (.deferred (some [])), F] (by simpa using sA.joins)).mono ?_
  rintro e w3 ⟨own', s3, rfl, H', rfl, hJ⟩
  have done : ∀ (r3 : Loop) own1, (lr r3 :: own1).Pairwise Disj → H' = joins (lr r3 :: own1) → r3.state ≠ .busy →
      ∃ w4, (Instr.endLoop L).run P w3 = .ok r3.pending w4 ∧ Sat (F :: (blk w.heap.size (.deferred (some [])) :: (own1 ++ hsI))) w4 := by
    rintro r3 own1 hdj rfl hst
    have s4 : Sat (lr r3 :: (own1 ++ (hsI ++ [blk w.heap.size (.deferred (some [])), F]))) w3 := by
      have : Sat (joins (lr r3 :: own1) :: (hsI ++ [blk w.heap.size (.deferred (some [])), F])) w3 := by simpa using s3
      simpa using this.unjoins hdj
    have hL3 : w3.heap[L]? = some (.loop r3) := s4.at (List.mem_cons_self ..) (blk_self _ _)
    refine ⟨_, run_endLoop hL3 hst, ?_⟩
    have s5 := (sat_put (o' := .loop { r3 with state := .exhausted }) s4 (fun _ => rfl)).tail
    refine s5.perm ?_
    have p1 : ((own1 ++ hsI) ++ [blk w.heap.size (.deferred (some [])), F]).Perm ([F, blk w.heap.size (.deferred (some []))] ++ (own1 ++ hsI)) :=
      List.perm_append_comm.trans ((List.Perm.swap F _ []).append_right _)
    simpa [List.append_assoc] using p1
  rcases hJ with ⟨own1, hdj, hH, hJ⟩ | ⟨c, own1, hdj, hH, hJ⟩
  · obtain ⟨w4, h1, h2⟩ := done rc own1 hdj hH (by simp [rc])
    refine ⟨none, w4, h1, ?_⟩
    exact Lift.mk (ds := SL.mark w.heap.size :: ds) (by simp) (has_tmps ha) (by simp [hd]) h2 (hdone _ _ hJ)
  · obtain ⟨w4, h1, h2⟩ := done _ own1 hdj hH (by simp)
    refine ⟨some c, w4, h1, ?_⟩
    exact hstop _ _ _ hJ _ w4 (has_tmps ha) (by simp [hd]) h2
end
theorem T_joinP {P : Program} {f : FuncId} {args : List Value} {own : List Heap} {R : Ending → List Heap → List Heap → Prop}
    (h : T P f args own fun e o => ∃ A N, o.Perm (N ++ A) ∧ R e A N) : T P f args own fun e o => ∃ A N K, o = K :: A ∧ (∀ k ∈ N, hle k K) ∧ R e A N := by
  intro w X s
  refine (h w X s).mono ?_
  rintro e w' ⟨o, s2, A, N, hp, hR⟩
  have s3 : Sat (N ++ (A ++ X)) w' := s2.perm (by simpa using hp.append_right X)
  have d : N.Pairwise Disj := (List.pairwise_append.1 s3.dj).1
  exact ⟨joins N :: A, by simpa using s3.joins, A, N, joins N, rfl, fun k hk => hle_joins d hk, hR⟩
theorem SlIn.allK {own : List Heap} {base : Option Addr} {cs : List Value} (s : SlIn own base cs) {K : Heap} (h : ∀ k ∈ own, hle k K) : Sl K base cs := by
  obtain ⟨k, hk, e⟩ := s.mem; exact e.mono (h k hk)
end Go.SL
end
section
/- What the library's contracts own at their end, as heaps. -/
namespace Go.SL
theorem hle_below {w w' : World} (h : Go.RowKit.Below w.heap.size w w') : hle (wh w) (wh w') := by
  intro x o hx
  cases x with
  | b n =>
    simp only [wh, Option.map_eq_some_iff] at hx ⊢
    obtain ⟨y, h1, h2⟩ := hx
    have hlt : n < w.heap.size := (Array.getElem?_eq_some_iff.1 h1).1
    exact ⟨y, by rw [h.block n hlt]; exact h1, h2⟩
  | os => simp only [wh, h.os, h.output] at hx ⊢; exact hx
  | fz n =>
    simp only [wh] at hx ⊢
    split at hx
    · rename_i hlt
      rw [if_pos (by have := h.size; omega), ← hx]
      congr 2
      funext off
      simp only [World.frozen?, h.block n hlt]
    · cases hx
theorem owns_row {hs : List Heap} {w w' : World} {v : Value} {n : Nat} {xs : List Value} {e : TypeId} (s : Sat hs w) (bl : Go.RowKit.Below w.heap.size w w') (o : w'.ownsRow w.heap.size e 1 v n xs) :
    ∃ h b c, v = .slice b n c ∧ OS h b n c e 1 xs ∧ Sat (h :: hs) w' := by
  have s' := s.world (hle_below bl)
  obtain ⟨h1, ⟨rfl, rfl⟩ | ⟨g, cap, cur, rfl, hb, hg, hc, hm, hz, ht⟩⟩ := o
  · have : xs = [] := List.length_eq_zero_iff.1 (by simpa using h1)
    subst this
    exact ⟨emp, none, 0, rfl, OS.nil, ⟨fun h hh => by
      rcases List.mem_cons.1 hh with rfl | hh
      · intro b o e; cases e
      · exact s'.le h hh, List.pairwise_cons.2 ⟨fun _ _ _ _ _ e _ => (by cases e), s'.dj⟩⟩⟩
  · refine ⟨blk g (.cells cur e (0, 0)), some ⟨g, 0, none⟩, cap, rfl, ⟨h1, hc, .inr ⟨g, 0, cur, rfl, rfl, by simpa using (Nat.le_of_eq hz.symm), fun k v hk => ?_⟩⟩, ?_⟩
    · rw [← ht] at hk
      have hl := (List.getElem?_eq_some_iff.1 hk).1
      rw [List.getElem?_take_of_lt (by rw [List.length_take] at hl; omega)] at hk
      simpa using hk
    · refine ⟨fun h hh => ?_, List.pairwise_cons.2 ⟨fun k hk x o1 o2 h1 h2 => ?_, s'.dj⟩⟩
      · rcases List.mem_cons.1 hh with rfl | hh
        · rw [hle_blk]; exact wh_b.2 hg
        · exact s'.le h hh
      · obtain ⟨rfl, -⟩ := blk_eq h1
        have := s.le k hk _ o2 h2
        simp only [wh] at this
        rw [Array.getElem?_eq_none hb] at this; cases this
end Go.SL
end
section
/- Slices that are made in a region that draws its order. -/
namespace Go.SL
theorem new_makeSlice {P : Program} {n : Nat} {env : Env} {o : Oper} {t e : TypeId} {bytes m : Nat} {x y : Operand} {zv : Value} {de : TypeDesc} {ti : TypeInfo} [g : TyG P t e 1 bytes] [z : Ty P e de zv ti]
    (ho : o.op = .makeSlice t x y) (hx : ev env x = some (.int .i64 (m : Int))) (hy : ev env y = some (.int .i64 (m : Int)))
    (hz : cellsO zv = some [zv]) (hroom : m * bytes ≤ 70368744177664) (hm : m ≤ 70368744177664) :
    NewOp P n o env (fun b => .slice (some ⟨b, 0, none⟩) m m) (.cells ⟨List.replicate m zv⟩ e (0, 0)) := by
  refine ⟨by rw [ho]; rfl, fun _ => by simp [fzo], fun A w hA => ?_⟩
  obtain ⟨i, z', g1, g2, g3, g4, g5, g6⟩ := g.all
  subst g6
  have wl : IntKind.i64.wrap (m : Int) = m := wrap64_id (by omega) (by omega)
  have hb : ¬ (281474976710656 < (i.bytes : Int) * m) := by
    have : (i.bytes : Int) * m = ((m * i.bytes : Nat) : Int) := by rw [Int.natCast_mul, Int.mul_comm]
    omega
  have hn' : ¬ ((m : Int) < 0) := by omega
  have hroom' : ∀ w : World, (askRoom (m * i.bytes)).run P w = .ok () w := fun w => by unfold askRoom; split <;> simp
  have hzc : zv.cells = #[zv] := cellsO_eq hz
  have hzz : ((Array.range m).map fun x => zv.cells[x % zv.cells.size]!) = ⟨List.replicate m zv⟩ := by
    rw [hzc]
    apply Array.ext'
    apply List.ext_getElem?
    intro j
    by_cases hj : j < m
    · simp [hj, Nat.mod_one]
    · simp [hj]
  have hzn : ∀ w, (zeroValue e).run P w = .ok zv w := fun w => z.z w
  by_cases h0 : m = 0
  · subst h0
    simp [execOp, ho, hA.eval hx, hA.eval hy, Instr.makeSlice, run_und g1, asInt, asIntOf, run_info g2, run_size g2, g5, newRow, askRoom, IntKind.wrap, IntKind.bits, IntKind.signed, show (Array.range 0).map (fun (_ : Nat) => (default : Value)) = ⟨[]⟩ by simp]
  · simp [execOp, ho, hA.eval hx, hA.eval hy, Instr.makeSlice, run_und g1, asInt, asIntOf, run_info g2, wl, hb, hn', hroom', run_size g2, g5, h0, newRow, hzn, hzz]
end Go.SL
end
section
/- Where a walk stops; a slice of one's own without its last one. -/
namespace Go.SL
section
variable {P : Program} {r : Option Nat} {F : Heap} {n : Nat} {Q : SPost} {env : Env} {own : List Heap} {ds : List Deferred}
theorem stop_at (k : Nat) {l : Array Oper} {d : Bool} {c1 c2 : Code} (h : SWP P r F n (((Code.region k l d).seq c1).seq c2) Q env own ds) : SWP P r F n (((Code.region k l d).seq c1).seq c2) Q env own ds := h
theorem OS.init {h : Heap} {base : Option Addr} {m c sz : Nat} {T : TypeId} {cs ds : List Value} (os : OS h base (m + 1) c T sz (cs ++ ds)) (hl : cs.length = m * sz) : OS h base m c T sz cs := by
  refine ⟨hl, Nat.le_of_succ_le os.hle, ?_⟩
  rcases os.shape with ⟨-, h2, -, -⟩ | ⟨b, off, arr, h1, h2, h3, h4⟩
  · omega
  · exact .inr ⟨b, off, arr, h1, h2, h3, fun k v hk => h4 k v (by rw [List.getElem?_append_left (List.getElem?_eq_some_iff.1 hk).1]; exact hk)⟩
end
end Go.SL
end
section
/- Appending to a slice that is only read and is full; four cells loaded; heaps that lie apart. -/
namespace Go.SL
section
variable {P : Program} {own : List Heap} {n : Nat} {env : Env} {o : Oper}
theorem opv_load4 {t : TypeId} {x : Operand} {k : Nat} {base : Option Addr} {cs : List Value} {v u z y : Value} [ty : TyA P t 4] (ho : o.op = .load t x) (hx : ev env x = some (ept base k)) (m : SlIn own base cs) (hv : cs[k]? = some v) (hu : cs[k + 1]? = some u) (hz : cs[k + 2]? = some z) (hy : cs[k + 3]? = some y) : OpV P own n o env (.agg ⟨[v, u, z, y]⟩) :=
  opv_loadEA (vs := [v, u, z, y]) ho hx (Nat.succ_pos 3) rfl fun j w hj => by
    match j, hj with
    | 0, hj => simp at hj; subst hj; exact hv
    | 1, hj => simp at hj; subst hj; exact hu
    | 2, hj => simp at hj; subst hj; exact hz
    | 3, hj => simp at hj; subst hj; exact hy
theorem run_growK {t ty e : TypeId} {i : TypeInfo} {z : Value} {K : Heap} {base yb : Option Addr} {len m mc : Nat} {cs news : List Value} {X : List Heap} {w : World}
    (g1 : P.underlying t = some (.slice e)) (g2 : P.info? e = some i) (g3 : i.zero = some z) (g4 : z.cells.size = i.size) (hs : Sat ([K] ++ X) w) (sb : Sl K base cs) (mm : Sl K yb news)
    (hcl : cs.length = len * i.size) (hnl : news.length = m * i.size) (hpos : 0 < i.size) (hroom : (len + m) * i.bytes ≤ 35184372088832) (hlen : len + m ≤ 35184372088832) :
    ∃ h' base' cap' w', (Builtin.append_ #[t, t] ty #[.slice base len len, .slice yb m mc]).run P w = .ok (.slice base' (len + m) cap') w' ∧ SlIn [h', K] base' (cs ++ news) ∧ Sat (h' :: ([K] ++ X)) w' := by
  have hbase : ∀ (b : Option Addr) (l : List Value) (k : Nat), Sl K b l → l.length = k * i.size → 0 < k → ∃ bb off, b = some ⟨bb, off, none⟩ ∧ ∀ j v, l[j]? = some v → w.cell? ((⟨bb, off, none⟩ : Addr).add j) = some v := by
    intro b l k sl hl hk
    have hp : 0 < l.length := by rw [hl]; exact Nat.mul_pos hk hpos
    have mi : SlIn [K] b l := ⟨K, by simp, sl⟩
    obtain ⟨a, e1, e2, -⟩ := mi.cell hs (List.getElem?_eq_getElem hp)
    obtain ⟨bb, off, sp⟩ := a
    simp only at e2
    subst e2
    refine ⟨bb, off, e1, fun j v hj => ?_⟩
    obtain ⟨a', e3, e4, e5⟩ := mi.cell hs hj
    rw [e1] at e3; cases e3
    rw [addr_add]; exact e5
  have fin : ∀ (news' : List Value) (A z0 : Array Value), A = news'.toArray → SlIn [blk w.heap.size (.cells (A ++ z0) e (0, 0)), K] (some ⟨w.heap.size, 0, none⟩) news' := fun news' A z0 hA =>
    ⟨_, List.mem_cons_self .., ⟨fun k v hk => ⟨_, _, _, _, rfl, rfl, blk_self _ _, by
      subst hA
      have hlt : k < news'.length := (List.getElem?_eq_some_iff.1 hk).1
      rw [Nat.zero_add, Array.getElem?_append_left (by simpa using hlt)]
      rw [← hk]; simp⟩⟩⟩
  have sat : ∀ (ob : Array Value), Sat (blk w.heap.size (.cells ob e (0, 0)) :: ([K] ++ X)) { w.drew with heap := w.heap.push (.cells ob e (0, 0)) } := fun ob => sat_alloc (w := w.drew) (hs.heap rfl rfl rfl) _ (fun _ => by simp [fzo])
  rcases Nat.eq_zero_or_pos m with hm | hm
  · subst hm
    have hn0 : news = [] := List.length_eq_zero_iff.1 (by omega)
    subst hn0
    refine ⟨emp, base, len, w, run_append_zero w g1 g2 (Nat.le_refl len), ⟨K, by simp, by rw [List.append_nil]; exact sb⟩, ?_⟩
    exact ⟨fun h hh => by
        rcases List.mem_cons.1 hh with rfl | hh
        · intro b o e; cases e
        · exact hs.le h hh, List.pairwise_cons.2 ⟨fun _ _ _ _ _ e _ => (by cases e), hs.dj⟩⟩
  · obtain ⟨b2, off2, rfl, hnew⟩ := hbase yb news m mm hnl hm
    rcases Nat.eq_zero_or_pos len with hl0 | hl0
    · subst hl0
      have hc0 : cs = [] := List.length_eq_zero_iff.1 (by omega)
      subst hc0
      rcases base with _ | ⟨bb, off, sp⟩
      · have hrun := run_append_nil (P := P) w t ty e i z g1 g2 g3 ⟨b2, off2, none⟩ m mc news hnl hnew hm (by omega) (by rw [Nat.zero_add] at hroom; omega)
        rw [Nat.zero_add]
        exact ⟨_, _, _, _, hrun, fin news _ _ rfl, sat _⟩
      · have hnc := nextslicecap_le (need := 0 + m) (old := 0) (by omega)
        have hrun := run_append_grow (P := P) w t ty e i z g1 g2 g3 ⟨bb, off, sp⟩ 0 0 [] (by simp) (fun j v hj => by simp at hj) ⟨b2, off2, none⟩ m mc news hnl hnew (by omega) (by omega) (by
          have : Builtin.nextslicecap (0 + m) 0 * i.bytes ≤ 2 * (0 + m) * i.bytes := Nat.mul_le_mul_right _ hnc
          rw [Nat.mul_assoc] at this
          omega)
        exact ⟨_, _, _, _, hrun, fin ([] ++ news) _ _ (by simp), sat _⟩
    · obtain ⟨bb, off, rfl, hold⟩ := hbase base cs len sb hcl hl0
      have hnc := nextslicecap_le (need := len + m) (old := len) (by omega)
      have hrun := run_append_grow (P := P) w t ty e i z g1 g2 g3 ⟨bb, off, none⟩ len len cs hcl hold ⟨b2, off2, none⟩ m mc news hnl hnew (by omega) (by omega) (by
        have : Builtin.nextslicecap (len + m) len * i.bytes ≤ 2 * (len + m) * i.bytes := Nat.mul_le_mul_right _ hnc
        rw [Nat.mul_assoc] at this
        omega)
      exact ⟨_, _, _, _, hrun, fin (cs ++ news) _ _ (by simp), sat _⟩
theorem hop_appendK {t e : TypeId} {sz bytes : Nat} {c : Call} {x y : Operand} {K : Heap} {base yb : Option Addr} {len m mc : Nat} {cs news : List Value} [g : TyG P t e sz bytes]
    (ho : o.op = .call c) (hc : c.callee = .builtin .append) (hax : c.args = #[x, y]) (hat : c.argTypes = #[t, t])
    (hx : ev env x = some (.slice base len len)) (hy : ev env y = some (.slice yb m mc)) (sb : Sl K base cs) (mm : Sl K yb news)
    (hcl : cs.length = len * sz) (hnl : news.length = m * sz) (hpos : 0 < sz) (hroom : (len + m) * bytes ≤ 35184372088832) (hlen : len + m ≤ 35184372088832) :
    HOp P [K] n o env fun v own' => ∃ h' base' cap', v = .slice base' (len + m) cap' ∧ own' = [h', K] ∧ SlIn [h', K] base' (cs ++ news) := by
  refine ⟨by rw [ho]; rfl, fun A w X hA hs => ?_⟩
  obtain ⟨i, z, g1, g2, g3, g4, g5, g6⟩ := g.all
  subst g5; subst g6
  obtain ⟨h', base', cap', w', hrun, hsl, s3⟩ := run_growK (P := P) (ty := o.type) (mc := mc) g1 g2 g3 g4 hs sb mm hcl hnl hpos hroom hlen
  refine ⟨w', .inl ⟨.slice base' (len + m) cap', [h', K], ?_, by simpa using s3, h', base', cap', rfl, rfl, hsl⟩⟩
  simp [execOp, ho, resolve, hc, hax, hat, invoke, builtin, hA.eval hx, hA.eval hy, hrun]
end
section
variable {P : Program} {r : Option Nat} {F : Heap} {n : Nat} {Q : SPost} {env : Env} {own rest hs prot : List Heap} {ds : List Deferred} {all : Array Oper} {l : List Oper} {o : Oper} {s : List Sg} {an : An}
theorem chu_appendK {cb : Bool} {m : Nat} {t e : TypeId} {sz bytes : Nat} {cl : Call} {x y : Operand} {K : Heap} {base yb : Option Addr} {len mm mc d : Nat} {cs news : List Value} [g : TyG P t e sz bytes]
    (hi : all[m]? = some o) (hd : o.dst = some d) (hg : wantedE all env o = some true)
    (ho : o.op = .call cl) (hc : cl.callee = .builtin .append) (hax : cl.args = #[x, y]) (hat : cl.argTypes = #[t, t])
    (hx : ev env x = some (.slice base len len)) (hy : ev env y = some (.slice yb mm mc)) (sb : Sl K base cs) (sa : Sl K yb news) [tk : TakeL own [K] rest] {rest2 : List Heap} [tp : TakeL rest prot rest2]
    (hcl : cs.length = len * sz) (hnl : news.length = mm * sz) (hpos : 0 < sz) (hroom : (len + mm) * bytes ≤ 35184372088832) (hlen : len + mm ≤ 35184372088832)
    (h : ∀ h' base' cap', SlIn [h', K] base' (cs ++ news) → ChU P r F n all prot Q ds s ((d, .slice base' (len + mm) cap') :: env) (h' :: K :: rest) an) : ChU P r F n all prot Q ds (.h cb m :: s) env own an :=
  chu_h hi hd hg (hop_appendK ho hc hax hat hx hy sb sa hcl hnl hpos hroom hlen) (fun _ v own' hR => by
    obtain ⟨h', b', c', rfl, rfl, os'⟩ := hR
    exact ⟨[h'], List.Perm.swap _ _ _⟩) (fun _ => .inl ⟨rest2, tp.perm⟩) fun v own' hR => by
    obtain ⟨h', b', c', rfl, rfl, os'⟩ := hR; exact ⟨_, rfl, h h' b' c' os'⟩
theorem sl_appendK {d : Nat} {t e : TypeId} {sz bytes : Nat} {cl : Call} {x y : Operand} {K : Heap} {base yb : Option Addr} {len mm mc : Nat} {cs news : List Value} [g : TyG P t e sz bytes]
    (hd : o.dst = some d) (hn : Nat.blt d n = true) (hg : wantedE all env o = some true)
    (ho : o.op = .call cl) (hc : cl.callee = .builtin .append) (hax : cl.args = #[x, y]) (hat : cl.argTypes = #[t, t])
    (hx : ev env x = some (.slice base len len)) (hy : ev env y = some (.slice yb mm mc)) (sb : Sl K base cs) (sa : Sl K yb news) [tk : TakeL own [K] rest]
    (hcl : cs.length = len * sz) (hnl : news.length = mm * sz) (hpos : 0 < sz) (hroom : (len + mm) * bytes ≤ 35184372088832) (hlen : len + mm ≤ 35184372088832)
    (next : ∀ h' base' cap', SlIn [h', K] base' (cs ++ news) → SOL false P r F n all l Q ((d, .slice base' (len + mm) cap') :: env) (h' :: K :: rest) ds) : SOL false P r F n all (o :: l) Q env own ds :=
  sl_hop hd hn hg (hop_appendK ho hc hax hat hx hy sb sa hcl hnl hpos hroom hlen) fun v own' hR => by
    obtain ⟨h', b', c', rfl, rfl, os'⟩ := hR; exact ⟨_, rfl, next h' b' c' os'⟩
/-- What one has lies apart. -/
theorem swp_dj {c : Code} (h : own.Pairwise Disj → SWP P r F n c Q env own ds) : SWP P r F n c Q env own ds := fun a w ha hd s => h s.tail.dj a w ha hd s
/-- A loop over a state; heaps may become one at a round's end. -/
theorem swp_loopD {S : Type} (E : S → Env) (O : S → List Heap) (I : S → Prop) (μ : S → Nat) {c : Code} (s0 : S) [t : TakeL own (O s0) rest]
    (he : Sub (E s0) env) (hI : I s0)
    (round : ∀ s, I s → SWP P r F n c (Thn (fun env' own' ds' => own'.Pairwise Disj → ds' = ds ∧ ∃ s', (Sub (E s') env' ∧ ∀ w, Sat (F :: own') w → Sat (F :: O s') w) ∧ I s' ∧ μ s' < μ s) Q) (E s) (O s) ds) :
    SWP P r F n (.loop c) Q env own ds := by
  refine swp_loopS E O I μ s0 he hI fun s hs => ?_
  have h := round s hs
  intro a w ha hd hs'
  refine wpIn_mono (h a w ha hd hs') fun e a' w' ⟨he, env', own', h1, h2, h3⟩ => ⟨he, env', own', h1, h2, ?_⟩
  cases e with
  | normal => exact h3 h2.tail.dj
  | _ => exact h3
theorem disj_of {own : List Heap} {h k : Heap} {rest : List Heap} (d : own.Pairwise Disj) [t : TakeL own [h, k] rest] : Disj h k := by
  have := (t.perm.pairwise_iff (fun d => Disj.symm d)).1 d
  exact (List.pairwise_cons.1 this).1 k (by simp)
/-- Two of the heaps become one. -/
theorem next_join {E : Env} {O : List Heap} {h k : Heap} [t : TakeL own (h :: k :: O) rest] (hs : Sub E env) : Sub E env ∧ ∀ w, Sat (F :: own) w → Sat (F :: join h k :: O) w :=
  ⟨hs, fun w s => by
    have s2 : Sat ([h, k] ++ (F :: O)) w := ((s.perm (t.perm.cons F)).sub (hs' := F :: h :: k :: O) (List.Sublist.cons_cons F (List.sublist_append_left (h :: k :: O) rest))).perm (by
      refine (List.Perm.swap _ _ _).trans ((List.Perm.swap _ _ _).cons h))
    have s3 := s2.joins
    have e : joins [h, k] = join h k := by
      funext x
      simp only [joins, join, emp]
      split <;> rename_i q
      · rfl
      · cases k x <;> rfl
    rw [e] at s3
    exact s3.swap⟩
end
/-- What is new, apart. -/
def diff (K' K : Heap) : Heap := fun x => match K x with | some _ => none | none => K' x
theorem sat_diff {K K' : Heap} {X : List Heap} {w : World} (h : hle K K') (s : Sat (K' :: X) w) : Sat (K :: diff K' K :: X) w := by
  obtain ⟨d1, d2⟩ := List.pairwise_cons.1 s.dj
  have hd : hle (diff K' K) K' := fun b o e => by
    unfold diff at e; split at e
    · cases e
    · exact e
  have hK' : hle K' (wh w) := s.le K' (List.mem_cons_self ..)
  refine ⟨fun k hk => ?_, List.pairwise_cons.2 ⟨fun k hk => ?_, List.pairwise_cons.2 ⟨fun k hk b o o' x y => d1 k hk b o o' (hd b o x) y, d2⟩⟩⟩
  · rcases List.mem_cons.1 hk with rfl | hk
    · exact h.trans hK'
    · rcases List.mem_cons.1 hk with rfl | hk
      · exact hd.trans hK'
      · exact s.le k (List.mem_cons_of_mem _ hk)
  · rcases List.mem_cons.1 hk with rfl | hk
    · intro b o o' x y
      simp only [diff, x] at y; cases y
    · exact fun b o o' x y => d1 k hk b o o' (h b o x) y
theorem hle_diff {K K' K2 : Heap} (h1 : hle K K2) (h2 : hle (diff K' K) K2) (h : hle K K') : hle K' K2 := fun b o e => by
  cases hk : K b with
  | some o' =>
    have := h b o' hk
    rw [e] at this; cases this
    exact h1 b _ hk
  | none => exact h2 b o (by simp only [diff, hk]; exact e)
theorem T_diff {P : Program} {f : FuncId} {args : List Value} {K : Heap} {R : Ending → Heap → List Heap → Prop}
    (h : T P f args [K] fun e o => ∃ K' rest, o = K' :: rest ∧ hle K K' ∧ R e K' rest) : T P f args [K] fun e o => ∃ Kn rest K', o = K :: Kn :: rest ∧ (∀ K2, hle K K2 → hle Kn K2 → hle K' K2) ∧ R e K' rest := by
  intro w X s
  refine (h w X s).mono ?_
  rintro e w' ⟨o, s2, K', rest, rfl, hK, hR⟩
  exact ⟨K :: diff K' K :: rest, by simpa using sat_diff hK s2, diff K' K, rest, K', rfl, fun K2 h1 h2 => hle_diff h1 h2 hK, hR⟩
/-- A contract over a heap is one over a greater one. -/
theorem T_more {P : Program} {f : FuncId} {args : List Value} {K K2 : Heap} {Q : Ending → Heap → Prop} (hq : ∀ e A B, hle A B → Q e A → Q e B)
    (h : T P f args [K] fun e o => ∃ K', o = [K'] ∧ hle K K' ∧ Q e K') (hk : hle K K2) : T P f args [K2] fun e o => ∃ K', o = [K'] ∧ hle K2 K' ∧ Q e K' := by
  intro w X s
  have s1 : Sat ([K] ++ (diff K2 K :: X)) w := by simpa using sat_diff hk (by simpa using s)
  refine (h w (diff K2 K :: X) s1).mono ?_
  rintro e w' ⟨o, s2, K', rfl, hK, hQ⟩
  have s3 : Sat ([K', diff K2 K] ++ X) w' := by simpa using s2
  have dj : Disj K' (diff K2 K) := (List.pairwise_cons.1 s3.dj).1 _ (by simp)
  have l1 : hle K' (joins [K', diff K2 K]) := hle_joins (List.pairwise_append.1 s3.dj).1 (by simp)
  have l2 : hle (diff K2 K) (joins [K', diff K2 K]) := hle_joins (List.pairwise_append.1 s3.dj).1 (by simp)
  refine ⟨[joins [K', diff K2 K]], by simpa using s3.joins, _, rfl, fun b o e => ?_, hq _ _ _ l1 hQ⟩
  cases hb : K b with
  | some o' =>
    have := hk b o' hb
    rw [e] at this; cases this
    exact l1 b _ (hK b _ hb)
  | none => exact l2 b o (by simp only [diff, hb]; exact e)
section
variable {own rest : List Heap} {F : Heap} {env : Env}
/-- Three of the heaps become one. -/
theorem next_join3 {E : Env} {O : List Heap} {h g k : Heap} [t : TakeL own (h :: g :: k :: O) rest] (hs : Sub E env) : Sub E env ∧ ∀ w, Sat (F :: own) w → Sat (F :: join h (join g k) :: O) w :=
  ⟨hs, fun w s => by
    have s2 : Sat ([h, g, k] ++ (F :: O)) w := ((s.perm (t.perm.cons F)).sub (hs' := F :: h :: g :: k :: O) (List.Sublist.cons_cons F (List.sublist_append_left (h :: g :: k :: O) rest))).perm (by
      exact (List.perm_append_comm (l₁ := [F]) (l₂ := [h, g, k])).append_right O)
    have s3 := s2.joins
    have e : joins [h, g, k] = join h (join g k) := by
      funext x
      simp only [joins, join, emp]
      split <;> rename_i q
      · rfl
      · split <;> rename_i q2
        · rfl
        · cases k x <;> rfl
    rw [e] at s3
    exact s3.swap⟩
theorem disj3 {h g k : Heap} (d : own.Pairwise Disj) [t : TakeL own [h, g, k] rest] : Disj h g ∧ Disj h k ∧ Disj g k := by
  have d2 := (t.perm.pairwise_iff (fun d => Disj.symm d)).1 d
  obtain ⟨d3, d4⟩ := List.pairwise_cons.1 d2
  exact ⟨d3 g (by simp), d3 k (by simp), (List.pairwise_cons.1 d4).1 k (by simp)⟩
end
end Go.SL
end
section
/- Ways that meet behind a block. -/
namespace Go.SL
section
variable {P : Program} {r : Option Nat} {F : Heap} {n : Nat} {env : Env} {own rest : List Heap} {ds : List Deferred}
theorem swp_joinB {S : Type} (E : S → Env) (O : S → List Heap) (I : S → Prop) {id : Nat} {c y : Code} {Q2 Q3 : SPost}
    (h1 : SWP P r F n c (InB id (Thn (fun env' own' ds' => ds' = ds ∧ ∃ s, (Sub (E s) env' ∧ ∀ w, Sat (F :: own') w → Sat (F :: O s) w) ∧ I s) Q3)) env own ds) (h2 : ∀ s, I s → SWP P r F n y Q2 (E s) (O s) ds) :
    SWP P r F n c (InB id (Thn (SWP P r F n y Q2) Q3)) env own ds := by
  refine h1.mono fun e env' own' ds' h => ?_
  have key : ∀ e, (Thn (fun env' own' ds' => ds' = ds ∧ ∃ s, (Sub (E s) env' ∧ ∀ w, Sat (F :: own') w → Sat (F :: O s) w) ∧ I s) Q3) e env' own' ds' → Thn (SWP P r F n y Q2) Q3 e env' own' ds' := fun e h => by
    cases e with
    | normal =>
      obtain ⟨rfl, s, ⟨g1, g2⟩, hI⟩ := h
      exact SWP.weaken g1 g2 (h2 s hI)
    | _ => exact h
  cases e with
  | exit i =>
    simp only [InB] at h ⊢
    split at h
    · rename_i e; rw [if_pos e]; exact key _ h
    · rename_i e; rw [if_neg e]; exact key _ h
  | normal => exact key .normal h
  | ret => exact key .ret h
  | panic ch => exact key (.panic ch) h
  | goto l => exact key (.goto l) h
  | outgrown => exact key .outgrown h
end
end Go.SL
end
