/- More operations: max, slices compared with nil, slices of slices, append of any slice. -/
import Derived.Test.YtnfepffmlhmmhaaSlU
namespace Go.SL
section
variable {P : Program} {own : List Heap} {n : Nat} {env : Env} {o : Oper}
theorem opv_max {c : Call} {x y : Operand} {k : IntKind} {a b : Int} (ho : o.op = .call c) (hc : c.callee = .builtin .max) (hax : c.args = #[x, y])
    (hx : ev env x = some (.int k a)) (hy : ev env y = some (.int k b)) : OpV P own n o env (.int k (max a b)) :=
  opv_run (by rw [ho]; rfl) fun d w ha => by
    have : (if a < b then b else a) = max a b := by rw [Int.max_def]; split <;> split <;> omega
    simp [execOp, ho, resolve, hc, hax, invoke, builtin, Builtin.max_, Builtin.max2, ha.eval hx, ha.eval hy, this]
theorem run_eq_nil {t e : TypeId} {base : Option Addr} {len cap : Nat} (hu : P.underlying t = some (.slice e)) (w : World) : (Op.equal t (.slice base len cap) (.slice none 0 0)).run P w = .ok base.isNone w := by
  have h : (Op.equalIn 10000 t (.slice base len cap) (.slice none 0 0)).run P w = .ok base.isNone w := by
    rw [show (10000 : Nat) = 9999 + 1 from rfl, Op.equalIn]
    cases base <;> simp [run_und hu]
  exact h
theorem opv_isNil {t e u : TypeId} {x : Operand} {z : Value} {i : TypeInfo} {base : Option Addr} {len cap : Nat} [h1 : Ty P t (.slice e) z i] (ho : o.op = .binOp .eql t x (.const (.slice none 0 0)) u) (hx : ev env x = some (.slice base len cap)) : OpV P own n o env (.bool base.isNone) :=
  opv_run (by rw [ho]; rfl) fun c w ha => by
    have hy : c.eval (.const (.slice none 0 0)) = .slice none 0 0 := rfl
    have hg : ∀ w, (eqGuard .eql t x (.const (.slice none 0 0)) (.slice base len cap) (.slice none 0 0)).run P w = .ok () w := fun w => by simp [eqGuard]
    simp only [execOp, ho, ha.eval hx, hy]
    simp [hg, binOp, run_eq_nil h1.u]
theorem opv_slice3 {t e : TypeId} {sz : Nat} {x y m : Operand} {base : Option Addr} {len cap : Nat} {k k2 : IntKind} {j i : Int} [h1 : TyE P t e sz] (ho : o.op = .slice t x none (some y) (some m)) (hx : ev env x = some (.slice base len cap)) (hy : ev env y = some (.int k j)) (hm : ev env m = some (.int k2 i))
    (h0 : 0 ≤ j) (hj : j ≤ i) (hi : i ≤ cap) : OpV P own n o env (.slice base j.toNat i.toNat) :=
  opv_run (by rw [ho]; rfl) fun a w ha => by
    have hs := sub_zero base i.toNat sz
    unfold sub at hs
    simp only [Nat.zero_mul] at hs
    have hj' : j ≤ (i.toNat : Int) := by omega
    simp [execOp, ho, ha.eval hx, ha.eval hy, ha.eval hm, Instr.sliceAt, Instr.slice, Instr.sliceBounds, run_und h1.u, h1.s, run_bound (by omega) hi, run_bound h0 hj']
    intro h; rw [if_neg (by omega)] at hs; exact hs
end
instance (priority := low) TakeL.refl {own : List Heap} : TakeL own own [] := ⟨by simp⟩
instance (priority := low) TakeL.refl1 {F : Heap} {own : List Heap} : TakeL (F :: own) own [F] := ⟨List.perm_append_comm (l₁ := [F]) (l₂ := own)⟩
theorem appH_nil : ∀ {l : List Heap}, appH l [] = some l
  | [] => rfl
  | _ :: l => by simp only [appH, appH_nil (l := l)]
theorem run_append_zero {P : Program} {t ty e : TypeId} {i : TypeInfo} {base yb : Option Addr} {len cap mc : Nat} (w : World)
    (ht : P.underlying t = some (.slice e)) (hi : P.info? e = some i) (hle : len ≤ cap) :
    (Builtin.append_ #[t, t] ty #[.slice base len cap, .slice yb 0 mc]).run P w = .ok (.slice base len cap) w := by
  have hf : (Builtin.firstCells i.size 0 (.slice yb 0 mc)).run P w = .ok #[] w := by
    cases yb with
    | none => simp [Builtin.firstCells]
    | some a =>
      have h0 : (loadCells a 0).run P w = .ok #[] w := run_loadCells_list (P := P) w a [] (fun j v hj => by cases hj)
      simp [Builtin.firstCells, h0]
  cases base with
  | none => simp [Builtin.append_, run_und ht, run_size hi, Builtin.lenOf, hle, hf]
  | some a => simp [Builtin.append_, run_und ht, run_size hi, Builtin.lenOf, hle, hf, storeCells]
section
variable {P : Program} {r : Option Nat} {F : Heap} {n : Nat} {Q : SPost} {env : Env} {own rest hs : List Heap} {ds : List Deferred} {all : Array Oper} {l : List Oper} {o : Oper}
/-- A slice of one's own grows by any other one. -/
theorem sl_appendG {t e : TypeId} {sz bytes : Nat} {c : Call} {x y : Operand} {h : Heap} {base yb : Option Addr} {len cap m mc : Nat} {cs news : List Value} {d : Nat} [g : TyG P t e sz bytes]
    (hd : o.dst = some d) (hn : Nat.blt d n = true) (hg : wantedE all env o = some true) (ho : o.op = .call c) (hc : c.callee = .builtin .append) (hax : c.args = #[x, y]) (hat : c.argTypes = #[t, t])
    (hx : ev env x = some (.slice base len cap)) (hy : ev env y = some (.slice yb m mc)) [mm : SlIn own yb news] (os : OS h base len cap e sz cs) [tk : TakeH own h rest]
    (hnl : news.length = m * sz) (hpos : 0 < sz) (h1 : news.all (·.oneCell') = true) (hroom : (len + m) * bytes ≤ 70368744177664) (hlen : len + m ≤ 70368744177664)
    (next : ∀ h' base' cap', OS h' base' (len + m) cap' e sz (cs ++ news) → (base = none → m = 0 → base' = none) → SOL false P r F n all l Q ((d, .slice base' (len + m) cap') :: env) (h' :: rest) ds) :
    SOL false P r F n all (o :: l) Q env own ds := by
  rcases Nat.eq_zero_or_pos m with hm | hm
  · subst hm
    have hn0 : news = [] := List.length_eq_zero_iff.1 (by omega)
    subst hn0
    refine sl_turn hd hn hg (by rw [ho]; rfl) fun A w hA hs => ?_
    obtain ⟨i, z, g1, g2, g3, g4, g5, g6⟩ := g.all
    have s1 : Sat (own ++ [F]) w := hs.perm (List.perm_append_comm (l₁ := [F]) (l₂ := own))
    have s2 : Sat (h :: (rest ++ [F])) w := s1.perm (tk.perm.append_right [F])
    refine ⟨_, w, h :: rest, ?_, s2.perm (List.perm_append_comm (l₁ := h :: rest) (l₂ := [F])), next h base cap (by simpa using os) (fun hb _ => hb)⟩
    simp [execOp, ho, resolve, hc, hax, hat, invoke, builtin, hA.eval hx, hA.eval hy, run_append_zero w g1 g2 os.hle]
  · cases yb with
    | none =>
      refine sl_turn hd hn hg (by rw [ho]; rfl) fun A w hA hs => ?_
      have hpos' : 0 < news.length := by rw [hnl]; exact Nat.mul_pos hm hpos
      have s1 : Sat (own ++ [F]) w := hs.perm (List.perm_append_comm (l₁ := [F]) (l₂ := own))
      obtain ⟨a', e1, -⟩ := mm.cell s1 (List.getElem?_eq_getElem hpos')
      cases e1
    | some a => exact sl_append hd hn hg ho hc hax hat hx hy os hm hnl hpos h1 hroom hlen fun h' b' c' os' => next h' b' c' os' (fun _ e => by omega)
/-- A call by a contract that speaks of all that one has. -/
theorem sl_callW {c : Call} {x : Operand} {f : FuncId} {first captured : Array Value} {vs vall : List Value} {R : Ending → List Heap → Prop} [Enters P f] {d : Nat}
    (hd : o.dst = some d) (hn : Nat.blt d n = true) (hg : wantedE all env o = some true)
    (ho : o.op = .call c) (hc : c.callee = .value x) (hx : ev env x = some (.func (.func f) first captured)) (hvs : evs env c.args.toList = some vs)
    (hall : appO first.toList vs captured.toList = some vall) (h : T P f vall own fun e o => ∃ N, o = own ++ N ∧ R e N)
    (hr : ∀ e N, R e N → ∃ v own2, e = .returned v ∧ appH own N = some own2 ∧ SOL false P r F n all l Q ((d, v) :: env) own2 ds) :
    SOL false P r F n all (o :: l) Q env own ds := by
  haveI : TakeL own own [] := ⟨by simp⟩
  refine sl_callT hd hn hg ho hc hx hvs hall h fun e own' hR => ?_
  obtain ⟨N, rfl, hR⟩ := hR
  obtain ⟨v, own2, h1, h2, h3⟩ := hr e N hR
  exact ⟨v, own2, h1, by rw [appH_nil, appH_eq h2], h3⟩
end
theorem disj_joins {k : Heap} : ∀ {own : List Heap}, (∀ l ∈ own, Disj k l) → Disj k (joins own)
  | [], _ => fun b o o' _ x => by cases x
  | q :: qs, d => disj_join_mk (d q (List.mem_cons_self ..)) (disj_joins fun l hl => d l (List.mem_cons_of_mem _ hl))
theorem hle_joins : ∀ {own : List Heap} {h : Heap}, own.Pairwise Disj → h ∈ own → hle h (joins own)
  | [], _, _, hm => by cases hm
  | k :: own, h, d, hm => by
    obtain ⟨d1, d2⟩ := List.pairwise_cons.1 d
    rcases List.mem_cons.1 hm with rfl | hm
    · exact join_left
    · have hd : Disj k (joins own) := disj_joins d1
      exact (hle_joins d2 hm).trans (join_right hd)
theorem Sl.mono {h k : Heap} {base : Option Addr} {cs : List Value} (s : Sl h base cs) (l : hle h k) : Sl k base cs :=
  ⟨fun j v hj => by obtain ⟨a, arr, T, fz, h1, h2, h3, h4⟩ := s.cell j v hj; exact ⟨a, arr, T, fz, h1, h2, l _ _ h3, h4⟩⟩
/-- All that one has, read as one heap. -/
theorem T_whole {P : Program} {f : FuncId} {args : List Value} {own : List Heap} {R : Ending → List Heap → Prop}
    (h : ∀ J, (∀ h ∈ own, hle h J) → T P f args [J] fun e o => ∃ N, o = J :: N ∧ R e N) : T P f args own fun e o => ∃ N, o = own ++ N ∧ R e N := by
  intro w X s
  have d : own.Pairwise Disj := (List.pairwise_append.1 s.dj).1
  refine (h (joins own) (fun k hk => hle_joins d hk) w X (by simpa using s.joins)).mono ?_
  rintro e w' ⟨o, s2, N, rfl, hR⟩
  refine ⟨own ++ N, ?_, N, rfl, hR⟩
  have := Sat.unjoins d (ks := N ++ X) (by simpa using s2)
  simpa using this
theorem P_whole {P : Program} {f : FuncId} {args : List Value} {own : List Heap} {v : Value} (h : ∀ J, (∀ h ∈ own, hle h J) → PFn P f args [J] v) : PFn P f args own v :=
  (T_whole (R := fun e N => e = .returned v ∧ N = []) fun J hJ => (h J hJ).mono fun e o ⟨h1, h2⟩ => ⟨[], by rw [h2], h1, rfl⟩).mono fun e o ⟨N, h1, h2, h3⟩ => ⟨h2, by rw [h1, h3, List.append_nil]⟩
theorem SlIn.all {own : List Heap} {base : Option Addr} {cs : List Value} (s : SlIn own base cs) {J : Heap} (h : ∀ h ∈ own, hle h J) : Sl J base cs := by
  obtain ⟨k, hk, e⟩ := s.mem; exact e.mono (h k hk)
/-- A new row, as a slice. -/
theorem OS.blk {b len sz : Nat} {T : TypeId} {cs : List Value} (h : cs.length = len * sz) : OS (SL.blk b (.cells ⟨cs⟩ T (0, 0))) (some ⟨b, 0, none⟩) len len T sz cs :=
  ⟨h, Nat.le_refl _, .inr ⟨b, 0, ⟨cs⟩, rfl, rfl, by simp [h], fun k v hk => by simpa using hk⟩⟩
section
variable {P : Program} {r : Option Nat} {F : Heap} {n : Nat} {Q : SPost} {env : Env} {own prot rest : List Heap} {ds : List Deferred} {all : Array Oper} {o : Oper} {an : An} {s : List Sg}
theorem chu_callW {m d : Nat} {cl : Call} {x : Operand} {f : FuncId} {first captured : Array Value} {vs vall : List Value} {R : Ending → List Heap → Prop} [Enters P f]
    (hi : all[m]? = some o) (hd : o.dst = some d) (hg : wantedE all env o = some true)
    (ho : o.op = .call cl) (hc : cl.callee = .value x) (hx : ev env x = some (.func (.func f) first captured)) (hvs : evs env cl.args.toList = some vs)
    (hall : appO first.toList vs captured.toList = some vall) (hp : T P f vall own fun e o => ∃ N, o = own ++ N ∧ R e N)
    (h : ∀ (e : Ending) (N : List Heap), R e N → ∃ v own2, e = .returned v ∧ appH own N = some own2 ∧ ChU P r F n all prot Q ds s ((d, v) :: env) own2 an) : ChU P r F n all prot Q ds (.h false m :: s) env own an := by
  haveI : TakeL own own [] := ⟨by simp⟩
  refine chu_T hi hd hg ho hc hx hvs hall hp (fun e o ⟨N, h1, _⟩ => ⟨N, h1⟩) fun e o hR => ?_
  obtain ⟨N, rfl, hR⟩ := hR
  obtain ⟨v, own2, h1, h2, h3⟩ := h e N hR
  exact ⟨v, own2, h1, by rw [appH_nil, appH_eq h2], h3⟩
end
end Go.SL
