/- Stores into a slice of one's own. -/
import Derived.Test.YtnfepffmlhmmhaaSlX1
namespace Go.SL
theorem hop_storeE {P : Program} {n : Nat} {o : Oper} {env : Env} {t T : TypeId} {x y : Operand} {base : Option Addr} {k len cap sz : Nat} {h : Heap} {v : Value} {cs vs cs' : List Value} {d : TypeDesc} {z : Value} {ti : TypeInfo} [ty : Ty P t d z ti]
    (os : OS h base len cap T sz cs) (ho : o.op = .store t x y) (hx : ev env x = some (ept base k)) (hy : ev env y = some v)
    (hv : cellsO v = some vs) (hsz : vs.length = ti.size) (h1 : vs.all (·.oneCell') = true) (hpos : 0 < vs.length) (hk : k + vs.length ≤ cs.length) (hc : cs' = cs.take k ++ vs ++ cs.drop (k + vs.length)) :
    HOp P [h] n o env fun _ own' => ∃ h', own' = [h'] ∧ OS h' base len cap T sz cs' := by
  refine ⟨by rw [ho]; rfl, fun a w X ha hs => ?_⟩
  have hl := os.hlen
  rcases os.shape with ⟨-, h2, -, -⟩ | ⟨b, off, arr, hb, hh, hsize, hcs⟩
  · rw [h2, Nat.zero_mul] at hl; omega
  · subst hb; subst hh
    have s1 : Sat (blk b (.cells arr T (0, 0)) :: X) w := by simpa using hs
    have hb : w.heap[b]? = some (.cells arr T (0, 0)) := s1.at (List.mem_cons_self ..) (blk_self _ _)
    have hle : len * sz ≤ cap * sz := Nat.mul_le_mul_right _ os.hle
    have hst := run_storeCells_at P b (off + k) T vs 0 arr w hb (by omega) (by simpa using h1)
    have hc' := cellsO_eq hv
    let arr' : Array Value := (arr.toList.take (off + k + 0) ++ vs ++ arr.toList.drop (off + k + 0 + vs.length)).toArray
    have hrun : (execOp a.eval o).run P w = .ok .skip (w.setRow b arr') := by
      simp [execOp, ho, Instr.storeAt, ha.eval hx, ha.eval hy, ept, Instr.sureAddr, storeVar, run_size ty.i, hc', hsz, hst, arr']
    have hlen' : cs'.length = cs.length := by rw [hc]; simp; omega
    refine ⟨w.setRow b arr', .inr (.inl ⟨[blk b (.cells arr' T (0, 0))], hrun, ?_, _, rfl, ?_⟩)⟩
    · have s2 := s1.put (setRow_heap w b _ arr' T (0, 0) hb) (by rfl) (by rfl) (fun k hk => setRow_other w b k _ hk) (fun _ => rfl)
      simpa using s2
    · refine ⟨by rw [hlen', hl], os.hle, .inr ⟨b, off, arr', rfl, rfl, ?_, fun j v hj => ?_⟩⟩
      · have : arr'.size = arr.size := by simp [arr']; omega
        rw [this]; exact hsize
      · subst hc
        simp only [arr', Nat.add_zero, List.getElem?_toArray]
        rw [List.append_assoc] at hj ⊢
        by_cases h1 : j < k
        · rw [List.getElem?_append_left (by simp; omega), List.getElem?_take, if_pos h1] at hj
          rw [List.getElem?_append_left (by simp; omega), List.getElem?_take, if_pos (by omega)]
          have := hcs j v hj
          simpa using this
        · rw [List.getElem?_append_right (by simp; omega)] at hj
          rw [List.getElem?_append_right (by simp; omega)]
          have e1 : (cs.take k).length = k := by simp; omega
          have e2 : (arr.toList.take (off + k)).length = off + k := by simp; omega
          rw [e1] at hj
          rw [e2, show off + j - (off + k) = j - k by omega]
          by_cases h2 : j - k < vs.length
          · rw [List.getElem?_append_left h2] at hj ⊢; exact hj
          · rw [List.getElem?_append_right (by omega), List.getElem?_drop] at hj ⊢
            have := hcs _ v hj
            rw [show off + (k + vs.length + (j - k - vs.length)) = off + k + vs.length + (j - k - vs.length) by omega] at this
            simpa using this
theorem OS.len {h : Heap} {base : Option Addr} {n c : Nat} {T : TypeId} {α : Type} {xs : List α} {f : α → Value} (os : OS h base n c T 1 (xs.map f)) : xs.length = n := by
  have := os.hlen; simpa using this
section
variable {P : Program} {r : Option Nat} {F : Heap} {n : Nat} {Q : SPost} {env : Env} {own rest hs prot : List Heap} {ds : List Deferred} {all : Array Oper} {l : List Oper} {o : Oper} {s : List Sg} {an : An}
theorem sl_hop0 {R : Value → List Heap → Prop} (hd : o.dst = none) (hg : wantedE all env o = some true) [t : TakeL own hs rest] (h : HOp P hs n o env R)
    (hr : ∀ v own', R v own' → ∃ own2, appH own' rest = some own2 ∧ SOL false P r F n all l Q env own2 ds) : SOL false P r F n all (o :: l) Q env own ds := fun k hk => by
  obtain ⟨i, k', rfl, hi, hk'⟩ := unl hk
  intro a w ha hds hs'
  rw [wpOpsIn_cons]
  have pp : (F :: own).Perm (hs ++ (rest ++ [F])) := (List.perm_append_comm (l₁ := [F]) (l₂ := own)).trans (by rw [← List.append_assoc]; exact t.perm.append_right [F])
  refine hop_wp h hi (wanted_of ha hg) ha rfl (hs'.perm pp) fun v own' w' hR s => ?_
  rw [hd]
  obtain ⟨own2, e2, h2⟩ := hr v own' hR
  rw [appH_eq e2] at h2
  exact h2 k' hk' _ w' (by simpa [Act.put] using ha) hds (s.perm (by rw [← List.append_assoc]; exact List.perm_append_comm (l₁ := own' ++ rest) (l₂ := [F])))
theorem sl_storeE {t T : TypeId} {x y : Operand} {base : Option Addr} {k len cap sz : Nat} {h : Heap} {v : Value} {cs vs cs' : List Value} {d : TypeDesc} {z : Value} {ti : TypeInfo} [ty : Ty P t d z ti]
    (hd : o.dst = none) (hg : wantedE all env o = some true) (ho : o.op = .store t x y) (hx : ev env x = some (ept base k)) (hy : ev env y = some v) (os : OS h base len cap T sz cs) [tk : TakeL own [h] rest]
    (hv : cellsO v = some vs) (hsz : vs.length = ti.size) (h1 : vs.all (·.oneCell') = true) (hpos : 0 < vs.length) (hk : k + vs.length ≤ cs.length) (hc : cs.take k ++ vs ++ cs.drop (k + vs.length) = cs')
    (next : ∀ h', OS h' base len cap T sz cs' → SOL false P r F n all l Q env (h' :: rest) ds) : SOL false P r F n all (o :: l) Q env own ds :=
  sl_hop0 hd hg (hop_storeE os ho hx hy hv hsz h1 hpos hk hc.symm) fun v' own' hR => by
    obtain ⟨h', rfl, os'⟩ := hR; exact ⟨_, rfl, next h' os'⟩
theorem chu_storeE {m : Nat} {t T : TypeId} {x y : Operand} {base : Option Addr} {k len cap sz : Nat} {h : Heap} {v : Value} {cs vs cs' : List Value} {d : TypeDesc} {z : Value} {ti : TypeInfo} [ty : Ty P t d z ti]
    (hi : all[m]? = some o) (hd : o.dst = none) (hg : wantedE all env o = some true) (ho : o.op = .store t x y) (hx : ev env x = some (ept base k)) (hy : ev env y = some v) (os : OS h base len cap T sz cs) [tk : TakeL own [h] rest] {rest2 : List Heap} [tp : TakeL rest prot rest2]
    (hv : cellsO v = some vs) (hsz : vs.length = ti.size) (h1 : vs.all (·.oneCell') = true) (hpos : 0 < vs.length) (hk : k + vs.length ≤ cs.length) (hc : cs.take k ++ vs ++ cs.drop (k + vs.length) = cs')
    (next : ∀ h', OS h' base len cap T sz cs' → ChU P r F n all prot Q ds s env (h' :: rest) an) : ChU P r F n all prot Q ds (.h true m :: s) env own an :=
  chu_h0 hi hd hg (hop_storeE os ho hx hy hv hsz h1 hpos hk hc.symm) grow_c (fun _ => ⟨rest2, tp.perm⟩) fun v' own' hR => by
    obtain ⟨h', rfl, os'⟩ := hR; exact ⟨_, rfl, next h' os'⟩
/-- The end of a body: what is left behind is found. -/
theorem end_retL {fn : Func} {own1 : List Heap} (hs : List Heap) {v : Value} {Q : Ending → List Heap → Prop} [m : Marks ds own own1] [t : TakeL own1 hs rest] (hr : ResOk P fn.results.toList own1 env n v) (hq : Q (.returned v) hs) : bodyQ P fn n Q .ret env own ds :=
  end_retW hs hr (fun F _ s => (s.perm (t.perm.cons F)).sub (List.Sublist.cons_cons F (List.sublist_append_left _ _))) hq
/-- A call that hands back a known value; it may look at all that one has. -/
theorem opv_callW {c : Call} {x : Operand} {f : FuncId} {first captured : Array Value} {vs vall : List Value} {v : Value} [Enters P f]
    (ho : o.op = .call c) (hc : c.callee = .value x) (hx : ev env x = some (.func (.func f) first captured)) (hvs : evs env c.args.toList = some vs)
    (hall : appO first.toList vs captured.toList = some vall) (h : PFn P f vall own v) : OpV P (F :: own) n o env v :=
  opv_call ho hc hx hvs hall h
theorem chu_PW {m d : Nat} {cl : Call} {x : Operand} {f : FuncId} {first captured : Array Value} {vs vall : List Value} {v : Value} [Enters P f]
    (hi : all[m]? = some o) (hd : o.dst = some d) (hg : wantedE all env o = some true)
    (ho : o.op = .call cl) (hc : cl.callee = .value x) (hx : ev env x = some (.func (.func f) first captured)) (hvs : evs env cl.args.toList = some vs)
    (hall : appO first.toList vs captured.toList = some vall) (hp : PFn P f vall own v) (h : ChU P r F n all prot Q ds s ((d, v) :: env) own an) : ChU P r F n all prot Q ds (.h false m :: s) env own an := by
  haveI : TakeL own own [] := ⟨by simp⟩
  exact chu_P hi hd hg ho hc hx hvs hall hp appH_nil h
end
end Go.SL
