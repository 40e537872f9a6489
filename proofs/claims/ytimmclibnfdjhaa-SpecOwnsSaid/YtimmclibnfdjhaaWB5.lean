/- The automaton's state, as it turns; entering. -/
import Derived.Test.YtimmclibnfdjhaaWB4
set_option linter.unusedVariables false
set_option linter.unusedSimpArgs false
set_option linter.unusedSectionVars false
namespace Go.Proofs.Ytimmclibnfdjhaa
open Go.SL
set_option maxRecDepth 100000
set_option maxHeartbeats 16000000
attribute [local irreducible] SL.T PFn OpV SOL SWP HOp ChU
/-- The automaton, as it is laid. -/
structure MemOk (bt bo : Option Addr) (ct co : Nat) (HT HO OP : Heap) (bs : List (Option Nat)) (σ : St) : Prop where
  hT : OS HT bt σ.th.length ct 73 3 (thCells bs σ.th)
  hO : OS HO bo σ.ob.length co 66 2 (obCells σ.ob)
  op : OpOk OP bs σ.th
  nT : NN bt
  nO : NN bo
def opnT (th : List Th) (t : Nat) (o : Option Opn) : List Th := th.modify t fun x => { x with opn := o }
def flagT (th : List Th) (t : Nat) (b : Bool) : List Th := th.modify t fun x => { x with flag := b }
def St.opn (σ : St) (t : Nat) (o : Opn) : St := { σ with th := opnT σ.th t (some o) }
def St.obj (σ : St) (k : Nat) (p : Int × Int) : St := { σ with ob := σ.ob.set k p }
def St.flg (σ : St) (t : Nat) (b : Bool) : St := { σ with th := flagT σ.th t b }
theorem opnT_at {th : List Th} {t u : Nat} {o : Option Opn} : (opnT th t o)[u]? = (th[u]?).map fun x => if u = t then { x with opn := o } else x := by
  unfold opnT
  rw [List.getElem?_modify]
  cases th[u]? with
  | none => rfl
  | some x =>
    simp only [Option.map_some, Functor.map]
    by_cases e : u = t
    · simp [e]
    · rw [if_neg (Ne.symm e), if_neg e]
theorem flagT_at {th : List Th} {t u : Nat} {b : Bool} : (flagT th t b)[u]? = (th[u]?).map fun x => if u = t then { x with flag := b } else x := by
  unfold flagT
  rw [List.getElem?_modify]
  cases th[u]? with
  | none => rfl
  | some x =>
    simp only [Option.map_some, Functor.map]
    by_cases e : u = t
    · simp [e]
    · rw [if_neg (Ne.symm e), if_neg e]
theorem opnT_length {th : List Th} {t : Nat} {o : Option Opn} : (opnT th t o).length = th.length := by simp [opnT]
theorem flagT_length {th : List Th} {t : Nat} {b : Bool} : (flagT th t b).length = th.length := by simp [flagT]
/-- What lies of threads speaks of their calls' blocks alone. -/
theorem thCells_congr : ∀ {bs : List (Option Nat)} {th th' : List Th}, th.length = th'.length → (∀ (u : Nat) (x y : Th), th[u]? = some x → th'[u]? = some y → x.calls = y.calls ∧ x.flag = y.flag) → thCells bs th = thCells bs th'
  | [], [], [], _, _ => rfl
  | [], _ :: _, _ :: _, _, _ => rfl
  | _ :: _, [], [], _, _ => rfl
  | b :: bs, x :: th, y :: th', hl, h => by
    obtain ⟨h1, h2⟩ := h 0 x y rfl rfl
    simp only [thCells, h1, h2]
    rw [thCells_congr (by simpa using hl) fun u x' y' hx hy => h (u + 1) x' y' (by simpa using hx) (by simpa using hy)]
  | _, [], _ :: _, hl, _ => by simp at hl
  | _, _ :: _, [], hl, _ => by simp at hl
theorem thCells_opnT {bs : List (Option Nat)} {th : List Th} {t : Nat} {o : Option Opn} : thCells bs (opnT th t o) = thCells bs th := by
  refine thCells_congr opnT_length fun u x y hx hy => ?_
  rw [opnT_at, hy] at hx
  simp only [Option.map_some, Option.some.injEq] at hx
  subst hx
  split <;> exact ⟨rfl, rfl⟩
theorem OpOk.upd {OP : Heap} {bs : List (Option Nat)} {th : List Th} {t β : Nat} {o : Opn} (h : OpOk OP bs th) (hb : bs[t]? = some (some β)) : OpOk (updB OP β (oblk o)) bs (opnT th t (some o)) := by
  refine ⟨by rw [opnT_length]; exact h.len, fun u x hx => ?_, h.one⟩
  rw [opnT_at] at hx
  cases hu : th[u]? with
  | none => rw [hu] at hx; cases hx
  | some y =>
    rw [hu] at hx
    simp only [Option.map_some, Option.some.injEq] at hx
    subst hx
    obtain ⟨b, g1, g2, g3⟩ := h.at_ u y hu
    by_cases e : u = t
    · subst e
      rw [hb] at g1; cases g1
      refine ⟨some β, hb, fun q => by simp at q, fun o' ho' => ⟨β, rfl, ?_⟩⟩
      simp only [if_true, Option.some.injEq] at ho'
      subst ho'; exact updB_self _ _ _
    · rw [if_neg e]
      refine ⟨b, g1, g2, fun o' ho' => ?_⟩
      obtain ⟨β', rfl, hβ'⟩ := g3 o' ho'
      refine ⟨β', rfl, ?_⟩
      rw [updB_ne (fun q => e (h.one u t β (by rw [g1, q]) hb))]; exact hβ'
section
variable {bt bo : Option Addr} {ct co : Nat} {HT HO OP : Heap} {bs : List (Option Nat)} {σ : St}
theorem MemOk.opn {t β : Nat} {o : Opn} (h : MemOk bt bo ct co HT HO OP bs σ) (hb : bs[t]? = some (some β)) : MemOk bt bo ct co HT HO (updB OP β (oblk o)) bs (σ.opn t o) :=
  ⟨by simp only [St.opn, thCells_opnT, opnT_length]; exact h.hT, h.hO, h.op.upd hb, h.nT, h.nO⟩
theorem MemOk.obj {HO' : Heap} {k : Nat} {p : Int × Int} (h : MemOk bt bo ct co HT HO OP bs σ) (os : OS HO' bo σ.ob.length co 66 2 (obCells (σ.ob.set k p))) : MemOk bt bo ct co HT HO' OP bs (σ.obj k p) :=
  ⟨h.hT, by simp only [St.obj, List.length_set]; exact os, h.op, h.nT, h.nO⟩
end
theorem obCells_set0 : ∀ {l : List (Int × Int)} {k : Nat} {p : Int × Int} (z : Int), l[k]? = some p → (obCells l).take (k * 2) ++ [i64 z] ++ (obCells l).drop (k * 2 + 1) = obCells (l.set k (z, p.2))
  | q :: l, 0, p, z, h => by simp at h; subst h; simp [obCells]
  | q :: l, k + 1, p, z, h => by
    have ih := obCells_set0 (l := l) (k := k) (p := p) z (by simpa using h)
    have e : (k + 1) * 2 = k * 2 + 1 + 1 := by omega
    have e2 : (k + 1) * 2 + 1 = k * 2 + 1 + 1 + 1 := by omega
    rw [e2, e]
    simp only [List.set_cons_succ, obCells, List.take_succ_cons, List.drop_succ_cons, List.cons_append]
    rw [ih]
theorem obCells_set1 : ∀ {l : List (Int × Int)} {k : Nat} {p : Int × Int} (z : Int), l[k]? = some p → (obCells l).take (k * 2 + 1) ++ [i64 z] ++ (obCells l).drop (k * 2 + 1 + 1) = obCells (l.set k (p.1, z))
  | q :: l, 0, p, z, h => by simp at h; subst h; simp [obCells]
  | q :: l, k + 1, p, z, h => by
    have ih := obCells_set1 (l := l) (k := k) (p := p) z (by simpa using h)
    have e : (k + 1) * 2 = k * 2 + 1 + 1 := by omega
    rw [e]
    simp only [List.set_cons_succ, obCells, List.take_succ_cons, List.drop_succ_cons, List.cons_append]
    rw [ih]
theorem obCells_set2 : ∀ {l : List (Int × Int)} {k : Nat} {p : Int × Int} (y z : Int), l[k]? = some p → (obCells l).take (k * 2) ++ [i64 y, i64 z] ++ (obCells l).drop (k * 2 + 2) = obCells (l.set k (y, z))
  | q :: l, 0, p, y, z, h => by simp [obCells]
  | q :: l, k + 1, p, y, z, h => by
    have ih := obCells_set2 (l := l) (k := k) (p := p) y z (by simpa using h)
    have e : (k + 1) * 2 = k * 2 + 1 + 1 := by omega
    have e2 : (k + 1) * 2 + 2 = k * 2 + 2 + 1 + 1 := by omega
    rw [e2, e]
    simp only [List.set_cons_succ, obCells, List.take_succ_cons, List.drop_succ_cons, List.cons_append]
    rw [ih]
abbrev dec (a : Int) : Int := IntKind.i64.wrap (a - 1)
abbrev inc (a : Int) : Int := IntKind.i64.wrap (a + 1)
/-- OpEnter. -/
def enterF (σ : St) (t k : Nat) (o : Opn) (ow dp : Int) (e : Ev) (owns : Bool) : Bool × St :=
  if (decide (e.act = 0) && ((owns || decide (ow < 0)) && decide (e.other = 0))) = true then (true, (σ.obj k (e.thread, inc dp)).opn t (doneO o 0 0))
  else if refB o e 5 owns = true then (true, σ.opn t (doneO o 5 0))
  else if refB o e 3 true = true then (true, σ.opn t (doneO o 3 0))
  else (false, σ)
/-- What a step makes of the state. -/
def StepQ (βx βs : Nat) (bt bo : Option Addr) (n ct kk co t k : Nat) (e : Ev) (owns : Bool) (bs : List (Option Nat)) (r : Bool × St) (en : Ending) (w : List Heap) : Prop :=
  en = .returned (.bool r.1) ∧ ∃ HT' HO' OP', w = [stepB βx βs bt bo t k e owns, specB βs bt bo n ct kk co r.2.rel, HT', HO', OP'] ∧ MemOk bt bo ct co HT' HO' OP' bs r.2
section
variable {βx βs β : Nat} {bt bo : Option Addr} {n ct kk co t k : Nat} {e : Ev} {owns : Bool} {HT HO OP : Heap} {bs : List (Option Nat)} {σ : St} {o : Opn} {ow dp : Int}
theorem enter_calls (m : MemOk bt bo ct co HT HO OP bs σ) (hb : bs[t]? = some (some β)) (ht : ∃ c f, σ.th[t]? = some ⟨some o, c, f⟩) (hk : σ.ob[k]? = some (ow, dp)) :
    SL.T Try.prog 40 [ptr βx] [stepB βx βs bt bo t k e owns, specB βs bt bo n ct kk co σ.rel, HT, HO, OP] (StepQ βx βs bt bo n ct kk co t k e owns bs (enterF σ t k o ow dp e owns)) := by
  obtain ⟨c, f, ht⟩ := ht
  haveI := m.nT
  haveI := m.nO
  haveI slT := m.hT.sl
  haveI slO := m.hO.sl
  have osO := m.hO
  have htc : (thCells bs σ.th)[t * 3]? = some (ptr β) := (thCells_at hb ht).1
  obtain ⟨hk0, hk1⟩ := obCells_at hk
  have hk0' : (obCells σ.ob)[k * 2 + 0]? = some (i64 ow) := hk0
  have hol := obCells_length σ.ob
  have hkl : k < σ.ob.length := (List.getElem?_eq_some_iff.1 hk).1
  have hkl2 : k * 2 < (obCells σ.ob).length := by omega
  haveI i1 : InH OP β (oblk o) := ⟨by
    obtain ⟨b, g1, g2, g3⟩ := m.op.at_ _ _ ht
    obtain ⟨β', rfl, h⟩ := g3 o rfl
    rw [hb] at g1; cases g1; exact h⟩
  have hp := fun h => plain_calls (βx := βx) (βs := βs) (bt := bt) (bo := bo) (t := t) (k := k) (e := e) (owns := owns) 0 h
  have hr := fun c h => refuses_calls (βx := βx) (βs := βs) (β := β) (bt := bt) (bo := bo) (t := t) (k := k) (e := e) (owns := owns) HT OP (thCells bs σ.th) o c h htc
  have hd := fun c v => done_calls (βx := βx) (βs := βs) (β := β) (bt := bt) (bo := bo) (t := t) (k := k) (e := e) (owns := owns) HT OP (thCells bs σ.th) o c v htc
  obtain ⟨h0, hh0⟩ : ∃ h, (owns || decide (ow < 0)) = h := ⟨_, rfl⟩
  have hp0 := hp h0
  cases hg : (decide (e.act = 0) && (h0 && decide (e.other = 0))) with
  | true =>
    have hF : enterF σ t k o ow dp e owns = (true, (σ.obj k (e.thread, inc dp)).opn t (doneO o 0 0)) := by simp only [enterF, hh0, hg, if_true]
    rw [hF]
    rw [hg] at hp0
    have hk2 : (obCells (σ.ob.set k (e.thread, dp)))[k * 2 + 1]? = some (i64 dp) := (obCells_at (List.getElem?_set_self hkl)).2
    have hkl3 : k * 2 < (obCells (σ.ob.set k (e.thread, dp))).length := by rw [obCells_length, List.length_set]; omega
    have hset : (obCells (σ.ob.set k (e.thread, dp))).take (k * 2 + 1) ++ [i64 (inc dp)] ++ (obCells (σ.ob.set k (e.thread, dp))).drop (k * 2 + 1 + 1) = obCells (σ.ob.set k (e.thread, inc dp)) := by
      rw [obCells_set1 (inc dp) (List.getElem?_set_self hkl), List.set_set]
    have hd0 := hd 0 0
    have h0t : h0 = true := by
      cases h0 with
      | true => rfl
      | false => simp at hg
    subst h0t
    by_cases hw : owns = true
    · subst hw
      refine t_of_body Try.func40 rfl (Nat.le_of_ble_eq_true rfl) fun F => ?_
      repeat' (first
        | refine swp_seq ?_
        | (refine gk 0 rfl ?_; first | refine sl_op rfl rfl rfl (by first | exact opv_move rfl rfl | exact opv_assign rfl rfl | exact opv_pick_t rfl rfl rfl ) ?_ | refine sl_pass rfl rfl rfl rfl ?_)
        | (refine gk 2 rfl ?_; first | refine sl_pass rfl rfl rfl rfl ?_ )
        | (refine gk 3 rfl ?_; first | refine sl_op rfl rfl rfl (by first | exact opv_load rfl (by exact rfl) rfl (by exact rfl) | exact opv_fieldAddr rfl rfl ) ?_ | refine sl_pass rfl rfl rfl rfl ?_)
        | (refine gk 4 rfl ?_; first | refine sl_op rfl rfl rfl (opv_call rfl rfl rfl rfl rfl (hp0)) ?_)
        | (refine gk 5 rfl ?_; first | refine sl_op rfl rfl rfl (by first | exact opv_nilCheck rfl rfl ) ?_ | refine sl_pass rfl rfl rfl rfl ?_ )
        | refine sl_region rfl ?_
        | refine sl_nil ?_
        | refine thn_k ?_
        | refine swp_true rfl ?_
        )
      refine sl_drawC [.q [0, 1, 2, 3, 4, 5, 6, 7, 8, 9, 10], .h true 11] [] (by kernel_rfl) (by kernel_rfl) (by kernel_rfl) (by kernel_rfl) ?_
      repeat' (first
        | refine sl_storeE rfl rfl rfl rfl rfl osO2 rfl rfl rfl (Nat.succ_pos _) (by rw [obCells_length, List.length_set]; simp; omega) hset (fun HO3 osO3 => ?_)
        | refine swp_seq ?_
        | (refine gk 0 rfl ?_; first | refine sl_op rfl rfl rfl (by first | exact opv_move rfl rfl | exact opv_assign rfl rfl ) ?_ )
        | (refine gk 1 rfl ?_; first | refine sl_op rfl rfl rfl (by first | exact opv_add rfl rfl rfl ) ?_ )
        | (refine gk 3 rfl ?_; first | refine sl_op rfl rfl rfl (by first | exact opv_load rfl (by exact rfl) rfl (by exact rfl) | exact opv_fieldAddr rfl rfl | exact opv_fieldAddrE rfl rfl (by first | assumption ) | exact opv_loadEx rfl (by exact rfl) (by infer_instance) (by first | assumption ) ) ?_ )
        | (refine gk 4 rfl ?_; first | (refine sl_callT rfl rfl rfl rfl rfl rfl rfl rfl (hd0) ?_; rintro _ _ ⟨rfl, rfl⟩; refine ⟨_, _, rfl, rfl, ?_⟩))
        | (refine gk 5 rfl ?_; first | refine sl_op rfl rfl rfl (by first | exact opv_nilCheck rfl rfl | exact opv_nilCheckE rfl rfl ) ?_ )
        | refine sl_region rfl ?_
        | refine chu_nil ?_
        | refine chu_q rfl ?_
        | (refine chu_storeE rfl rfl rfl rfl rfl rfl osO rfl rfl rfl (Nat.succ_pos _) (by simp; omega) (obCells_set0 e.thread hk) (fun HO2 osO2 => ?_); haveI slO2 := osO2.sl)
        | refine sl_nil ?_
        | refine thn_k ?_
        | refine swp_ret ?_
        | refine thn_ret ?_
        )
      exact end_retL [stepB βx βs bt bo t k e true, specB βs bt bo n ct kk co σ.rel, HT, HO3, updB OP β (oblk (doneO o 0 0))] (resOk_one (resV_tmp rfl)) ⟨rfl, HT, HO3, _, rfl, (m.obj osO3).opn hb⟩
    · obtain rfl : owns = false := by simpa using hw
      have how : ow < 0 := by simpa using hh0
      refine t_of_body Try.func40 rfl (Nat.le_of_ble_eq_true rfl) fun F => ?_
      repeat' (first
        | refine swp_seq ?_
        | (refine gk 0 rfl ?_; first | refine sl_op rfl rfl rfl (by first | exact opv_move rfl rfl | exact opv_assign rfl rfl | exact opv_pick_f rfl rfl rfl ) ?_ )
        | (refine gk 2 rfl ?_; first | refine sl_yes rfl rfl rfl (by first | exact opv_lss rfl rfl rfl ) (by first | omega ) ?_ )
        | (refine gk 3 rfl ?_; first | refine sl_op rfl rfl rfl (by first | exact opv_load rfl (by exact rfl) rfl (by exact rfl) | exact opv_fieldAddr rfl rfl | exact opv_fieldAddrE rfl rfl (by first | assumption ) | exact opv_loadEx rfl (by exact rfl) (by infer_instance) (by first | assumption ) ) ?_ )
        | (refine gk 4 rfl ?_; first | refine sl_op rfl rfl rfl (opv_call rfl rfl rfl rfl rfl (hp0)) ?_)
        | (refine gk 5 rfl ?_; first | refine sl_op rfl rfl rfl (by first | exact opv_nilCheck rfl rfl | exact opv_nilCheckE rfl rfl ) ?_ )
        | refine sl_region rfl ?_
        | refine sl_nil ?_
        | refine thn_k ?_
        | refine swp_true rfl ?_
        )
      refine sl_drawC [.q [0, 1, 2, 3, 4, 5, 6, 7, 8, 9, 10], .h true 11] [] (by kernel_rfl) (by kernel_rfl) (by kernel_rfl) (by kernel_rfl) ?_
      repeat' (first
        | refine sl_storeE rfl rfl rfl rfl rfl osO2 rfl rfl rfl (Nat.succ_pos _) (by rw [obCells_length, List.length_set]; simp; omega) hset (fun HO3 osO3 => ?_)
        | refine swp_seq ?_
        | (refine gk 0 rfl ?_; first | refine sl_op rfl rfl rfl (by first | exact opv_move rfl rfl | exact opv_assign rfl rfl ) ?_ )
        | (refine gk 1 rfl ?_; first | refine sl_op rfl rfl rfl (by first | exact opv_add rfl rfl rfl ) ?_ )
        | (refine gk 3 rfl ?_; first | refine sl_op rfl rfl rfl (by first | exact opv_load rfl (by exact rfl) rfl (by exact rfl) | exact opv_fieldAddr rfl rfl | exact opv_fieldAddrE rfl rfl (by first | assumption ) | exact opv_loadEx rfl (by exact rfl) (by infer_instance) (by first | assumption ) ) ?_ )
        | (refine gk 4 rfl ?_; first | (refine sl_callT rfl rfl rfl rfl rfl rfl rfl rfl (hd0) ?_; rintro _ _ ⟨rfl, rfl⟩; refine ⟨_, _, rfl, rfl, ?_⟩))
        | (refine gk 5 rfl ?_; first | refine sl_op rfl rfl rfl (by first | exact opv_nilCheck rfl rfl | exact opv_nilCheckE rfl rfl ) ?_ )
        | refine sl_region rfl ?_
        | refine chu_nil ?_
        | refine chu_q rfl ?_
        | (refine chu_storeE rfl rfl rfl rfl rfl rfl osO rfl rfl rfl (Nat.succ_pos _) (by simp; omega) (obCells_set0 e.thread hk) (fun HO2 osO2 => ?_); haveI slO2 := osO2.sl)
        | refine sl_nil ?_
        | refine thn_k ?_
        | refine swp_ret ?_
        | refine thn_ret ?_
        )
      exact end_retL [stepB βx βs bt bo t k e false, specB βs bt bo n ct kk co σ.rel, HT, HO3, updB OP β (oblk (doneO o 0 0))] (resOk_one (resV_tmp rfl)) ⟨rfl, HT, HO3, _, rfl, (m.obj osO3).opn hb⟩
  | false =>
    have hF : enterF σ t k o ow dp e owns = if refB o e 5 owns = true then (true, σ.opn t (doneO o 5 0)) else if refB o e 3 true = true then (true, σ.opn t (doneO o 3 0)) else (false, σ) := by
      simp only [enterF, hh0, hg, Bool.false_eq_true, if_false]
    rw [hF]
    rw [hg] at hp0
    have hr5 := hr 5 owns
    have hr3 := hr 3 true
    have hid := updB_id i1
    cases h5 : refB o e 5 owns with
    | true =>
      simp only [h5, if_true] at hr5
      rw [if_pos rfl]
      by_cases hw : owns = true
      · subst hw
        obtain rfl : h0 = true := by simpa using hh0.symm
        refine t_of_body Try.func40 rfl (Nat.le_of_ble_eq_true rfl) fun F => ?_
        repeat' (first
          | refine swp_seq ?_
          | (refine gk 0 rfl ?_; first | refine sl_op rfl rfl rfl (by first | exact opv_move rfl rfl | exact opv_assign rfl rfl | exact opv_pick_t rfl rfl rfl ) ?_ | refine sl_pass rfl rfl rfl rfl ?_)
          | (refine gk 2 rfl ?_; first | refine sl_pass rfl rfl rfl rfl ?_ )
          | (refine gk 3 rfl ?_; first | refine sl_op rfl rfl rfl (by first | exact opv_load rfl (by exact rfl) rfl (by exact rfl) | exact opv_fieldAddr rfl rfl ) ?_ | refine sl_pass rfl rfl rfl rfl ?_)
          | (refine gk 4 rfl ?_; first | refine sl_pass rfl rfl rfl rfl ?_ | refine sl_op rfl rfl rfl (opv_call rfl rfl rfl rfl rfl (hp0)) ?_ | (refine sl_callT rfl rfl rfl rfl rfl rfl rfl rfl (hr5) ?_; rintro _ _ ⟨rfl, rfl⟩; refine ⟨_, _, rfl, rfl, ?_⟩))
          | (refine gk 5 rfl ?_; first | refine sl_op rfl rfl rfl (by first | exact opv_nilCheck rfl rfl ) ?_ | refine sl_pass rfl rfl rfl rfl ?_ )
          | refine sl_region rfl ?_
          | refine sl_nil ?_
          | refine thn_k ?_
          | refine swp_false rfl ?_
          | refine swp_ret ?_
          | refine swp_skip ?_
          )
        exact end_retL [stepB βx βs bt bo t k e true, specB βs bt bo n ct kk co σ.rel, HT, HO, updB OP β (oblk (doneO o 5 0))] (resOk_one (resV_tmp rfl)) ⟨rfl, HT, HO, _, rfl, m.opn hb⟩
      · obtain rfl : owns = false := by simpa using hw
        by_cases how : ow < 0
        · obtain rfl : h0 = true := by simpa [how] using hh0.symm
          refine t_of_body Try.func40 rfl (Nat.le_of_ble_eq_true rfl) fun F => ?_
          repeat' (first
            | refine swp_seq ?_
            | (refine gk 0 rfl ?_; first | refine sl_op rfl rfl rfl (by first | exact opv_move rfl rfl | exact opv_assign rfl rfl | exact opv_pick_t rfl rfl rfl | exact opv_pick_f rfl rfl rfl ) ?_ | refine sl_pass rfl rfl rfl rfl ?_)
            | (refine gk 2 rfl ?_; first | refine sl_yes rfl rfl rfl (by first | exact opv_lss rfl rfl rfl ) (by first | omega ) ?_ )
            | (refine gk 3 rfl ?_; first | refine sl_op rfl rfl rfl (by first | exact opv_load rfl (by exact rfl) rfl (by exact rfl) | exact opv_fieldAddr rfl rfl | exact opv_fieldAddrE rfl rfl (by first | assumption ) | exact opv_loadEx rfl (by exact rfl) (by infer_instance) (by first | assumption ) ) ?_ )
            | (refine gk 4 rfl ?_; first | refine sl_pass rfl rfl rfl rfl ?_ | refine sl_op rfl rfl rfl (opv_call rfl rfl rfl rfl rfl (hp0)) ?_ | (refine sl_callT rfl rfl rfl rfl rfl rfl rfl rfl (hr5) ?_; rintro _ _ ⟨rfl, rfl⟩; refine ⟨_, _, rfl, rfl, ?_⟩))
            | (refine gk 5 rfl ?_; first | refine sl_op rfl rfl rfl (by first | exact opv_nilCheck rfl rfl | exact opv_nilCheckE rfl rfl ) ?_ )
            | refine sl_region rfl ?_
            | refine sl_nil ?_
            | refine thn_k ?_
            | refine swp_false rfl ?_
            | refine swp_ret ?_
            | refine swp_skip ?_
            )
          exact end_retL [stepB βx βs bt bo t k e false, specB βs bt bo n ct kk co σ.rel, HT, HO, updB OP β (oblk (doneO o 5 0))] (resOk_one (resV_tmp rfl)) ⟨rfl, HT, HO, _, rfl, m.opn hb⟩
        · obtain rfl : h0 = false := by simpa [how] using hh0.symm
          refine t_of_body Try.func40 rfl (Nat.le_of_ble_eq_true rfl) fun F => ?_
          repeat' (first
            | refine swp_seq ?_
            | (refine gk 0 rfl ?_; first | refine sl_op rfl rfl rfl (by first | exact opv_move rfl rfl | exact opv_assign rfl rfl | exact opv_pick_t rfl rfl rfl | exact opv_pick_f rfl rfl rfl ) ?_ | refine sl_pass rfl rfl rfl rfl ?_)
            | (refine gk 2 rfl ?_; first | refine sl_no rfl rfl rfl (by first | exact opv_lss rfl rfl rfl ) (by first | omega ) ?_ )
            | (refine gk 3 rfl ?_; first | refine sl_op rfl rfl rfl (by first | exact opv_load rfl (by exact rfl) rfl (by exact rfl) | exact opv_fieldAddr rfl rfl | exact opv_fieldAddrE rfl rfl (by first | assumption ) | exact opv_loadEx rfl (by exact rfl) (by infer_instance) (by first | assumption ) ) ?_ )
            | (refine gk 4 rfl ?_; first | refine sl_pass rfl rfl rfl rfl ?_ | refine sl_op rfl rfl rfl (opv_call rfl rfl rfl rfl rfl (hp0)) ?_ | (refine sl_callT rfl rfl rfl rfl rfl rfl rfl rfl (hr5) ?_; rintro _ _ ⟨rfl, rfl⟩; refine ⟨_, _, rfl, rfl, ?_⟩))
            | (refine gk 5 rfl ?_; first | refine sl_op rfl rfl rfl (by first | exact opv_nilCheck rfl rfl | exact opv_nilCheckE rfl rfl ) ?_ )
            | refine sl_region rfl ?_
            | refine sl_nil ?_
            | refine thn_k ?_
            | refine swp_false rfl ?_
            | refine swp_ret ?_
            | refine swp_skip ?_
            )
          exact end_retL [stepB βx βs bt bo t k e false, specB βs bt bo n ct kk co σ.rel, HT, HO, updB OP β (oblk (doneO o 5 0))] (resOk_one (resV_tmp rfl)) ⟨rfl, HT, HO, _, rfl, m.opn hb⟩
    | false =>
      simp only [h5, Bool.false_eq_true, if_false, hid] at hr5
      simp only [Bool.false_eq_true, if_false]
      cases h3 : refB o e 3 true with
      | true =>
        simp only [h3, if_true] at hr3
        rw [if_pos rfl]
        by_cases hw : owns = true
        · subst hw
          obtain rfl : h0 = true := by simpa using hh0.symm
          refine t_of_body Try.func40 rfl (Nat.le_of_ble_eq_true rfl) fun F => ?_
          repeat' (first
            | refine swp_seq ?_
            | (refine gk 0 rfl ?_; first | refine sl_op rfl rfl rfl (by first | exact opv_move rfl rfl | exact opv_assign rfl rfl | exact opv_pick_t rfl rfl rfl | exact opv_pick_f rfl rfl rfl ) ?_ | refine sl_pass rfl rfl rfl rfl ?_)
            | (refine gk 2 rfl ?_; first | refine sl_pass rfl rfl rfl rfl ?_ )
            | (refine gk 3 rfl ?_; first | refine sl_op rfl rfl rfl (by first | exact opv_load rfl (by exact rfl) rfl (by exact rfl) | exact opv_fieldAddr rfl rfl ) ?_ | refine sl_pass rfl rfl rfl rfl ?_)
            | (refine gk 4 rfl ?_; first | refine sl_op rfl rfl rfl (opv_call rfl rfl rfl rfl rfl (hp0)) ?_ | (refine sl_callT rfl rfl rfl rfl rfl rfl rfl rfl (hr5) ?_; rintro _ _ ⟨rfl, rfl⟩; refine ⟨_, _, rfl, rfl, ?_⟩) | (refine sl_callT rfl rfl rfl rfl rfl rfl rfl rfl (hr3) ?_; rintro _ _ ⟨rfl, rfl⟩; refine ⟨_, _, rfl, rfl, ?_⟩))
            | (refine gk 5 rfl ?_; first | refine sl_op rfl rfl rfl (by first | exact opv_nilCheck rfl rfl ) ?_ | refine sl_pass rfl rfl rfl rfl ?_ )
            | refine sl_region rfl ?_
            | refine sl_nil ?_
            | refine thn_k ?_
            | refine swp_false rfl ?_
            | refine swp_ret ?_
            | refine swp_skip ?_
            )
          exact end_retL [stepB βx βs bt bo t k e true, specB βs bt bo n ct kk co σ.rel, HT, HO, updB OP β (oblk (doneO o 3 0))] (resOk_one (resV_tmp rfl)) ⟨rfl, HT, HO, _, rfl, m.opn hb⟩
        · obtain rfl : owns = false := by simpa using hw
          by_cases how : ow < 0
          · obtain rfl : h0 = true := by simpa [how] using hh0.symm
            refine t_of_body Try.func40 rfl (Nat.le_of_ble_eq_true rfl) fun F => ?_
            repeat' (first
              | refine swp_seq ?_
              | (refine gk 0 rfl ?_; first | refine sl_op rfl rfl rfl (by first | exact opv_move rfl rfl | exact opv_assign rfl rfl | exact opv_pick_f rfl rfl rfl ) ?_ )
              | (refine gk 2 rfl ?_; first | refine sl_yes rfl rfl rfl (by first | exact opv_lss rfl rfl rfl ) (by first | omega ) ?_ )
              | (refine gk 3 rfl ?_; first | refine sl_op rfl rfl rfl (by first | exact opv_load rfl (by exact rfl) rfl (by exact rfl) | exact opv_fieldAddr rfl rfl | exact opv_fieldAddrE rfl rfl (by first | assumption ) | exact opv_loadEx rfl (by exact rfl) (by infer_instance) (by first | assumption ) ) ?_ )
              | (refine gk 4 rfl ?_; first | refine sl_op rfl rfl rfl (opv_call rfl rfl rfl rfl rfl (hp0)) ?_ | (refine sl_callT rfl rfl rfl rfl rfl rfl rfl rfl (hr5) ?_; rintro _ _ ⟨rfl, rfl⟩; refine ⟨_, _, rfl, rfl, ?_⟩) | (refine sl_callT rfl rfl rfl rfl rfl rfl rfl rfl (hr3) ?_; rintro _ _ ⟨rfl, rfl⟩; refine ⟨_, _, rfl, rfl, ?_⟩))
              | (refine gk 5 rfl ?_; first | refine sl_op rfl rfl rfl (by first | exact opv_nilCheck rfl rfl | exact opv_nilCheckE rfl rfl ) ?_ )
              | refine sl_region rfl ?_
              | refine sl_nil ?_
              | refine thn_k ?_
              | refine swp_false rfl ?_
              | refine swp_ret ?_
              | refine swp_skip ?_
              )
            exact end_retL [stepB βx βs bt bo t k e false, specB βs bt bo n ct kk co σ.rel, HT, HO, updB OP β (oblk (doneO o 3 0))] (resOk_one (resV_tmp rfl)) ⟨rfl, HT, HO, _, rfl, m.opn hb⟩
          · obtain rfl : h0 = false := by simpa [how] using hh0.symm
            refine t_of_body Try.func40 rfl (Nat.le_of_ble_eq_true rfl) fun F => ?_
            repeat' (first
              | refine swp_seq ?_
              | (refine gk 0 rfl ?_; first | refine sl_op rfl rfl rfl (by first | exact opv_move rfl rfl | exact opv_assign rfl rfl | exact opv_pick_f rfl rfl rfl ) ?_ )
              | (refine gk 2 rfl ?_; first | refine sl_no rfl rfl rfl (by first | exact opv_lss rfl rfl rfl ) (by first | omega ) ?_ )
              | (refine gk 3 rfl ?_; first | refine sl_op rfl rfl rfl (by first | exact opv_load rfl (by exact rfl) rfl (by exact rfl) | exact opv_fieldAddr rfl rfl | exact opv_fieldAddrE rfl rfl (by first | assumption ) | exact opv_loadEx rfl (by exact rfl) (by infer_instance) (by first | assumption ) ) ?_ )
              | (refine gk 4 rfl ?_; first | refine sl_op rfl rfl rfl (opv_call rfl rfl rfl rfl rfl (hp0)) ?_ | (refine sl_callT rfl rfl rfl rfl rfl rfl rfl rfl (hr5) ?_; rintro _ _ ⟨rfl, rfl⟩; refine ⟨_, _, rfl, rfl, ?_⟩) | (refine sl_callT rfl rfl rfl rfl rfl rfl rfl rfl (hr3) ?_; rintro _ _ ⟨rfl, rfl⟩; refine ⟨_, _, rfl, rfl, ?_⟩))
              | (refine gk 5 rfl ?_; first | refine sl_op rfl rfl rfl (by first | exact opv_nilCheck rfl rfl | exact opv_nilCheckE rfl rfl ) ?_ )
              | refine sl_region rfl ?_
              | refine sl_nil ?_
              | refine thn_k ?_
              | refine swp_false rfl ?_
              | refine swp_ret ?_
              | refine swp_skip ?_
              )
            exact end_retL [stepB βx βs bt bo t k e false, specB βs bt bo n ct kk co σ.rel, HT, HO, updB OP β (oblk (doneO o 3 0))] (resOk_one (resV_tmp rfl)) ⟨rfl, HT, HO, _, rfl, m.opn hb⟩
      | false =>
        simp only [h3, Bool.false_eq_true, if_false, hid] at hr3
        simp only [Bool.false_eq_true, if_false]
        by_cases hw : owns = true
        · subst hw
          obtain rfl : h0 = true := by simpa using hh0.symm
          refine t_of_body Try.func40 rfl (Nat.le_of_ble_eq_true rfl) fun F => ?_
          repeat' (first
            | refine swp_seq ?_
            | (refine gk 0 rfl ?_; first | refine sl_op rfl rfl rfl (by first | exact opv_move rfl rfl | exact opv_assign rfl rfl | exact opv_pick_t rfl rfl rfl | exact opv_pick_f rfl rfl rfl ) ?_ | refine sl_pass rfl rfl rfl rfl ?_)
            | (refine gk 2 rfl ?_; first | refine sl_pass rfl rfl rfl rfl ?_ )
            | (refine gk 3 rfl ?_; first | refine sl_op rfl rfl rfl (by first | exact opv_load rfl (by exact rfl) rfl (by exact rfl) | exact opv_fieldAddr rfl rfl ) ?_ | refine sl_pass rfl rfl rfl rfl ?_)
            | (refine gk 4 rfl ?_; first | refine sl_op rfl rfl rfl (opv_call rfl rfl rfl rfl rfl (hp0)) ?_ | (refine sl_callT rfl rfl rfl rfl rfl rfl rfl rfl (hr5) ?_; rintro _ _ ⟨rfl, rfl⟩; refine ⟨_, _, rfl, rfl, ?_⟩) | (refine sl_callT rfl rfl rfl rfl rfl rfl rfl rfl (hr3) ?_; rintro _ _ ⟨rfl, rfl⟩; refine ⟨_, _, rfl, rfl, ?_⟩))
            | (refine gk 5 rfl ?_; first | refine sl_op rfl rfl rfl (by first | exact opv_nilCheck rfl rfl ) ?_ | refine sl_pass rfl rfl rfl rfl ?_ )
            | refine sl_region rfl ?_
            | refine sl_nil ?_
            | refine thn_k ?_
            | refine swp_false rfl ?_
            | refine swp_ret ?_
            | refine swp_skip ?_
            )
          exact end_retL [stepB βx βs bt bo t k e true, specB βs bt bo n ct kk co σ.rel, HT, HO, OP] (resOk_one (resV_tmp rfl)) ⟨rfl, HT, HO, _, rfl, m⟩
        · obtain rfl : owns = false := by simpa using hw
          by_cases how : ow < 0
          · obtain rfl : h0 = true := by simpa [how] using hh0.symm
            refine t_of_body Try.func40 rfl (Nat.le_of_ble_eq_true rfl) fun F => ?_
            repeat' (first
              | refine swp_seq ?_
              | (refine gk 0 rfl ?_; first | refine sl_op rfl rfl rfl (by first | exact opv_move rfl rfl | exact opv_assign rfl rfl | exact opv_pick_f rfl rfl rfl ) ?_ )
              | (refine gk 2 rfl ?_; first | refine sl_yes rfl rfl rfl (by first | exact opv_lss rfl rfl rfl ) (by first | omega ) ?_ )
              | (refine gk 3 rfl ?_; first | refine sl_op rfl rfl rfl (by first | exact opv_load rfl (by exact rfl) rfl (by exact rfl) | exact opv_fieldAddr rfl rfl | exact opv_fieldAddrE rfl rfl (by first | assumption ) | exact opv_loadEx rfl (by exact rfl) (by infer_instance) (by first | assumption ) ) ?_ )
              | (refine gk 4 rfl ?_; first | refine sl_op rfl rfl rfl (opv_call rfl rfl rfl rfl rfl (hp0)) ?_ | (refine sl_callT rfl rfl rfl rfl rfl rfl rfl rfl (hr5) ?_; rintro _ _ ⟨rfl, rfl⟩; refine ⟨_, _, rfl, rfl, ?_⟩) | (refine sl_callT rfl rfl rfl rfl rfl rfl rfl rfl (hr3) ?_; rintro _ _ ⟨rfl, rfl⟩; refine ⟨_, _, rfl, rfl, ?_⟩))
              | (refine gk 5 rfl ?_; first | refine sl_op rfl rfl rfl (by first | exact opv_nilCheck rfl rfl | exact opv_nilCheckE rfl rfl ) ?_ )
              | refine sl_region rfl ?_
              | refine sl_nil ?_
              | refine thn_k ?_
              | refine swp_false rfl ?_
              | refine swp_ret ?_
              | refine swp_skip ?_
              )
            exact end_retL [stepB βx βs bt bo t k e false, specB βs bt bo n ct kk co σ.rel, HT, HO, OP] (resOk_one (resV_tmp rfl)) ⟨rfl, HT, HO, _, rfl, m⟩
          · obtain rfl : h0 = false := by simpa [how] using hh0.symm
            refine t_of_body Try.func40 rfl (Nat.le_of_ble_eq_true rfl) fun F => ?_
            repeat' (first
              | refine swp_seq ?_
              | (refine gk 0 rfl ?_; first | refine sl_op rfl rfl rfl (by first | exact opv_move rfl rfl | exact opv_assign rfl rfl | exact opv_pick_f rfl rfl rfl ) ?_ )
              | (refine gk 2 rfl ?_; first | refine sl_no rfl rfl rfl (by first | exact opv_lss rfl rfl rfl ) (by first | omega ) ?_ )
              | (refine gk 3 rfl ?_; first | refine sl_op rfl rfl rfl (by first | exact opv_load rfl (by exact rfl) rfl (by exact rfl) | exact opv_fieldAddr rfl rfl | exact opv_fieldAddrE rfl rfl (by first | assumption ) | exact opv_loadEx rfl (by exact rfl) (by infer_instance) (by first | assumption ) ) ?_ )
              | (refine gk 4 rfl ?_; first | refine sl_op rfl rfl rfl (opv_call rfl rfl rfl rfl rfl (hp0)) ?_ | (refine sl_callT rfl rfl rfl rfl rfl rfl rfl rfl (hr5) ?_; rintro _ _ ⟨rfl, rfl⟩; refine ⟨_, _, rfl, rfl, ?_⟩) | (refine sl_callT rfl rfl rfl rfl rfl rfl rfl rfl (hr3) ?_; rintro _ _ ⟨rfl, rfl⟩; refine ⟨_, _, rfl, rfl, ?_⟩))
              | (refine gk 5 rfl ?_; first | refine sl_op rfl rfl rfl (by first | exact opv_nilCheck rfl rfl | exact opv_nilCheckE rfl rfl ) ?_ )
              | refine sl_region rfl ?_
              | refine sl_nil ?_
              | refine thn_k ?_
              | refine swp_false rfl ?_
              | refine swp_ret ?_
              | refine swp_skip ?_
              )
            exact end_retL [stepB βx βs bt bo t k e false, specB βs bt bo n ct kk co σ.rel, HT, HO, OP] (resOk_one (resV_tmp rfl)) ⟨rfl, HT, HO, _, rfl, m⟩
end
end Go.Proofs.Ytimmclibnfdjhaa
