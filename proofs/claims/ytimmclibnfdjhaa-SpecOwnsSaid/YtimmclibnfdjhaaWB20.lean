/- Events, as laws write them. -/
import Derived.Test.YtimmclibnfdjhaaWB19
set_option linter.unusedVariables false
set_option linter.unusedSimpArgs false
set_option linter.unusedSectionVars false
namespace Go.Proofs.Ytimmclibnfdjhaa
open Go.SL
set_option maxRecDepth 100000
set_option maxHeartbeats 16000000
attribute [local irreducible] SL.T PFn OpV SOL SWP HOp ChU
theorem mkCall (t i op arg : Int) : PFn Try.prog 14 [i64 t, i64 i, i64 op, i64 arg] [] (.agg ⟨[i64 0, i64 t, i64 i, i64 op, i64 0, i64 arg, i64 0, i64 0]⟩) := mkCall_calls t i op arg
theorem mkAct (t what other : Int) : PFn Try.prog 15 [i64 t, i64 what, i64 other] [] (.agg ⟨[i64 1, i64 t, i64 0, i64 what, i64 0, i64 other, i64 0, i64 0]⟩) := mkAct_calls t what other
theorem mkBack (t i code value : Int) : PFn Try.prog 16 [i64 t, i64 i, i64 code, i64 value] [] (.agg ⟨[i64 2, i64 t, i64 i, i64 0, i64 0, i64 0, i64 code, i64 value]⟩) := mkBack_calls t i code value
/-- An automaton in memory. -/
structure Au (bt bo : Option Addr) (n ct k co : Nat) (HT HO OP : Heap) (σ : St) : Prop where
  ex : ∃ bs, MemOk bt bo ct co HT HO OP bs σ
  hn : σ.th.length = n
  hk : σ.ob.length = k
  wf : WF σ
theorem Au.next {bt bo : Option Addr} {n ct k co : Nat} {HT HO OP HT' HO' OP' : Heap} {σ σ' : St} {bs' : List (Option Nat)} (a : Au bt bo n ct k co HT HO OP σ) (m : MemOk bt bo ct co HT' HO' OP' bs' σ') (kp : Keep σ σ') : Au bt bo n ct k co HT' HO' OP' σ' :=
  ⟨⟨bs', m⟩, kp.tl.trans a.hn, kp.ol.trans a.hk, kp.wf a.wf⟩
section
variable {βs : Nat} {bt bo : Option Addr} {n ct k co : Nat} {HT HO OP : Heap} {σ : St}
theorem takes_ok {σ' : St} {b m c : Nat} {r r' : Int} (es : List Ev) (cs : List Value) (a : Au bt bo n ct k co HT HO OP σ) (hsm : n ≤ 1000000) (hsk : k ≤ 1000000) (he : evs es = cs) (hm : es.length = m) (hms : m ≤ 1000000) (hF : takesF σ es = (true, σ')) (hr : σ.rel = r) (hr' : σ'.rel = r') :
    SL.T Try.prog 13 [ptr βs, .slice (some ⟨b, 0, none⟩) m c] [specB βs bt bo n ct k co r, HT, HO, OP, blk b (.cells ⟨cs⟩ 37 (0, 0))] fun en w => en = .returned (.bool true) ∧ ∃ HT' HO' OP', w = [specB βs bt bo n ct k co r', HT', HO', OP', blk b (.cells ⟨cs⟩ 37 (0, 0))] ∧ Au bt bo n ct k co HT' HO' OP' σ' := by
  subst hr hr'
  obtain ⟨bs, mo⟩ := a.ex
  haveI : Sl (blk b (.cells ⟨cs⟩ 37 (0, 0))) (some ⟨b, 0, none⟩) (evs es) := by rw [he]; exact Sl.blk
  have kp := takesF_keep (es := es) (σ := σ)
  have h := takes_calls (βs := βs) (be := some ⟨b, 0, none⟩) (EV := blk b (.cells ⟨cs⟩ 37 (0, 0))) (c := c) mo a.hn a.hk hsm hsk a.wf hm hms
  rw [hF] at h kp
  exact h.mono fun en w ⟨h1, HT', HO', OP', bs', h2, h3⟩ => ⟨h1, HT', HO', OP', h2, a.next h3 kp⟩
theorem take_is {σ' : St} {v : Bool} {r r' : Int} (e : Ev) (cs : List Value) (a : Au bt bo n ct k co HT HO OP σ) (hsm : n ≤ 1000000) (hsk : k ≤ 1000000) (he : ecells e = cs) (hF : takeF σ e = (v, σ')) (hr : σ.rel = r) (hr' : σ'.rel = r') :
    SL.T Try.prog 11 [ptr βs, .agg ⟨cs⟩] [specB βs bt bo n ct k co r, HT, HO, OP] fun en w => en = .returned (.bool v) ∧ ∃ HT' HO' OP', w = [specB βs bt bo n ct k co r', HT', HO', OP'] ∧ Au bt bo n ct k co HT' HO' OP' σ' := by
  subst hr hr' he
  obtain ⟨bs, mo⟩ := a.ex
  have kp := takeF_keep (e := e) (σ := σ)
  have h := Take_calls (βs := βs) (e := e) mo a.hn a.hk hsm hsk a.wf
  unfold TakeQ at h
  rw [hF] at h kp
  exact h.mono fun en w ⟨h1, HT', HO', OP', bs', h2, h3⟩ => ⟨h1, HT', HO', OP', h2, a.next h3 kp⟩
theorem seen0_is {r : Int} {v : Bool} (a : Au bt bo n ct k co HT HO OP σ) (hsm : n ≤ 1000000) (hsk : k ≤ 1000000) (h0 : 0 < k) (ow dp : Int) (hr : σ.rel = r) (hv : seenB σ ow dp [] = v) :
    SL.T Try.prog 17 [ptr βs, i64 ow, i64 dp, .slice none 0 0] [specB βs bt bo n ct k co r, HT, HO, OP] fun en w => en = .returned (.bool v) ∧ w = [specB βs bt bo n ct k co r, HT, HO, OP] := by
  subst hr hv
  obtain ⟨bs, mo⟩ := a.ex
  exact seen0_calls mo a.hn a.hk hsm hsk h0 ow dp
theorem seen1_is {r : Int} {b c : Nat} (a : Au bt bo n ct k co HT HO OP σ) (hsm : n ≤ 1000000) (hsk : k ≤ 1000000) (h0 : 0 < k) (hw : wlist [2, 3] 0 0 σ.th = [0]) (ow dp : Int) (hp : σ.ob[0]? = some (ow, dp)) (hr : σ.rel = r) :
    SL.T Try.prog 17 [ptr βs, i64 ow, i64 dp, .slice (some ⟨b, 0, none⟩) 1 c] [specB βs bt bo n ct k co r, HT, HO, OP, blk b (.cells ⟨[i64 0]⟩ 3 (0, 0))] fun en w => en = .returned (.bool true) ∧ w = [specB βs bt bo n ct k co r, HT, HO, OP, blk b (.cells ⟨[i64 0]⟩ 3 (0, 0))] := by
  subst hr
  obtain ⟨bs, mo⟩ := a.ex
  haveI : Sl (blk b (.cells ⟨[i64 0]⟩ 3 (0, 0))) (some ⟨b, 0, none⟩) [i64 0] := Sl.blk
  exact seen1_calls (WH := blk b (.cells ⟨[i64 0]⟩ 3 (0, 0))) mo a.hn a.hk hsm hsk h0 hw hp
end
theorem Au.new {bt bo : Option Addr} {t o : Nat} {HT HO OP : Heap} {bs : List (Option Nat)} (m : MemOk bt bo t o HT HO OP bs (newF t o)) : Au bt bo t t o o HT HO OP (newF t o) :=
  ⟨⟨bs, m⟩, by simp [newF], by simp [newF], newF_wf t o⟩
end Go.Proofs.Ytimmclibnfdjhaa
