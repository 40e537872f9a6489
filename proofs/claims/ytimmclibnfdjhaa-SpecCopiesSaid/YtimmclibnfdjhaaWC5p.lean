/- The automaton is copied. -/
import Derived.Test.YtimmclibnfdjhaaWC3
import Derived.Test.YtimmclibnfdjhaaWD7c
import Derived.Test.YtimmclibnfdjhaaSlG8
import Derived.Test.YtimmclibnfdjhaaWD9
set_option linter.unusedVariables false
set_option linter.unusedSimpArgs false
set_option linter.unusedSectionVars false
section
namespace Go.Proofs.Ytimmclibnfdjhaa
open Go.SL
set_option maxRecDepth 100000
set_option maxHeartbeats 16000000
attribute [local irreducible] SL.T PFn OpV SOL SWP HOp ChU
/-- Calls that are copied, up to a thread. -/
structure CpOk (bs0 bs : List (Option Nat)) (th : List Th) (OP : Heap) (j : Nat) : Prop where
  len : bs.length = th.length
  done_ : ∀ (u : Nat) (x : Th), th[u]? = some x → u < j → ∃ b, bs[u]? = some b ∧ (x.opn = none → b = none) ∧ ∀ o, x.opn = some o → ∃ β, b = some β ∧ OP (.b β) = some (.o (oblk o))
  rest : ∀ u, j ≤ u → bs[u]? = bs0[u]?
  one : ∀ (u v β : Nat), u < j → v < j → bs[u]? = some (some β) → bs[v]? = some (some β) → u = v
theorem CpOk.first {bs0 : List (Option Nat)} {th : List Th} {OP OP' : Heap} (h : OpOk OP bs0 th) : CpOk bs0 bs0 th OP' 0 :=
  ⟨h.len, fun u x _ hu => absurd hu (Nat.not_lt_zero _), fun _ _ => rfl, fun u v β hu => absurd hu (Nat.not_lt_zero _)⟩
theorem CpOk.last {bs0 bs : List (Option Nat)} {th : List Th} {OP : Heap} (h : CpOk bs0 bs th OP th.length) : OpOk OP bs th :=
  ⟨h.len, fun u x hx => h.done_ u x hx (List.getElem?_eq_some_iff.1 hx).1, fun u v β hu hv => h.one u v β (by rw [← h.len]; exact (List.getElem?_eq_some_iff.1 hu).1) (by rw [← h.len]; exact (List.getElem?_eq_some_iff.1 hv).1) hu hv⟩
theorem CpOk.pass {bs0 bs : List (Option Nat)} {th : List Th} {OP : Heap} {j : Nat} {x : Th} (h : CpOk bs0 bs th OP j) (hx : th[j]? = some x) (ho : x.opn = none) (hb : bs[j]? = some none) : CpOk bs0 bs th OP (j + 1) := by
  refine ⟨h.len, fun u y hy hu => ?_, fun u hu => h.rest u (by omega), fun u v β hu hv h1 h2 => ?_⟩
  · by_cases e : u = j
    · subst e
      rw [hx] at hy; cases hy
      exact ⟨none, hb, fun _ => rfl, fun o q => by rw [ho] at q; cases q⟩
    · exact h.done_ u y hy (by omega)
  · have e1 : u ≠ j := fun e => by subst e; rw [hb] at h1; cases h1
    have e2 : v ≠ j := fun e => by subst e; rw [hb] at h2; cases h2
    exact h.one u v β (by omega) (by omega) h1 h2
theorem CpOk.put {bs0 bs : List (Option Nat)} {th : List Th} {OP : Heap} {j β : Nat} {x : Th} {o : Opn} (h : CpOk bs0 bs th OP j) (hx : th[j]? = some x) (ho : x.opn = some o) (d : Disj (blk β (oblk o)) OP) : CpOk bs0 (bs.set j (some β)) th (join (blk β (oblk o)) OP) (j + 1) := by
  have hjl : j < bs.length := by rw [h.len]; exact (List.getElem?_eq_some_iff.1 hx).1
  have hn : ∀ u, u < j → bs[u]? = some (some β) → False := fun u hu hb => by
    have hul : u < th.length := by rw [← h.len]; omega
    obtain ⟨y, hy⟩ : ∃ y, th[u]? = some y := ⟨_, List.getElem?_eq_getElem hul⟩
    obtain ⟨b, g1, g2, g3⟩ := h.done_ u y hy hu
    rw [hb] at g1; cases g1
    cases hq : y.opn with
    | none => have := g2 hq; cases this
    | some q =>
      obtain ⟨β', e, hβ⟩ := g3 q hq
      cases e
      exact d _ _ _ (blk_self _ _) hβ
  refine ⟨by simp [h.len], fun u y hy hu => ?_, fun u hu => by rw [List.getElem?_set_ne (by omega)]; exact h.rest u (by omega), fun u v γ hu hv h1 h2 => ?_⟩
  · by_cases e : u = j
    · subst e
      rw [hx] at hy; cases hy
      refine ⟨some β, List.getElem?_set_self hjl, (fun q => by rw [ho] at q; cases q), fun o' q => ?_⟩
      rw [ho] at q; cases q
      exact ⟨β, rfl, join_left _ _ (blk_self _ _)⟩
    · obtain ⟨b, g1, g2, g3⟩ := h.done_ u y hy (by omega)
      refine ⟨b, by rw [List.getElem?_set_ne (Ne.symm e)]; exact g1, g2, fun o' q => ?_⟩
      obtain ⟨β', e', hβ⟩ := g3 o' q
      exact ⟨β', e', join_right d _ _ hβ⟩
  · by_cases eu : u = j
    · subst eu
      rw [List.getElem?_set_self hjl] at h1
      cases h1
      by_cases ev : v = u
      · exact ev.symm
      · rw [List.getElem?_set_ne (Ne.symm ev)] at h2
        exact (hn v (by omega) h2).elim
    · rw [List.getElem?_set_ne (Ne.symm eu)] at h1
      by_cases ev : v = j
      · subst ev
        rw [List.getElem?_set_self hjl] at h2
        cases h2
        exact (hn u (by omega) h1).elim
      · rw [List.getElem?_set_ne (Ne.symm ev)] at h2
        exact h.one u v γ (by omega) (by omega) h1 h2
structure CC where
  j : Nat
  HT : Heap
  OP : Heap
  bs : List (Option Nat)
section
variable {βs : Nat} {bt bo : Option Addr} {n ct k co : Nat} {HT HO OP : Heap} {σ : St}
theorem copy_calls {r : Int} (a : Au bt bo n ct k co HT HO OP σ) (hsm : n ≤ 1000000) (hsk : k ≤ 1000000) (h0n : 0 < n) (h0k : 0 < k) (hr : σ.rel = r) :
    SL.T Try.prog 19 [ptr βs] [specB βs bt bo n ct k co r, HT, HO, OP] fun en w => ∃ βc bt' bo' ct' co' HT' HO' OP', en = .returned (ptr βc) ∧ w = [specB βs bt bo n ct k co r, HT, HO, OP, specB βc bt' bo' n ct' k co' r, HT', HO', OP'] ∧ Au bt' bo' n ct' k co' HT' HO' OP' σ := by
  obtain ⟨⟨bs, m⟩, hn, hk, wf⟩ := a
  obtain ⟨a1, rfl⟩ := m.nT.ex
  obtain ⟨a2, rfl⟩ := m.nO.ex
  have osT := m.hT
  have osO := m.hO
  rw [hn] at osT
  rw [hk] at osO
  have hcT := cloneT_calls osT (thCells_one _ _) h0n hsm
  have hcO := cloneO_calls osO (obCells_one _) h0k hsk
  refine t_of_body Try.func19 rfl (Nat.le_of_ble_eq_true rfl) fun F => ?_
  repeat' (first
    | refine swp_seq ?_
    | (refine gk 0 rfl ?_; first | refine sl_op rfl rfl rfl (by first | exact opv_move rfl rfl | exact opv_assign rfl rfl ) ?_ )
    | (refine gk 2 rfl ?_; first | refine sl_op rfl rfl rfl (by first | exact opv_ptrEql rfl rfl ) ?_ )
    | refine sl_region rfl ?_
    | refine sl_nil ?_
    | refine thn_k ?_
    | refine swp_false rfl ?_
    | refine swp_skip ?_
    )
  refine sl_drawC [.q [0, 1, 2, 3, 5, 6, 7, 8, 10, 11, 12, 13], .h false 4, .h false 9, .q [14], .an 15, .rv 15, .q [16]] [] (by kernel_rfl) (by kernel_rfl) (by kernel_rfl) (by kernel_rfl) ?_
  repeat' (first
    | refine swp_seq ?_
    | (refine gk 0 rfl ?_; first | refine sl_op rfl rfl rfl (by first | exact opv_move rfl rfl | exact opv_assign rfl rfl ) ?_ )
    | (refine gk 3 rfl ?_; first | refine sl_op rfl rfl rfl (by first | exact opv_load rfl (by exact rfl) rfl (by exact rfl) | exact opv_fieldAddr rfl rfl ) ?_ )
    | (refine gk 4 rfl ?_; first | refine sl_op rfl rfl rfl (by first | exact opv_len rfl rfl rfl rfl rfl ) ?_ )
    | (refine gk 5 rfl ?_; first | refine sl_op rfl rfl rfl (by first | exact opv_nilCheck rfl rfl | exact opv_build rfl rfl (by exact rfl) ) ?_ )
    | refine sl_region rfl ?_
    | refine chu_nil ?_
    | refine chu_q rfl ?_
    | refine chu_new rfl rfl (by first | exact new_box rfl rfl rfl ) ?_
    | refine chu_rv rfl rfl rfl (fun β => ?_)
    | (refine chu_T rfl rfl rfl rfl rfl rfl rfl rfl (hcT) (by rintro _ _ ⟨bt', ct', HT', rfl, rfl, osT'⟩; exact ⟨_, rfl⟩) ?_; rintro _ _ ⟨bt', ct', HT', rfl, rfl, osT'⟩; refine ⟨_, _, rfl, rfl, ?_⟩)
    | (refine chu_T rfl rfl rfl rfl rfl rfl rfl rfl (hcO) (by rintro _ _ ⟨bo', co', HO', rfl, rfl, osO'⟩; exact ⟨_, rfl⟩) ?_; rintro _ _ ⟨bo', co', HO', rfl, rfl, osO'⟩; refine ⟨_, _, rfl, rfl, ?_⟩)
    | refine sl_nil ?_
    | refine thn_k ?_
    | refine swp_block ?_
    )
  haveI nT' := NN.of_OS osT' h0n
  haveI nO' := NN.of_OS osO' h0k
  generalize β = βc
  refine swp_emp ?_
  refine swp_loopD (fun s : CC => [(3, ptr βc), (28, .slice bt' n ct'), (29, i64 (n : Int)), (30, i64 (s.j : Int))])
    (fun s => [s.OP, specB βs (some a1) (some a2) n ct k co r, HT, HO, OP, specB βc bt' bo' n ct' k co' r, s.HT, HO'])
    (fun s => s.j ≤ n ∧ OS s.HT bt' n ct' 73 3 (thCells s.bs σ.th) ∧ CpOk bs s.bs σ.th s.OP s.j)
    (fun s => n - s.j) ⟨0, HT', emp, bs⟩ (by repeat first | exact Sub.nil _ | refine Sub.cons rfl ?_) ⟨Nat.zero_le _, osT', CpOk.first m.op⟩ ?_
  clear osT' HT'
  rintro ⟨j, HT1, OP1, bs1⟩ ⟨hj, osT1, cp⟩
  dsimp only at hj osT1 cp ⊢
  haveI slT1 := osT1.sl
  have hlen := thCells_length bs1 σ.th cp.len
  by_cases hj2 : j < n
  · obtain ⟨x, hx⟩ : ∃ z, σ.th[j]? = some z := ⟨_, List.getElem?_eq_getElem (by omega)⟩
    obtain ⟨b, g1, g2, g3⟩ := m.op.at_ j x hx
    have hb : bs1[j]? = some b := by rw [cp.rest j (Nat.le_refl _)]; exact g1
    obtain ⟨c1, c2, c3⟩ := thCells_at hb hx
    have hcl : ((j : Nat) : Int).toNat * 3 < (thCells bs1 σ.th).length := by simp; omega
    have hc2 : (thCells bs1 σ.th)[((j : Nat) : Int).toNat * 3 + 1]? = some (i64 x.calls) := c2
    have hc3 : (thCells bs1 σ.th)[((j : Nat) : Int).toNat * 3 + 2]? = some (.bool x.flag) := c3
    cases ho : x.opn with
    | none =>
      obtain rfl := g2 ho
      have hc1 : (thCells bs1 σ.th)[((j : Nat) : Int).toNat * 3]? = some (.pointer none) := c1
      repeat' (first
        | refine swp_seq ?_
        | (refine gk 0 rfl ?_; first | refine sl_op rfl rfl rfl (by first | exact opv_move rfl rfl | exact opv_assign rfl rfl ) ?_ )
        | (refine gk 1 rfl ?_; first | refine sl_op rfl rfl rfl (by first | exact opv_add64 rfl rfl rfl (by omega) (by omega) ) ?_ )
        | (refine gk 2 rfl ?_; first | refine sl_yes rfl rfl rfl (by first | exact opv_lss rfl rfl rfl ) (by first | omega ) ?_ | refine sl_op rfl rfl rfl (by first | exact opv_ptrNeq rfl rfl) ?_ )
        | (refine gk 3 rfl ?_; first | refine sl_op rfl rfl rfl (by first | exact opv_load rfl (by exact rfl) rfl (by exact rfl) | exact opv_fieldAddr rfl rfl | exact opv_indexAddrI rfl rfl rfl (by omega) (by omega) (by first | omega ) | exact opv_load3 rfl (by exact rfl) (by infer_instance) (by assumption) (by assumption) (by assumption)) ?_ )
        | (refine gk 5 rfl ?_; first | refine sl_alloc rfl rfl rfl rfl (by exact rfl) (fun β => ?_) | refine sl_store rfl rfl rfl rfl rfl rfl (by exact rfl) rfl (by exact rfl) ?_)
        | refine sl_region rfl ?_
        | refine sl_nil ?_
        | refine thn_k ?_
        | refine swp_true rfl ?_
        | refine swp_false rfl ?_
        | refine swp_block ?_
        | refine swp_skip ?_
        )
      exact fun _ => ⟨rfl, ⟨j + 1, HT1, OP1, bs1⟩, next_ok (by repeat first | exact Sub.nil _ | refine Sub.cons rfl ?_), ⟨by dsimp only; omega, osT1, cp.pass hx ho hb⟩, by dsimp only; omega⟩
    | some o =>
      obtain ⟨β, rfl, hβ⟩ := g3 o ho
      haveI : InH OP β (oblk o) := ⟨hβ⟩
      have hc1 : (thCells bs1 σ.th)[((j : Nat) : Int).toNat * 3]? = some (ptr β) := c1
      have hpc := fun β6 => ptr_cells (bs := bs1) (th := σ.th) (t := j) (some β6) cp.len (by omega)
      repeat' (first
        | refine sl_storeE rfl rfl rfl rfl rfl osT1 rfl rfl rfl (Nat.succ_pos _) (by simp; omega) (hpc _) (fun HT2 osT2 => ?_)
        | refine swp_seq ?_
        | (refine gk 0 rfl ?_; first | refine sl_op rfl rfl rfl (by first | exact opv_move rfl rfl | exact opv_assign rfl rfl ) ?_ )
        | (refine gk 1 rfl ?_; first | refine sl_op rfl rfl rfl (by first | exact opv_add64 rfl rfl rfl (by omega) (by omega) ) ?_ )
        | (refine gk 2 rfl ?_; first | refine sl_yes rfl rfl rfl (by first | exact opv_lss rfl rfl rfl ) (by first | omega ) ?_ | refine sl_op rfl rfl rfl (by first | exact opv_ptrNeq rfl rfl) ?_ )
        | (refine gk 3 rfl ?_; first | refine sl_op rfl rfl rfl (by first | exact opv_load rfl (by exact rfl) rfl (by exact rfl) | exact opv_fieldAddr rfl rfl | exact opv_loadA rfl (by exact rfl) rfl (by exact rfl) (by exact rfl) | exact opv_indexAddrI rfl rfl rfl (by omega) (by omega) (by first | omega ) | exact opv_fieldAddrE rfl rfl (by first | assumption ) | exact opv_load3 rfl (by exact rfl) (by infer_instance) (by assumption) (by assumption) (by assumption)) ?_ )
        | (refine gk 5 rfl ?_; first | refine sl_op rfl rfl rfl (by first | exact opv_nilCheck rfl rfl ) ?_ | refine sl_alloc rfl rfl rfl rfl (by exact rfl) (fun β => ?_) | refine sl_store rfl rfl rfl rfl rfl rfl (by exact rfl) rfl (by exact rfl) ?_)
        | refine sl_region rfl ?_
        | refine sl_nil ?_
        | refine thn_k ?_
        | refine swp_true rfl ?_
        | refine swp_block ?_
        | refine swp_skip ?_
        )
      intro hdj
      have d : Disj (blk β (oblk o)) OP1 := disj_of (h := blk β (oblk o)) (k := OP1) hdj
      exact ⟨rfl, ⟨j + 1, HT2, join (blk β (oblk o)) OP1, bs1.set j (some β)⟩, next_join (by repeat first | exact Sub.nil _ | refine Sub.cons rfl ?_), ⟨by dsimp only; omega, osT2, cp.put hx ho d⟩, by dsimp only; omega⟩
  · obtain hj3 : j = σ.th.length := by omega
    subst hj3
    repeat' (first
      | refine swp_seq ?_
      | (refine gk 0 rfl ?_; first | refine sl_op rfl rfl rfl (by first | exact opv_move rfl rfl | exact opv_assign rfl rfl ) ?_ )
      | (refine gk 2 rfl ?_; first | refine sl_no rfl rfl rfl (by first | exact opv_lss rfl rfl rfl ) (by first | omega ) ?_ )
      | refine sl_region rfl ?_
      | refine sl_nil ?_
      | refine thn_k ?_
      | refine swp_false rfl ?_
      | refine swp_ret ?_
      | refine swp_exit ?_
      )
    exact end_retL [specB βs (some a1) (some a2) n ct k co r, HT, HO, OP, specB βc bt' bo' n ct' k co' r, HT1, HO', OP1] (resOk_one (resV_tmp rfl)) ⟨βc, bt', bo', ct', co', HT1, HO', OP1, rfl, rfl, ⟨bs1, ⟨by rw [hn]; exact osT1, by rw [hk]; exact osO', cp.last, nT', nO'⟩⟩, hn, hk, wf⟩
end
end Go.Proofs.Ytimmclibnfdjhaa
end
section
/- What is refused changes nothing; beginnings; rows of events in memory. -/
namespace Go.Proofs.Ytimmclibnfdjhaa
open Go.SL
theorem notifyF_no {σ : St} {t k : Nat} {o : Opn} {ow dp : Int} {e : Ev} {owns : Bool} (h : (notifyF σ t k o ow dp e owns).1 = false) : (notifyF σ t k o ow dp e owns).2 = σ := by
  revert h
  unfold notifyF
  (repeat' split) <;> first | exact fun _ => rfl | exact fun h => by cases h
theorem waitF_no {σ : St} {t k : Nat} {o : Opn} {ow dp : Int} {f : Bool} {e : Ev} {owns : Bool} (h : (waitF σ t k o ow dp f e owns).1 = false) : (waitF σ t k o ow dp f e owns).2 = σ := by
  revert h
  unfold waitF
  (repeat' split) <;> first | exact fun _ => rfl | exact fun h => by cases h
theorem stepF_no {σ : St} {t k : Nat} {o : Opn} {ow dp : Int} {f : Bool} {e : Ev} {owns : Bool} (h : (stepF σ t k o ow dp f e owns).1 = false) : (stepF σ t k o ow dp f e owns).2 = σ := by
  revert h
  unfold stepF
  split
  · unfold enterF; (repeat' split) <;> first | exact fun _ => rfl | exact fun h => by cases h
  split
  · unfold exitF
    split
    · exact fun h => by cases h
    · (repeat' split) <;> first | exact fun _ => rfl | exact fun h => by cases h
  split
  · exact waitF_no
  split
  · exact notifyF_no
  split
  · unfold interruptF; (repeat' split) <;> first | exact fun _ => rfl | exact fun h => by cases h
  split
  · unfold holdsF; (repeat' split) <;> first | exact fun _ => rfl | exact fun h => by cases h
  split
  · unfold nothingF; (repeat' split) <;> first | exact fun _ => rfl | exact fun h => by cases h
  · exact fun _ => rfl
theorem actF_no {σ : St} {e : Ev} (h : (actF σ e).1 = false) : (actF σ e).2 = σ := by
  revert h
  unfold actF
  split
  · exact fun _ => rfl
  split
  · exact fun _ => rfl
  split
  · exact fun _ => rfl
  split
  · exact fun _ => rfl
  · exact stepF_no
theorem takeF_no {σ : St} {e : Ev} (h : (takeF σ e).1 = false) : (takeF σ e).2 = σ := by
  revert h
  unfold takeF
  split
  · exact fun _ => rfl
  split
  · exact fun _ => rfl
  split
  · split
    · exact fun _ => rfl
    · exact fun h => by cases h
  split
  · exact actF_no
  split
  · split
    · exact fun _ => rfl
    split
    · exact fun _ => rfl
    · exact fun h => by cases h
  · exact fun _ => rfl
theorem takesF_append : ∀ {l1 l2 : List Ev} {σ : St}, (takesF σ (l1 ++ l2)).1 = true → (takesF σ l1).1 = true ∧ takesF (takesF σ l1).2 l2 = takesF σ (l1 ++ l2)
  | [], l2, σ, _ => ⟨rfl, rfl⟩
  | e :: l1, l2, σ, h => by
    simp only [List.cons_append, takesF] at h ⊢
    split at h
    · rename_i he
      simp only [if_pos he]
      exact takesF_append h
    · cases h
theorem evs_append (l1 l2 : List Ev) : evs (l1 ++ l2) = evs l1 ++ evs l2 := by simp [evs]
theorem evs_take (es : List Ev) (k : Nat) (hk : k ≤ es.length) : evs (es.take k) = (evs es).take (k * 8) := by
  have e : evs es = evs (es.take k) ++ evs (es.drop k) := by rw [← evs_append, List.take_append_drop]
  have hl : (evs (es.take k)).length = k * 8 := by rw [evs_length, List.length_take]; omega
  rw [e, ← hl, List.take_left']
  rfl
theorem evs_drop (es : List Ev) (k : Nat) (hk : k ≤ es.length) : evs (es.drop k) = (evs es).drop (k * 8) := by
  have e : evs es = evs (es.take k) ++ evs (es.drop k) := by rw [← evs_append, List.take_append_drop]
  have hl : (evs (es.take k)).length = k * 8 := by rw [evs_length, List.length_take]; omega
  rw [e, ← hl, List.drop_left']
  rfl
section
variable {βs : Nat} {bt bo : Option Addr} {n ct k co : Nat} {HT HO OP EV : Heap} {σ σ' : St}
theorem takes_any {be : Option Addr} {m c : Nat} {r r' : Int} (es : List Ev) (sl : Sl EV be (evs es)) (a : Au bt bo n ct k co HT HO OP σ) (hsm : n ≤ 1000000) (hsk : k ≤ 1000000) (hm : es.length = m) (hms : m ≤ 1000000) (hF : takesF σ es = (true, σ')) (hr : σ.rel = r) (hr' : σ'.rel = r') :
    SL.T Try.prog 13 [ptr βs, .slice be m c] [specB βs bt bo n ct k co r, HT, HO, OP, EV] fun en w => en = .returned (.bool true) ∧ ∃ HT' HO' OP', w = [specB βs bt bo n ct k co r', HT', HO', OP', EV] ∧ Au bt bo n ct k co HT' HO' OP' σ' := by
  subst hr hr'
  obtain ⟨bs, mo⟩ := a.ex
  have kp := takesF_keep (es := es) (σ := σ)
  have h := takes_calls (βs := βs) (be := be) (EV := EV) (c := c) mo a.hn a.hk hsm hsk a.wf hm hms
  rw [hF] at h kp
  exact h.mono fun en w ⟨h1, HT', HO', OP', bs', h2, h3⟩ => ⟨h1, HT', HO', OP', h2, a.next h3 kp⟩
end
theorem take_kind7 {σ : St} (h : 0 < σ.th.length) : takeF σ ⟨7, 0, 0, 0, 0, 0, 0, 0⟩ = (false, σ) := by
  unfold takeF
  rw [if_neg (fun q => q ⟨Int.le_refl 0, by show (0 : Int) < (σ.th.length : Int); omega⟩)]
  have hx : σ.th[(0 : Int).toNat]? = some σ.th[0] := List.getElem?_eq_getElem h
  dsimp only
  rw [hx]
  dsimp only
  rw [if_neg (by decide), if_neg (by decide), if_neg (by decide)]
theorem take_neg {σ : St} : takeF σ ⟨0, -1, 0, 0, 0, 0, 0, 0⟩ = (false, σ) := by
  unfold takeF
  rw [if_pos (by simp)]
theorem take_far {σ : St} {n : Nat} (h : σ.th.length = n) : takeF σ ⟨0, (n : Int), 0, 0, 0, 0, 0, 0⟩ = (false, σ) := by
  unfold takeF
  rw [if_pos (by simp; omega)]
end Go.Proofs.Ytimmclibnfdjhaa
end
