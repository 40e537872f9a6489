/- The run of SpecWakes: what each step makes. -/
import Derived.Test.YtimmclibnfdjhaaWW1
import Derived.Test.YtimmclibnfdjhaaWB20
namespace Go.Proofs.Ytimmclibnfdjhaa
open Go.SL
theorem mem_wlist (fars : List Int) (o : Int) : ∀ (ts : List Th) (j u : Nat) (t : Th), ts[u]? = some t → waitsB fars o t = true → j + u ∈ wlist fars o j ts
  | [], _, _, _, h, _ => by simp at h
  | x :: ts, j, 0, t, h, hw => by
    simp at h; subst h
    simp only [wlist, hw, if_true, Nat.add_zero]
    exact List.mem_cons_self ..
  | x :: ts, j, u + 1, t, h, hw => by
    have ih := mem_wlist fars o ts (j + 1) u t (by simpa using h) hw
    rw [show j + (u + 1) = j + 1 + u by omega]
    simp only [wlist]
    split
    · exact List.mem_cons_of_mem _ ih
    · exact ih
theorem longG_min (th : List Th) (v : Nat) : ∀ (l : List Nat) (f : Int), (f < 0 ∨ f = (v : Int) ∨ (0 ≤ f ∧ sinceOf th v < sinceOf th f.toNat)) → (v ∈ l ∨ f = (v : Int)) → (∀ u ∈ l, u ≠ v → sinceOf th v < sinceOf th u) → longG th l f = (v : Int)
  | [], f, _, h, _ => by
    rcases h with h | h
    · cases h
    · exact h
  | w :: l, f, h1, h2, h3 => by
    simp only [longG]
    have h3' : ∀ u ∈ l, u ≠ v → sinceOf th v < sinceOf th u := fun u hu => h3 u (List.mem_cons_of_mem _ hu)
    by_cases hw : w = v
    · subst hw
      have e : (if f < 0 ∨ sinceOf th w < sinceOf th f.toNat then (w : Int) else f) = (w : Int) := by
        rcases h1 with h1 | rfl | ⟨h0, h1⟩
        · rw [if_pos (.inl h1)]
        · rw [if_neg (by rw [Int.toNat_natCast]; omega)]
        · rw [if_pos (.inr h1)]
      rw [e]
      exact longG_min th w l _ (.inr (.inl rfl)) (.inr rfl) h3'
    · have hv := h3 w (List.mem_cons_self ..) hw
      rcases h1 with h1 | rfl | ⟨h0, h1⟩
      · rw [if_pos (.inl h1)]
        refine longG_min th v l _ (.inr (.inr ⟨by omega, by rw [Int.toNat_natCast]; exact hv⟩)) ?_ h3'
        rcases h2 with h2 | rfl
        · rcases List.mem_cons.1 h2 with rfl | h2
          · exact (hw rfl).elim
          · exact .inl h2
        · omega
      · rw [if_neg (by rw [Int.toNat_natCast]; omega)]
        exact longG_min th v l _ (.inr (.inl rfl)) (.inr rfl) h3'
      · have hl : v ∈ l := by
          rcases h2 with h2 | rfl
          · rcases List.mem_cons.1 h2 with rfl | h2
            · exact (hw rfl).elim
            · exact h2
          · rw [Int.toNat_natCast] at h1; omega
        split
        · exact longG_min th v l _ (.inr (.inr ⟨by omega, by rw [Int.toNat_natCast]; exact hv⟩)) (.inl hl) h3'
        · exact longG_min th v l _ (.inr (.inr ⟨h0, h1⟩)) (.inl hl) h3'
theorem wlist_S7 {f : Nat → Th} {p : Int × Int} {r : Int} {fars : List Int} {o : Int} (h : ∀ u, u < 7 → waitsB fars o (f u) = false) : wlist fars o 0 (S7 f p r).th = [] := by
  cases hl : wlist fars o 0 (S7 f p r).th with
  | nil => rfl
  | cons u l =>
    obtain ⟨-, t, h1, h2⟩ := wlist_mem fars o (S7 f p r).th 0 u (by rw [hl]; exact List.mem_cons_self ..)
    rw [Nat.sub_zero] at h1
    by_cases hu : u < 7
    · rw [S7_at hu] at h1; cases h1
      rw [h u hu] at h2; cases h2
    · rw [List.getElem?_eq_none (by rw [S7_len]; omega)] at h1; cases h1
theorem longF_none {f : Nat → Th} {p : Int × Int} {r : Int} {o : Int} (h : ∀ u, u < 7 → waitsB [2] o (f u) = false) : longF (S7 f p r).th o = -1 := by
  unfold longF
  rw [wlist_S7 h]
  rfl
theorem sinceOf_S7 {f : Nat → Th} {p : Int × Int} {r : Int} {u : Nat} {c : Int} {b : Bool} {o : Opn} (hu : u < 7) (h : f u = ⟨some o, c, b⟩) : sinceOf (S7 f p r).th u = o.since := by
  unfold sinceOf
  rw [S7_at hu, h]
theorem longF_is {f : Nat → Th} {p : Int × Int} {r : Int} {o : Int} {v : Nat} (hv : v < 7) (hw : waitsB [2] o (f v) = true) (h : ∀ u, u < 7 → u ≠ v → waitsB [2] o (f u) = true → sinceOf (S7 f p r).th v < sinceOf (S7 f p r).th u) : longF (S7 f p r).th o = (v : Int) := by
  unfold longF
  refine longG_min _ v _ _ (.inl (by decide)) (.inl ?_) fun u hu hne => ?_
  · have := mem_wlist [2] o (S7 f p r).th 0 v _ (S7_at hv) hw
    rwa [Nat.zero_add] at this
  · obtain ⟨-, t, h1, h2⟩ := wlist_mem [2] o (S7 f p r).th 0 u hu
    rw [Nat.sub_zero] at h1
    by_cases hu : u < 7
    · rw [S7_at hu] at h1; cases h1
      exact h u hu hne h2
    · rw [List.getElem?_eq_none (by rw [S7_len]; omega)] at h1; cases h1
section
variable {D : Nat → Nat} {od : List Nat}
/-- While they come to wait. -/
def f1 (D : Nat → Nat) (od : List Nat) (u : Nat) : Th :=
  if u ∈ od then ⟨some (waitO 2 ((D u : Int) + 1) ((od.idxOf u : Int) + 1)), (D u : Int) + 2, false⟩ else ⟨none, 0, false⟩
def St1 (D : Nat → Nat) (od : List Nat) : St := S7 (f1 D od) (-1, 0) (od.length : Int)
def St1k (D : Nat → Nat) (od : List Nat) (t k : Nat) : St := S7 (up (f1 D od) t ⟨none, (k : Int), false⟩) (if k = 0 then -1 else (t : Int), (k : Int)) (od.length : Int)
theorem st1_0 {t : Nat} (h : t ∉ od) : St1k D od t 0 = St1 D od := by
  unfold St1k St1
  refine S7_congr fun u _ => ?_
  by_cases e : u = t
  · subst e; rw [up_self, f1, if_neg h]; rfl
  · rw [up_ne e]
theorem newF_S7 : newF 7 1 = St1 D [] := by
  unfold newF St1 S7
  have : (List.range 7).map (f1 D []) = List.replicate 7 ⟨none, 0, false⟩ := by rfl
  rw [this]; rfl
theorem p1_enter {t k : Nat} (ht : t < 6) (hk : k ≤ 10) : takesF (St1k D od t k) [Ev.call t k 0 0, Ev.act' t 0 0, Ev.back t k 0 0] = (true, St1k D od t (k + 1)) := by
  unfold St1k
  rw [takes_enter (by omega) (up_self ..) (by omega) (by omega) (by split <;> omega) (by omega) (by omega)]
  rw [up_up, takesF, if_neg (Nat.succ_ne_zero k)]
  rfl
theorem p1_wait {t : Nat} (ht : t < 6) (hd : D t ≤ 10) (hl : od.length ≤ 10) (hn : t ∉ od) : takesF (St1k D od t (D t + 1)) [Ev.call t ((D t : Int) + 1) 2 0, Ev.act' t 2 0] = (true, St1 D (od ++ [t])) := by
  unfold St1k St1
  rw [if_neg (Nat.succ_ne_zero _)]
  have e : ((D t + 1 : Nat) : Int) = (D t : Int) + 1 := rfl
  rw [e, takes_wait (by omega) (up_self ..) (by omega) (by omega) (by omega) (by omega), up_up, takesF]
  have e2 : ((od ++ [t]).length : Int) = (od.length : Int) + 1 := by simp
  rw [e2]
  refine congrArg (Prod.mk true) (S7_congr fun u _ => ?_)
  by_cases hu : u = t
  · subst hu
    rw [up_self, f1, if_pos (by simp), List.idxOf_append, if_neg hn]
    simp only [List.idxOf_cons_self, Nat.add_zero, Nat.zero_add, Int.add_assoc]
    rfl
  · rw [up_ne hu, f1, f1]
    by_cases hm : u ∈ od
    · rw [if_pos hm, if_pos (by simp [hm]), List.idxOf_append, if_pos hm]
    · rw [if_neg hm, if_neg (by simp [hm, hu])]
/-- While they are woken. -/
def f2 (D : Nat → Nat) (od : List Nat) (i u : Nat) : Th :=
  if u = 6 then ⟨some ⟨5, 0, 0, if i = 0 then 0 else 1, 0, 0, 0, 0⟩, 2, false⟩
  else if u ∈ od then ⟨some (waitO (if od.idxOf u < i then 4 else 2) ((D u : Int) + 1) ((od.idxOf u : Int) + 1)), (D u : Int) + 2, false⟩ else ⟨none, 0, false⟩
def St2 (D : Nat → Nat) (od : List Nat) (i : Nat) : St := S7 (f2 D od i) (6, 1) (od.length : Int)
theorem p2_start (h6 : 6 ∉ od) : takesF (St1 D od) [Ev.call 6 0 0 0, Ev.act' 6 0 0, Ev.back 6 0 0 0, Ev.call 6 1 5 0] = (true, St2 D od 0) := by
  unfold St1
  have hf : f1 D od 6 = ⟨none, 0, false⟩ := if_neg h6
  have e := takes_enter (f := f1 D od) (t := 6) (r := (od.length : Int)) (by decide) hf (by decide) (by decide) (ow := -1) (dp := 0) (.inr (by decide)) (by decide) (by decide) [Ev.call 6 1 5 0]
  refine e.trans ?_
  have e2 := take_call (f := up (f1 D od) 6 ⟨none, 0 + 1, false⟩) (t := 6) (p := (6, 0 + 1)) (r := (od.length : Int)) (by decide) (up_self ..) 5 0
  refine (takes_cons e2).trans ?_
  rw [up_up, takesF]
  unfold St2
  refine congrArg (Prod.mk true) (S7_congr fun u _ => ?_)
  by_cases hu : u = 6
  · subst hu; rw [up_self]; rfl
  · rw [up_ne hu, f1, f2, if_neg hu]
    simp
variable (hnd : od.Nodup) (hlt : ∀ u ∈ od, u < 6)
include hnd in
theorem idx_at {i v : Nat} (h : od[i]? = some v) : v ∈ od ∧ od.idxOf v = i := by
  obtain ⟨hi, rfl⟩ := List.getElem?_eq_some_iff.1 h
  exact ⟨List.getElem_mem hi, List.Nodup.idxOf_getElem hnd i hi⟩
include hnd hlt in
theorem long2 {i v : Nat} (h : od[i]? = some v) : longF (St2 D od i).th 0 = (v : Int) := by
  obtain ⟨hm, hi⟩ := idx_at hnd h
  have hv := hlt v hm
  have hfv : f2 D od i v = ⟨some (waitO 2 ((D v : Int) + 1) ((i : Int) + 1)), (D v : Int) + 2, false⟩ := by
    rw [f2, if_neg (by omega), if_pos hm, hi, if_neg (Nat.lt_irrefl i)]
  unfold St2
  refine longF_is (by omega) (by rw [hfv]; rfl) fun u hu hne hw => ?_
  rw [sinceOf_S7 (by omega) hfv]
  by_cases h6 : u = 6
  · subst h6
    rw [f2, if_pos rfl] at hw
    unfold waitsB at hw
    dsimp only at hw
    split at hw <;> cases hw
  · by_cases hmu : u ∈ od
    · have hfu : f2 D od i u = ⟨some (waitO (if od.idxOf u < i then 4 else 2) ((D u : Int) + 1) ((od.idxOf u : Int) + 1)), (D u : Int) + 2, false⟩ := by
        rw [f2, if_neg h6, if_pos hmu]
      rw [sinceOf_S7 hu hfu]
      rw [hfu] at hw
      have hge : ¬ od.idxOf u < i := fun hlt' => by
        rw [if_pos hlt'] at hw; cases hw
      have hneq : od.idxOf u ≠ i := fun he => by
        have h1 := List.getElem?_eq_some_iff.1 h
        obtain ⟨h1, h2⟩ := h1
        have h3 : od[od.idxOf u]'(List.idxOf_lt_length_of_mem hmu) = u := List.getElem_idxOf (List.idxOf_lt_length_of_mem hmu)
        apply hne
        rw [← h3, ← h2]
        congr 1
      dsimp only
      omega
    · rw [f2, if_neg h6, if_neg hmu] at hw; cases hw
theorem long2_none {i : Nat} (hall : ∀ u ∈ od, od.idxOf u < i) (hi : 0 < i) : longF (St2 D od i).th 0 = -1 := by
  unfold St2
  refine longF_none fun u hu => ?_
  by_cases h6 : u = 6
  · subst h6
    rw [f2, if_pos rfl, if_neg (by omega)]; rfl
  · by_cases hmu : u ∈ od
    · rw [f2, if_neg h6, if_pos hmu, if_pos (hall u hmu)]; rfl
    · rw [f2, if_neg h6, if_neg hmu]; rfl
include hnd hlt in
theorem p2_no {i v : Nat} {z : Int} (h : od[i]? = some v) (hz : z ≠ v) : takeF (St2 D od i) (Ev.act' 6 3 z) = (false, St2 D od i) := by
  have hl := long2 (D := D) hnd hlt h
  have hf : f2 D od i 6 = ⟨some ⟨5, 0, 0, if i = 0 then 0 else 1, 0, 0, 0, 0⟩, 2, false⟩ := if_pos rfl
  have e := take_act (f := f2 D od i) (p := (6, 1)) (r := (od.length : Int)) (t := 6) (by first | decide | (dsimp only; decide)) hf rfl (by first | decide | (dsimp only; decide)) (by first | decide | (dsimp only; decide)) (by first | decide | (dsimp only; decide)) (by dsimp only; split <;> decide) 3 z
  refine e.trans ?_
  unfold stepF
  rw [if_neg (by first | decide | (dsimp only; decide)), if_neg (by first | decide | (dsimp only; decide)), if_neg (by simp), if_pos (.inr rfl)]
  unfold notifyF
  rw [if_neg, if_neg]
  · rfl
  · unfold refB; simp [Ev.act']
  · rintro ⟨-, -, h3⟩
    exact hz (h3.trans hl)
include hnd hlt in
theorem p2_yes {i v : Nat} (h : od[i]? = some v) : takeF (St2 D od i) (Ev.act' 6 3 v) = (true, St2 D od (i + 1)) := by
  have hl := long2 (D := D) hnd hlt h
  obtain ⟨hm, hi⟩ := idx_at hnd h
  have hv := hlt v hm
  have hf : f2 D od i 6 = ⟨some ⟨5, 0, 0, if i = 0 then 0 else 1, 0, 0, 0, 0⟩, 2, false⟩ := if_pos rfl
  have hfv : f2 D od i v = ⟨some (waitO 2 ((D v : Int) + 1) ((i : Int) + 1)), (D v : Int) + 2, false⟩ := by
    rw [f2, if_neg (by omega), if_pos hm, hi, if_neg (Nat.lt_irrefl i)]
  have e := take_act (f := f2 D od i) (p := (6, 1)) (r := (od.length : Int)) (t := 6) (by first | decide | (dsimp only; decide)) hf rfl (by first | decide | (dsimp only; decide)) (by first | decide | (dsimp only; decide)) (by first | decide | (dsimp only; decide)) (by dsimp only; split <;> decide) 3 v
  refine e.trans ?_
  unfold stepF
  rw [if_neg (by first | decide | (dsimp only; decide)), if_neg (by first | decide | (dsimp only; decide)), if_neg (by simp), if_pos (.inr rfl)]
  unfold notifyF
  rw [if_pos ⟨rfl, by decide, hl.symm⟩, if_neg (by simp [Ev.act']), if_neg (by first | decide | (dsimp only; decide))]
  have e1 : (Ev.act' (6 : Int) 3 v).other.toNat = v := by simp [Ev.act']
  have e2 : (S7 (f2 D od i) (6, 1) (od.length : Int)).opnOf v = waitO 2 ((D v : Int) + 1) ((i : Int) + 1) := by
    unfold St.opnOf
    rw [S7_at (by omega), hfv]
    rfl
  have e3 : up (f2 D od i) v ⟨some (waitO 4 ((D v : Int) + 1) ((i : Int) + 1)), (D v : Int) + 2, false⟩ 6 = ⟨some ⟨5, 0, 0, if i = 0 then 0 else 1, 0, 0, 0, 0⟩, 2, false⟩ := by
    rw [up_ne (by omega), hf]
  refine congrArg (Prod.mk true) ?_
  show ((S7 (f2 D od i) (6, 1) (od.length : Int)).opn (Ev.act' (6 : Int) 3 v).other.toNat (woken ((S7 (f2 D od i) (6, 1) (od.length : Int)).opnOf (Ev.act' (6 : Int) 3 v).other.toNat))).opn 6 _ = _
  rw [e1, e2]
  have e4 := S7_opn (p := (6, 1)) (r := (od.length : Int)) (o := waitO 4 ((D v : Int) + 1) ((i : Int) + 1)) hfv
  refine (congrArg (fun s => St.opn s 6 _) e4).trans ?_
  refine (S7_opn e3).trans ?_
  unfold St2
  refine S7_congr fun u hu => ?_
  by_cases h6 : u = 6
  · subst h6
    rw [up_self, f2, if_pos rfl, if_neg (Nat.succ_ne_zero i)]
  · rw [up_ne h6]
    by_cases huv : u = v
    · subst huv
      rw [up_self, f2, if_neg h6, if_pos hm, hi, if_pos (Nat.lt_succ_self i)]
    · rw [up_ne huv, f2, f2, if_neg h6, if_neg h6]
      by_cases hmu : u ∈ od
      · rw [if_pos hmu, if_pos hmu]
        have hneq : od.idxOf u ≠ i := fun he => by
          obtain ⟨h1, h2⟩ := List.getElem?_eq_some_iff.1 h
          have h3 : od[od.idxOf u]'(List.idxOf_lt_length_of_mem hmu) = u := List.getElem_idxOf (List.idxOf_lt_length_of_mem hmu)
          apply huv
          rw [← h3, ← h2]
          congr 1
        by_cases hlt' : od.idxOf u < i
        · rw [if_pos hlt', if_pos (by omega)]
        · rw [if_neg hlt', if_neg (by omega)]
      · rw [if_neg hmu, if_neg hmu]
include hnd hlt in
theorem f2_woken {i v : Nat} (h : od[i]? = some v) : f2 D od (i + 1) v = ⟨some (waitO 4 ((D v : Int) + 1) ((i : Int) + 1)), (D v : Int) + 2, false⟩ := by
  obtain ⟨hm, hi⟩ := idx_at hnd h
  have hv := hlt v hm
  rw [f2, if_neg (by omega), if_pos hm, hi, if_pos (Nat.lt_succ_self i)]
include hnd hlt in
theorem p2_grant {i v : Nat} (h : od[i]? = some v) : takeF (St2 D od (i + 1)) (Ev.act' v 5 0) = (false, St2 D od (i + 1)) := by
  obtain ⟨hm, hi⟩ := idx_at hnd h
  have hv := hlt v hm
  have hne : ¬ ((6 : Int) = (v : Int)) := by omega
  have e := take_act (f := f2 D od (i + 1)) (p := (6, 1)) (r := (od.length : Int)) (t := v) (by omega) (f2_woken hnd hlt h) rfl (by first | decide | (dsimp only; decide)) (by first | decide | (dsimp only; decide)) (by first | decide | (dsimp only; decide)) (by first | decide | (dsimp only; decide)) 5 0
  refine e.trans ?_
  unfold stepF
  rw [if_neg (by first | decide | (dsimp only; decide)), if_neg (by first | decide | (dsimp only; decide)), if_pos (.inl rfl)]
  unfold waitF
  simp [Ev.act', refB, leavesB, hne, St2]
include hnd hlt in
theorem p2_leave {i v : Nat} (h : od[i]? = some v) : takeF (St2 D od (i + 1)) (Ev.act' v 4 3) = (false, St2 D od (i + 1)) := by
  obtain ⟨hm, hi⟩ := idx_at hnd h
  have hv := hlt v hm
  have hne : ¬ ((6 : Int) = (v : Int)) := by omega
  have e := take_act (f := f2 D od (i + 1)) (p := (6, 1)) (r := (od.length : Int)) (t := v) (by omega) (f2_woken hnd hlt h) rfl (by first | decide | (dsimp only; decide)) (by first | decide | (dsimp only; decide)) (by first | decide | (dsimp only; decide)) (by first | decide | (dsimp only; decide)) 4 3
  refine e.trans ?_
  unfold stepF
  rw [if_neg (by first | decide | (dsimp only; decide)), if_neg (by first | decide | (dsimp only; decide)), if_pos (.inl rfl)]
  unfold waitF
  simp [Ev.act', refB, leavesB, hne, St2]
end
end Go.Proofs.Ytimmclibnfdjhaa
