/- The document's answer of layer 27: how far places are; there is but one such row. -/
import Derived.Test.YtgcajldkegdllaaWT3
namespace Go.Proofs.Ytgcajldkegdllaa
open Go.SL
set_option maxRecDepth 100000
set_option maxHeartbeats 16000000
attribute [local irreducible] SL.T PFn OpV SOL SWP HOp ChU
section
variable {cs : List Ins} {V : List Int} {d : Int → Int}
theorem farOf_ge (h : BFS cs V V.length d) (z : Int) : -1 ≤ farOf V d z := by
  unfold farOf; split
  · rename_i hz; have := h.nonneg z hz; omega
  · exact Int.le_refl _
theorem farOf_le (h : BFS cs V V.length d) (z : Int) : farOf V d z ≤ cs.length := by
  unfold farOf; split
  · rename_i hz
    obtain ⟨b, hb⟩ := List.mem_iff_getElem?.1 hz
    have h1 := h.idx b z hb
    have h2 := (List.getElem?_eq_some_iff.1 hb).1
    have := nodup_len h.nd h.rng
    omega
  · omega
theorem farOf_next (h : BFS cs V V.length d) {u t : Int} (hu : 0 ≤ farOf V d u) (ht : t ∈ nxt cs u) (h0 : 0 ≤ t) (h1 : t < cs.length) : 0 ≤ farOf V d t ∧ farOf V d t ≤ farOf V d u + 1 := by
  have hum : u ∈ V := by
    unfold farOf at hu; split at hu
    · assumption
    · omega
  obtain ⟨a, ha⟩ := List.mem_iff_getElem?.1 hum
  obtain ⟨g1, g2⟩ := h.done a u (List.getElem?_eq_some_iff.1 ha).1 ha t ht h0 h1
  have := h.nonneg t g1
  simp only [farOf, if_pos g1, if_pos hum]
  omega
theorem farOf_zero (h : BFS cs V V.length d) (z : Int) : farOf V d z = 0 ↔ z = 0 := by
  have hz := List.mem_of_getElem? h.zero.1
  constructor
  · intro e
    unfold farOf at e; split at e
    · rename_i hm
      by_cases h0 : z = 0
      · exact h0
      · obtain ⟨u, hu, e1, -⟩ := h.pred z hm h0
        have := h.nonneg u hu; omega
    · omega
  · rintro rfl; simp only [farOf, if_pos hz]; exact h.zero.2
theorem farOf_pred (h : BFS cs V V.length d) {z : Int} (hz : 0 < farOf V d z) : ∃ u : Nat, u < cs.length ∧ 0 ≤ farOf V d (u : Int) ∧ z ∈ nxt cs (u : Int) ∧ farOf V d z = farOf V d (u : Int) + 1 := by
  have hm : z ∈ V := by
    unfold farOf at hz; split at hz
    · assumption
    · omega
  have h0 : z ≠ 0 := fun e => by have := (farOf_zero h z).2 e; omega
  obtain ⟨u, hu, e1, e2⟩ := h.pred z hm h0
  obtain ⟨u0, u1⟩ := h.rng u hu
  obtain ⟨k, rfl⟩ := Int.eq_ofNat_of_zero_le u0
  have := h.nonneg _ hu
  exact ⟨k, by omega, by simp only [farOf, if_pos hu]; omega, e2, by simp only [farOf, if_pos hu, if_pos hm]; omega⟩
end

/-- How far places are, as it must be. -/
structure Dist (cs : List Ins) (f : Nat → Int) : Prop where
  ge : ∀ z, z < cs.length → -1 ≤ f z
  zero : ∀ z, z < cs.length → (f z = 0 ↔ z = 0)
  pred : ∀ z, z < cs.length → 0 < f z → ∃ u, u < cs.length ∧ f u = f z - 1 ∧ (z : Int) ∈ nxt cs (u : Int)
  next : ∀ u, u < cs.length → 0 ≤ f u → ∀ z, z < cs.length → (z : Int) ∈ nxt cs (u : Int) → 0 ≤ f z ∧ f z ≤ f u + 1
theorem Dist.le {cs : List Ins} {f g : Nat → Int} (hf : Dist cs f) (hg : Dist cs g) : ∀ (k : Nat) (z : Nat), z < cs.length → f z = k → 0 ≤ g z ∧ g z ≤ k
  | 0, z, hz, h => by
    have := (hf.zero z hz).1 (by simpa using h)
    have := (hg.zero z hz).2 this
    omega
  | k + 1, z, hz, h => by
    obtain ⟨u, hu, h1, h2⟩ := hf.pred z hz (by omega)
    obtain ⟨g1, g2⟩ := Dist.le hf hg k u hu (by omega)
    have := hg.next u hu g1 z hz h2
    omega
theorem Dist.eq {cs : List Ins} {f g : Nat → Int} (hf : Dist cs f) (hg : Dist cs g) (z : Nat) (hz : z < cs.length) : f z = g z := by
  have h1 := hf.ge z hz
  have h2 := hg.ge z hz
  by_cases h : 0 ≤ f z
  · obtain ⟨k, hk⟩ := Int.eq_ofNat_of_zero_le h
    obtain ⟨a1, a2⟩ := Dist.le hf hg k z hz hk
    obtain ⟨m, hm⟩ := Int.eq_ofNat_of_zero_le a1
    have := Dist.le hg hf m z hz hm
    omega
  · by_cases h' : 0 ≤ g z
    · obtain ⟨m, hm⟩ := Int.eq_ofNat_of_zero_le h'
      have := Dist.le hg hf m z hz hm
      omega
    · omega
theorem dist_far {cs : List Ins} {V : List Int} {d : Int → Int} (h : BFS cs V V.length d) : Dist cs (fun z => farOf V d (z : Int)) where
  ge z _ := farOf_ge h z
  zero z _ := by rw [farOf_zero h]; omega
  pred z _ hp := by
    obtain ⟨u, h1, -, h3, h4⟩ := farOf_pred h hp
    exact ⟨u, h1, by omega, h3⟩
  next u _ h0 z hz hn := farOf_next h h0 hn (by omega) (by omega)
/-- A row on the way: so many goings were looked at, and so many places of that one, and so many of that one's. -/
structure Lev (cs : List Ins) (o : List Int) (L a b : Nat) : Prop where
  len : o.length = cs.length
  ge : ∀ _z v : Int, ∀ k : Nat, o[k]? = some v → -1 ≤ v ∧ v ≤ (L : Int) + 1
  zero : ∀ (k : Nat) v, o[k]? = some v → (v = 0 ↔ k = 0)
  pred : ∀ (k : Nat) v, o[k]? = some v → 0 < v → ∃ u : Nat, o[u]? = some (v - 1) ∧ (k : Int) ∈ nxt cs (u : Int)
  done : ∀ (u : Nat) w, o[u]? = some w → 0 ≤ w → (w < L ∨ (w = L ∧ u < a)) → ∀ (k : Nat) v, o[k]? = some v → (k : Int) ∈ nxt cs (u : Int) → 0 ≤ v ∧ v ≤ w + 1
  part : o[a]? = some (L : Int) → ∀ (k : Nat) v, k < b → o[k]? = some v → (k : Int) ∈ nxt cs (a : Int) → 0 ≤ v
theorem Lev.skip {cs : List Ins} {o : List Int} {L a b : Nat} (h : Lev cs o L a b) {x y : Int} (hx : o[a]? = some x) (hy : o[b]? = some y) (hn : ¬ (x = L ∧ y < 0 ∧ (b : Int) ∈ nxt cs (a : Int))) : Lev cs o L a (b + 1) :=
  { h with
    part := fun ha k v hk hv hm => by
      rw [hx] at ha
      have hxL : x = L := by simpa using ha
      by_cases e : k = b
      · subst e; rw [hy] at hv; cases hv
        have := (h.ge 0 y k hy).1
        by_cases hy0 : y < 0
        · exact absurd ⟨hxL, hy0, hm⟩ hn
        · omega
      · exact h.part (by rw [hx]; exact ha) k v (by omega) hv hm }
theorem Lev.set {cs : List Ins} {o : List Int} {L a b : Nat} (h : Lev cs o L a b) {y : Int} (hx : o[a]? = some (L : Int)) (hy : o[b]? = some y) (hy0 : y < 0) (hm : (b : Int) ∈ nxt cs (a : Int)) : Lev cs (o.set b ((L : Int) + 1)) L a (b + 1) := by
  have hbl := (List.getElem?_eq_some_iff.1 hy).1
  have cs' : ∀ {k : Nat} {v : Int}, (o.set b ((L : Int) + 1))[k]? = some v → (k = b ∧ v = (L : Int) + 1) ∨ (k ≠ b ∧ o[k]? = some v) := fun {k v} hk => by
    rw [List.getElem?_set] at hk
    by_cases e : b = k
    · rw [if_pos e, if_pos hbl] at hk; exact .inl ⟨e.symm, by simpa using hk.symm⟩
    · rw [if_neg e] at hk; exact .inr ⟨fun e2 => e e2.symm, hk⟩
  have mk : ∀ {k : Nat} {v : Int}, o[k]? = some v → 0 ≤ v → (o.set b ((L : Int) + 1))[k]? = some v := fun {k v} hk hv => by
    rw [List.getElem?_set, if_neg]; exact hk
    intro e; subst e; rw [hy] at hk; cases hk; omega
  refine ⟨by rw [List.length_set]; exact h.len, fun z v k hk => ?_, fun k v hk => ?_, fun k v hk hv => ?_, fun u w hu hw hc k v hk hn => ?_, fun _ k v hkb hk hn => ?_⟩
  · rcases cs' hk with ⟨-, rfl⟩ | ⟨-, hk⟩
    · omega
    · exact h.ge z v k hk
  · rcases cs' hk with ⟨rfl, rfl⟩ | ⟨-, hk⟩
    · constructor
      · intro e; omega
      · intro e; have := (h.zero _ _ hy).2 e; omega
    · exact h.zero k v hk
  · rcases cs' hk with ⟨rfl, rfl⟩ | ⟨-, hk⟩
    · exact ⟨a, mk (by rw [hx]; congr 1; omega) (by omega), hm⟩
    · obtain ⟨u, h1, h2⟩ := h.pred k v hk hv
      exact ⟨u, mk h1 (by omega), h2⟩
  · rcases cs' hu with ⟨-, e1⟩ | ⟨-, hu'⟩
    · subst e1; omega
    · rcases cs' hk with ⟨e1, e2⟩ | ⟨-, hk'⟩
      · subst e1; have := h.done u w hu' hw hc _ y hy hn; omega
      · exact h.done u w hu' hw hc k v hk' hn
  · rcases cs' hk with ⟨-, e2⟩ | ⟨hne, hk'⟩
    · subst e2; omega
    · exact h.part hx k v (by omega) hk' hn
theorem Lev.row {cs : List Ins} {o : List Int} {L a b : Nat} (h : Lev cs o L a b) (hb : cs.length ≤ b) : Lev cs o L (a + 1) 0 :=
  { h with
    done := fun u w hu hw hc k v hk hn => by
      rcases hc with hc | ⟨hc, hua⟩
      · exact h.done u w hu hw (.inl hc) k v hk hn
      · by_cases e : u = a
        · subst e
          have := h.part (by rw [hu, hc]) k v (by have := (List.getElem?_eq_some_iff.1 hk).1; have := h.len; omega) hk hn
          have := (h.ge 0 v k hk).2
          omega
        · exact h.done u w hu hw (.inr ⟨hc, by omega⟩) k v hk hn
    part := fun _ k v hk => absurd hk (Nat.not_lt_zero _) }
theorem Lev.level {cs : List Ins} {o : List Int} {L a b : Nat} (h : Lev cs o L a b) (ha : cs.length ≤ a) : Lev cs o (L + 1) 0 0 :=
  { h with
    ge := fun z v k hk => by have := h.ge z v k hk; omega
    done := fun u w hu hw hc k v hk hn => by
      have hul := (List.getElem?_eq_some_iff.1 hu).1
      have := h.len
      have := (h.ge 0 w u hu).2
      refine h.done u w hu hw ?_ k v hk hn
      omega
    part := fun _ k v hk => absurd hk (Nat.not_lt_zero _) }
theorem Lev.dist {cs : List Ins} {o : List Int} (h : Lev cs o cs.length 0 0) : Dist cs (fun z => o.getD z 0) := by
  have get : ∀ z, z < cs.length → o[z]? = some (o.getD z 0) := fun z hz => by
    have : z < o.length := by rw [h.len]; exact hz
    simp [List.getD, this]
  -- no place is as far as that
  have chain : ∀ (v : Nat) (k : Nat), o[k]? = some (v : Int) → ∀ i : Nat, i ≤ v → (i : Int) ∈ o := by
    intro v
    induction v with
    | zero => intro k hk i hi; have : i = 0 := by omega
              subst this; exact List.mem_of_getElem? hk
    | succ v ih =>
      intro k hk i hi
      by_cases e : i = v + 1
      · subst e; exact List.mem_of_getElem? hk
      · obtain ⟨u, h1, -⟩ := h.pred k _ hk (by omega)
        exact ih u (by rw [h1]; congr 1; omega) i (by omega)
  have small : ∀ (k : Nat) v, o[k]? = some v → 0 ≤ v → v < cs.length := fun k v hk hv => by
    obtain ⟨m, rfl⟩ := Int.eq_ofNat_of_zero_le hv
    have hs : ((List.range (m + 1)).map fun (i : Nat) => (i : Int)) ⊆ o := fun z hz => by
      obtain ⟨i, hi, rfl⟩ := List.mem_map.1 hz
      rw [List.mem_range] at hi
      exact chain m k hk i (by omega)
    have hd : ((List.range (m + 1)).map fun (i : Nat) => (i : Int)).Nodup := by
      unfold List.Nodup
      rw [List.pairwise_map]
      exact (List.pairwise_lt_range).imp fun h => by omega
    have := hd.length_le_of_subset hs
    have := h.len
    simp at *; omega
  refine ⟨fun z hz => (h.ge 0 _ z (get z hz)).1, fun z hz => h.zero z _ (get z hz), fun z hz hp => ?_, fun u hu h0 z hz hn => ?_⟩
  · obtain ⟨u, h1, h2⟩ := h.pred z _ (get z hz) hp
    have hul : u < cs.length := by rw [← h.len]; exact (List.getElem?_eq_some_iff.1 h1).1
    refine ⟨u, hul, ?_, h2⟩
    have := get u hul
    rw [h1] at this
    simpa using this.symm
  · exact h.done u _ (get u hu) h0 (.inl (small u _ (get u hu) h0)) z _ (get z hz) hn
def initP (n j : Nat) : List Int := (List.range n).map fun z => if 0 < z ∧ z < j then -1 else 0
theorem initP_length (n j : Nat) : (initP n j).length = n := by simp [initP]
theorem initP_set {n j : Nat} (hj : 0 < j) (hn : j < n) : (initP n j).set j (-1) = initP n (j + 1) := by
  apply List.ext_getElem?
  intro i
  rw [List.getElem?_set, initP_length]
  by_cases e : j = i
  · subst e
    rw [if_pos rfl, if_pos hn]
    simp [initP, hn, hj]
  · rw [if_neg e]
    simp only [initP, List.getElem?_map]
    by_cases hi : i < n
    · simp only [List.getElem?_range hi, Option.map_some]
      congr 1
      by_cases h1 : 0 < i ∧ i < j
      · rw [if_pos h1, if_pos (by omega)]
      · rw [if_neg h1, if_neg (by omega)]
    · simp [hi]
theorem lev_start {cs : List Ins} : Lev cs (initP cs.length cs.length) 0 0 0 := by
  have get : ∀ {k : Nat} {v : Int}, (initP cs.length cs.length)[k]? = some v → (k = 0 ∧ v = 0) ∨ (0 < k ∧ v = -1) := fun {k v} hk => by
    have hl := (List.getElem?_eq_some_iff.1 hk).1
    rw [initP_length] at hl
    simp only [initP, List.getElem?_map, List.getElem?_range hl, Option.map_some, Option.some.injEq] at hk
    by_cases h : 0 < k
    · rw [if_pos ⟨h, hl⟩] at hk; exact .inr ⟨h, hk.symm⟩
    · rw [if_neg (fun x => h x.1)] at hk; exact .inl ⟨by omega, hk.symm⟩
  refine ⟨initP_length _ _, fun z v k hk => ?_, fun k v hk => ?_, fun k v hk hv => ?_, fun u w hu hw hc => ?_, fun _ k v hk => absurd hk (Nat.not_lt_zero _)⟩
  · rcases get hk with ⟨h1, h2⟩ | ⟨h1, h2⟩ <;> omega
  · rcases get hk with ⟨h1, h2⟩ | ⟨h1, h2⟩ <;> omega
  · rcases get hk with ⟨h1, h2⟩ | ⟨h1, h2⟩ <;> omega
  · rcases get hu with ⟨h1, h2⟩ | ⟨h1, h2⟩ <;> omega
end Go.Proofs.Ytgcajldkegdllaa
