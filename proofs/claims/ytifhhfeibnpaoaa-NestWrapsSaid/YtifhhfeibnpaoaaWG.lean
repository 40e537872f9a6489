/- Goings, breadth first: what is laid down of places that are come to. -/
import Derived.Test.YtifhhfeibnpaoaaWN
namespace Go.Proofs.Ytifhhfeibnpaoaa
/-- Places in the order in which they are come to; so many of them are done with; how far each is. -/
structure BFS (cs : List Ins) (V : List Int) (i : Nat) (d : Int → Int) : Prop where
  rng : ∀ v ∈ V, 0 ≤ v ∧ v < cs.length
  zero : V[0]? = some 0 ∧ d 0 = 0
  ile : i ≤ V.length
  nd : V.Nodup
  pred : ∀ v ∈ V, v ≠ 0 → ∃ u ∈ V, d v = d u + 1 ∧ v ∈ nxt cs u
  nonneg : ∀ v ∈ V, 0 ≤ d v
  idx : ∀ (b : Nat) (v : Int), V[b]? = some v → d v ≤ b
  mono : ∀ (a b : Nat) (u v : Int), a ≤ b → V[a]? = some u → V[b]? = some v → d u ≤ d v
  band : ∀ (u v : Int) (b : Nat), V[i]? = some u → V[b]? = some v → d v ≤ d u + 1
  done : ∀ (a : Nat) (u : Int), a < i → V[a]? = some u → ∀ t ∈ nxt cs u, 0 ≤ t → t < cs.length → t ∈ V ∧ d t ≤ d u + 1
theorem BFS.start {cs : List Ins} (h : 0 < cs.length) : BFS cs [0] 0 (fun _ => 0) := by
  refine ⟨fun v hv => ?_, ⟨rfl, rfl⟩, Nat.zero_le _, by simp, fun v hv h0 => ?_, fun _ _ => Int.le_refl _, fun b v hv => ?_, fun _ _ _ _ _ _ _ => Int.le_refl _, fun _ _ _ _ _ => by omega, fun a u ha => absurd ha (Nat.not_lt_zero _)⟩
  · rw [List.mem_singleton] at hv; omega
  · rw [List.mem_singleton] at hv; exact absurd hv h0
  · show (0 : Int) ≤ b; omega
def upd (d : Int → Int) (t e : Int) : Int → Int := fun z => if z = t then e else d z
theorem BFS.push {cs : List Ins} {V : List Int} {i : Nat} {d : Int → Int} {x t : Int} (h : BFS cs V i d) (hx : V[i]? = some x) (ht : t ∉ V) (h0 : 0 ≤ t) (h1 : t < cs.length) (hn : t ∈ nxt cs x) : BFS cs (V ++ [t]) i (upd d t (d x + 1)) := by
  have hi := (List.getElem?_eq_some_iff.1 hx).1
  have hxm := List.mem_of_getElem? hx
  have old : ∀ {u}, u ∈ V → upd d t (d x + 1) u = d u := fun {u} hu => by
    unfold upd; rw [if_neg]; intro e; subst e; exact ht hu
  have new : upd d t (d x + 1) t = d x + 1 := if_pos rfl
  have cases : ∀ {b v}, (V ++ [t])[b]? = some v → (V[b]? = some v ∧ v ∈ V) ∨ (b = V.length ∧ v = t) := fun {b v} hb => by
    by_cases hl : b < V.length
    · rw [List.getElem?_append_left hl] at hb; exact .inl ⟨hb, List.mem_of_getElem? hb⟩
    · have hb2 := (List.getElem?_eq_some_iff.1 hb).1
      simp at hb2
      have : b = V.length := by omega
      subst this
      simp at hb; exact .inr ⟨rfl, hb.symm⟩
  have hV0 : (V ++ [t])[0]? = some 0 := by rw [List.getElem?_append_left (by omega)]; exact h.zero.1
  have hz : (0 : Int) ∈ V := List.mem_of_getElem? h.zero.1
  refine ⟨fun v hv => ?_, ⟨hV0, by rw [old hz]; exact h.zero.2⟩, by rw [List.length_append]; have := h.ile; omega, ?_, fun v hv hv0 => ?_, fun v hv => ?_, fun b v hb => ?_, fun a b u v hab ha hb => ?_, fun u v b hu hb => ?_, fun a u ha hu s hs s0 s1 => ?_⟩
  · rcases List.mem_append.1 hv with hv | hv
    · exact h.rng v hv
    · rw [List.mem_singleton] at hv; omega
  · rw [List.nodup_append]
    refine ⟨h.nd, by simp, fun a ha b hb e => ?_⟩
    rw [List.mem_singleton] at hb; subst hb; subst e; exact ht ha
  · rcases List.mem_append.1 hv with hv | hv
    · obtain ⟨u, hu, e1, e2⟩ := h.pred v hv hv0
      exact ⟨u, List.mem_append.2 (.inl hu), by rw [old hv, old hu]; exact e1, e2⟩
    · rw [List.mem_singleton] at hv; subst hv
      exact ⟨x, List.mem_append.2 (.inl hxm), by rw [new, old hxm], hn⟩
  · rcases List.mem_append.1 hv with hv | hv
    · rw [old hv]; exact h.nonneg v hv
    · rw [List.mem_singleton] at hv; subst hv; rw [new]; have := h.nonneg x hxm; omega
  · rcases cases hb with ⟨hb, hm⟩ | ⟨rfl, rfl⟩
    · rw [old hm]; exact h.idx b v hb
    · rw [new]; have := h.idx i x hx; omega
  · rcases cases ha with ⟨ha', hma⟩ | ⟨rfl, rfl⟩
    · rcases cases hb with ⟨hb', hmb⟩ | ⟨rfl, rfl⟩
      · rw [old hma, old hmb]; exact h.mono a b u v hab ha' hb'
      · rw [old hma, new]; exact h.band x u a hx ha'
    · rcases cases hb with ⟨hb, hmb⟩ | ⟨-, rfl⟩
      · have := (List.getElem?_eq_some_iff.1 hb).1; omega
      · exact Int.le_refl _
  · rw [List.getElem?_append_left hi, hx] at hu; cases hu
    rw [old hxm]
    rcases cases hb with ⟨hb, hmb⟩ | ⟨rfl, rfl⟩
    · rw [old hmb]; exact h.band x v b hx hb
    · rw [new]; exact Int.le_refl _
  · rw [List.getElem?_append_left (by omega)] at hu
    obtain ⟨g1, g2⟩ := h.done a u ha hu s hs s0 s1
    exact ⟨List.mem_append.2 (.inl g1), by rw [old g1, old (List.mem_of_getElem? hu)]; exact g2⟩
theorem BFS.pop {cs : List Ins} {V : List Int} {i : Nat} {d : Int → Int} {x : Int} (h : BFS cs V i d) (hx : V[i]? = some x) (hp : ∀ t ∈ nxt cs x, 0 ≤ t → t < cs.length → t ∈ V ∧ d t ≤ d x + 1) : BFS cs V (i + 1) d := by
  have hi := (List.getElem?_eq_some_iff.1 hx).1
  refine ⟨h.rng, h.zero, by omega, h.nd, h.pred, h.nonneg, h.idx, h.mono, fun u v b hu hb => ?_, fun a u ha hu s hs s0 s1 => ?_⟩
  · have h1 := h.band x v b hx hb
    have h2 := h.mono i (i + 1) x u (by omega) hx hu
    omega
  · by_cases e : a = i
    · subst e; rw [hx] at hu; cases hu; exact hp s hs s0 s1
    · exact h.done a u (by omega) hu s hs s0 s1
theorem nodup_len {V : List Int} {n : Nat} (hn : V.Nodup) (hr : ∀ v ∈ V, 0 ≤ v ∧ v < (n : Int)) : V.length ≤ n := by
  have h1 : (V.map Int.toNat).Nodup := by
    unfold List.Nodup
    rw [List.pairwise_map]
    refine List.Pairwise.imp_of_mem ?_ hn
    intro x y hx hy hxy e
    have := hr x hx; have := hr y hy; omega
  have h2 : (V.map Int.toNat) ⊆ List.range n := fun z hz => by
    obtain ⟨x, hx, rfl⟩ := List.mem_map.1 hz
    have := hr x hx
    rw [List.mem_range]; omega
  have := h1.length_le_of_subset h2
  simpa using this
end Go.Proofs.Ytifhhfeibnpaoaa
