/- Going through a method: the machine's steps. -/
import Derived.Test.YtifhhfeibnpaoaaWA11
namespace Go.Proofs.Ytifhhfeibnpaoaa
open Go.SL
set_option maxRecDepth 100000
theorem step_done {cs : List Ins} {V : List Int} {stk : Int → List Int} {i k : Nat} (h : V[i]? = none) : GS.step cs ⟨V, stk, i, k, none⟩ = ⟨V, stk, i, k, some (-1)⟩ := by
  simp [GS.step, h]
theorem step_bad {cs : List Ins} {V : List Int} {stk : Int → List Int} {i k : Nat} {z : Int} (h : V[i]? = some z) (hb : behF cs z.toNat (stk z) = none) : GS.step cs ⟨V, stk, i, k, none⟩ = ⟨V, stk, i, k, some z⟩ := by
  simp [GS.step, h, hb]
theorem step_next {cs : List Ins} {V : List Int} {stk : Int → List Int} {i k : Nat} {z : Int} {s : List Int} (h : V[i]? = some z) (hb : behF cs z.toNat (stk z) = some s) (hn : (nxt cs z)[k]? = none) : GS.step cs ⟨V, stk, i, k, none⟩ = ⟨V, stk, i + 1, 0, none⟩ := by
  simp [GS.step, h, hb, hn]
theorem step_out {cs : List Ins} {V : List Int} {stk : Int → List Int} {i k : Nat} {z t : Int} {s : List Int} (h : V[i]? = some z) (hb : behF cs z.toNat (stk z) = some s) (hn : (nxt cs z)[k]? = some t) (ht : ¬(0 ≤ t ∧ t < cs.length)) : GS.step cs ⟨V, stk, i, k, none⟩ = ⟨V, stk, i, k + 1, none⟩ := by
  simp [GS.step, h, hb, hn, ht]
theorem step_same {cs : List Ins} {V : List Int} {stk : Int → List Int} {i k : Nat} {z t : Int} {s : List Int} (h : V[i]? = some z) (hb : behF cs z.toNat (stk z) = some s) (hn : (nxt cs z)[k]? = some t) (ht : 0 ≤ t ∧ t < cs.length) (hv : t ∈ V) (he : stk t = s) : GS.step cs ⟨V, stk, i, k, none⟩ = ⟨V, stk, i, k + 1, none⟩ := by
  simp [GS.step, h, hb, hn, ht, hv, he]
theorem step_other {cs : List Ins} {V : List Int} {stk : Int → List Int} {i k : Nat} {z t : Int} {s : List Int} (h : V[i]? = some z) (hb : behF cs z.toNat (stk z) = some s) (hn : (nxt cs z)[k]? = some t) (ht : 0 ≤ t ∧ t < cs.length) (hv : t ∈ V) (he : stk t ≠ s) : GS.step cs ⟨V, stk, i, k, none⟩ = ⟨V, stk, i, k, some t⟩ := by
  simp [GS.step, h, hb, hn, ht, hv, he]
theorem step_new {cs : List Ins} {V : List Int} {stk : Int → List Int} {i k : Nat} {z t : Int} {s : List Int} (h : V[i]? = some z) (hb : behF cs z.toNat (stk z) = some s) (hn : (nxt cs z)[k]? = some t) (ht : 0 ≤ t ∧ t < cs.length) (hv : t ∉ V) : GS.step cs ⟨V, stk, i, k, none⟩ = ⟨V ++ [t], fun q => if q = t then s else stk q, i, k + 1, none⟩ := by
  simp [GS.step, h, hb, hn, ht, hv]
theorem run_step {cs : List Ins} {n : Nat} {g : GS} (h : GS.run cs n = g) : GS.run cs (n + 1) = g.step cs := by rw [GS.run, h]
theorem doF_len {op k : Int} {s s' : List Int} (h : doF op k s = some s') (hs : s.length ≤ 8) : s'.length ≤ 8 := by
  unfold doF at h
  repeat' split at h
  all_goals first | (cases h; done) | skip
  all_goals cases h
  all_goals first | assumption | (simp; omega) | (rw [List.length_append]; simp; omega) | (have := List.length_dropLast (xs := s); omega)
theorem behF_len {cs : List Ins} {z : Nat} {s s' : List Int} (h : behF cs z s = some s') (hs : s.length ≤ 8) : s'.length ≤ 8 := by
  unfold behF at h
  dsimp only at h
  split at h
  · cases h
  · exact doF_len h hs
/-- What a map of stacks says of those that were come to. -/
structure WS (cs : List Ins) (K : Heap) (f : Int → Option Value) (V : List Int) (stk : Int → List Int) : Prop where
  rng : ∀ t ∈ V, 0 ≤ t ∧ t < (cs.length : Int)
  nd : V.Nodup
  inn : ∀ t ∈ V, ∃ b n c, f t = some (.slice b n c) ∧ Sl K b ((stk t).map i64) ∧ (stk t).length = n ∧ n ≤ c ∧ n ≤ 8
  out : ∀ t, t ∉ V → f t = none ∧ stk t = []
theorem WS.mono {cs : List Ins} {K K' : Heap} {f : Int → Option Value} {V : List Int} {stk : Int → List Int} (h : WS cs K f V stk) (hK : hle K K') : WS cs K' f V stk :=
  ⟨h.rng, h.nd, fun t ht => by obtain ⟨b, n, c, h1, h2, h3⟩ := h.inn t ht; exact ⟨b, n, c, h1, h2.mono hK, h3⟩, h.out⟩
theorem WS.add {cs : List Ins} {K : Heap} {f : Int → Option Value} {V : List Int} {stk : Int → List Int} (h : WS cs K f V stk) {t : Int} {s : List Int} {b : Option Addr} {n c : Nat} (ht : 0 ≤ t ∧ t < (cs.length : Int)) (hv : t ∉ V) (sl : Sl K b (s.map i64)) (hn : s.length = n) (hc : n ≤ c) (h8 : n ≤ 8) :
    WS cs K (fun q => if q = t then some (.slice b n c) else f q) (V ++ [t]) (fun q => if q = t then s else stk q) := by
  refine ⟨fun u hu => ?_, ?_, fun u hu => ?_, fun u hu => ?_⟩
  · rcases List.mem_append.1 hu with hu | hu
    · exact h.rng u hu
    · rw [List.mem_singleton.1 hu]; exact ht
  · rw [List.nodup_append]
    exact ⟨h.nd, by simp, fun a ha b hb => by rw [List.mem_singleton.1 hb]; rintro rfl; exact hv ha⟩
  · by_cases e : u = t
    · subst e; exact ⟨b, n, c, by simp, by simpa using sl, by simpa using hn, hc, h8⟩
    · rcases List.mem_append.1 hu with hu | hu
      · simpa [e] using h.inn u hu
      · exact absurd (List.mem_singleton.1 hu) e
  · have e : u ≠ t := fun e => hu (by simp [e])
    have := h.out u (fun x => hu (List.mem_append.2 (.inl x)))
    simpa [e] using this
theorem WS.len {cs : List Ins} {K : Heap} {f : Int → Option Value} {V : List Int} {stk : Int → List Int} (h : WS cs K f V stk) : V.length ≤ cs.length := nodup_len h.nd h.rng
theorem WS.first {cs : List Ins} {K : Heap} (h : 0 < cs.length) : WS cs K (fun q => if q = 0 then some (.slice none 0 0) else none) [0] (fun _ => []) :=
  ⟨fun t ht => by rw [List.mem_singleton.1 ht]; omega, by simp, fun t ht => ⟨none, 0, 0, by simp [List.mem_singleton.1 ht], Sl.none, rfl, Nat.le_refl _, by omega⟩, fun t ht => by simp [show t ≠ 0 by simpa using ht]⟩
end Go.Proofs.Ytifhhfeibnpaoaa
