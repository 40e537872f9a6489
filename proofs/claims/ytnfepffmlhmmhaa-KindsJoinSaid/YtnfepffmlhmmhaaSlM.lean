/- From a contract to what a row asks. -/
import Derived.Test.YtnfepffmlhmmhaaSlL
import Derived.RowKit3
namespace Go.SL
open Go.RowKit
theorem grown_of {w w' : World} (h : hle (wh w) (wh w')) : Grown w w' := by
  have hos := h .os _ rfl
  simp only [wh, Option.some.injEq, HV.os.injEq] at hos
  have hb : ∀ (i : Nat) o, w.heap[i]? = some o → w'.heap[i]? = some o := fun i o hi => wh_b.1 (h _ _ (wh_b.2 hi))
  refine ⟨⟨hos.1, hos.2, fun i hi => ?_⟩, fun a => ?_, ?_⟩
  · have h1 : w.heap[i]? = some w.heap[i] := Array.getElem?_eq_getElem hi
    rw [hb i _ h1, h1]
    cases w.heap[i] <;> simp
  · have := h (.fz a.block) _ rfl
    simp only [wh, Option.some.injEq, HV.fz.injEq] at this
    have := congrFun this a.off
    simpa [World.frozen?] using this
  · rcases Nat.lt_or_ge w'.heap.size w.heap.size with hlt | hge
    · have h1 : w.heap[w'.heap.size]? = some w.heap[w'.heap.size] := Array.getElem?_eq_getElem hlt
      have := hb _ _ h1
      simp at this
    · exact hge
theorem sat_all (w : World) : Sat [wh w] w := ⟨fun h hh => by rw [List.mem_singleton.1 hh]; exact hle.refl _, List.pairwise_singleton _ _⟩
/-- A function that hands back a known value, and wants nothing of the memory. -/
theorem PFn.row {P : Program} {f : FuncId} {args : List Value} {v : Value} (h : PFn P f args [] v) (w : World) : Calls P f args.toArray w fun e w' => e = .returned v ∧ Grown w w' :=
  (h w [wh w] (sat_all w)).mono fun e w' ⟨own, s, he, ho⟩ => ⟨he, grown_of (s.le _ (by simp))⟩
end Go.SL
