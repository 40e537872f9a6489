/- errors.As and api.Told, of a *api.Fault, over heaps. -/
import Derived.Test.YtobcmglbdmaceaaGreatDoorWAs
set_option linter.unusedVariables false
set_option linter.unusedSimpArgs false
set_option linter.unusedSectionVars false
namespace Go.Proofs.YtobcmglbdmaceaaGreatDoor
open Go.RowKit
open Go.SL
theorem sat_setCell {hs : List Heap} {W : World} {b : Nat} {old v : Value} {T : TypeId} (s : Sat (SL.blk b (.cells ⟨[old]⟩ T (0, 0)) :: hs) W) : Sat (SL.blk b (.cells ⟨[v]⟩ T (0, 0)) :: hs) (W.setCell ⟨b, 0, none⟩ v) := by
  have hb5 := s.at (List.mem_cons_self ..) (blk_self _ _)
  refine s.put (o' := .cells ⟨[v]⟩ T (0, 0)) ?_ rfl rfl (fun k hk => ?_) (fun _ => rfl)
  · simp only [World.setCell, Array.getElem?_modify, hb5]
    simp
  · simp only [World.setCell, Array.getElem?_modify]
    rw [if_neg (Ne.symm hk)]
/-- As a contract over heaps: 'G' holds the variable errors.errorType. -/
theorem as_T {G : Heap} [sg : Sl G (some ⟨0, 0, none⟩) [.iface 110 (.agg #[.pointer (some ⟨9, 26, none⟩)])]] (e : Addr) (b : Nat) (old : Value) :
    SL.T Tryz.prog 27 [.iface 62 (.pointer (some e)), .iface 64 (.pointer (some ⟨b, 0, none⟩))] [SL.blk b (.cells ⟨[old]⟩ 62 (0, 0)), G] fun ev o => ev = .returned (.bool true) ∧ o = [SL.blk b (.cells ⟨[.pointer (some e)]⟩ 62 (0, 0)), G] := by
  intro w X s
  have hb : w.heap[b]? = some (.cells ⟨[old]⟩ 62 (0, 0)) := s.at (List.mem_cons_self ..) (blk_self _ _)
  have hg : w.cell? ⟨0, 0, none⟩ = some (.iface 110 (.agg #[.pointer (some ⟨9, 26, none⟩)])) := by
    have si : SlIn [SL.blk b (.cells ⟨[old]⟩ 62 (0, 0)), G] (some ⟨0, 0, none⟩) [.iface 110 (.agg #[.pointer (some ⟨9, 26, none⟩)])] := ⟨G, by simp, sg⟩
    obtain ⟨a', e1, e2, e3⟩ := si.cell s (k := 0) rfl
    cases e1; exact e3
  have hblt : b < w.heap.size := (Array.getElem?_eq_some_iff.1 hb).1
  refine (as_wrap e ⟨b, 0, none⟩ old w hg (by rw [cell_at hb]; rfl) (by rw [World.frozen?, hb]; rfl)).mono ?_
  rintro ev w' ⟨rfl, rfl⟩
  refine ⟨_, ?_, rfl, rfl⟩
  have s5 := (sat_allocF (sat_allocF (sat_allocF (sat_allocF s (.cells #[.pointer (some ⟨b, 0, none⟩)] 64)).tail (.cells #[.pointer (some ⟨9, 64, none⟩), .pointer (some ⟨w.heap.size, 0, none⟩), .int .u64 150] 85)).tail (.cells #[.pointer (some ⟨9, 64, none⟩), .pointer (some ⟨w.heap.size, 0, none⟩), .int .u64 150] 85)).tail (.cells #[.pointer (some e)] 62)).tail
  exact sat_setCell s5
end Go.Proofs.YtobcmglbdmaceaaGreatDoor
