/- Near may be laid: plain. -/
import Derived.Test.YtjdjkcebflablaaDoorWN2
import Derived.Test.YtjdjkcebflablaaDoorWK2
set_option linter.unusedVariables false
set_option linter.unusedSimpArgs false
set_option linter.unusedSectionVars false
namespace Go.Proofs.YtjdjkcebflablaaDoor
open Go.SL
theorem kF_ok (cl : Nat) (l : List Int) {most : Int} (h : 4 ≤ most) : KindsOk most cl (kF 4 cl l) := by
  refine ⟨by rw [kF_len]; omega, fun z hz => ?_⟩
  obtain ⟨k, -, rfl⟩ := List.mem_map.1 hz
  have := md_lt k (d := cl + 1) (by omega)
  omega
theorem parN_ok (cl i : Nat) (m : Me) : KindsOk (if i = 0 then 0 else 16) cl (parN cl i m) := by
  unfold parN
  split
  · exact ⟨by simp, fun z hz => by simp at hz⟩
  · exact kF_ok cl _ (by decide)
theorem codeN_ok {c : List Ins} (h : ∀ y ∈ c, I64 y.a ∧ I64 y.b) : (1 ≤ (codeN c).length ∧ (codeN c).length ≤ 256) ∧ ∀ y ∈ codeN c, InsOk y := by
  unfold codeN
  split
  · refine ⟨by decide, fun y hy => ?_⟩
    rw [List.mem_singleton.1 hy]
    unfold InsOk I64; dsimp only; omega
  · refine ⟨by rw [List.length_map, List.length_take]; omega, fun y hy => ?_⟩
    obtain ⟨z, hz, rfl⟩ := List.mem_map.1 hy
    have h1 := h z (List.mem_of_mem_take hz)
    have h2 := md_lt z.op (d := 256) (by decide)
    refine ⟨?_, h1⟩
    show 0 ≤ md z.op 256 ∧ md z.op 256 ≤ 255
    omega
theorem nearM_ok (cl i : Nat) {m : Me} (h : ∀ y ∈ m.code, I64 y.a ∧ I64 y.b) : MeOk (if i = 0 then 0 else 16) cl (nearM cl i m) := by
  have h1 := parN_le cl i m
  have h2 := md_lt m.lo (d := 17 - (parN cl i m).length) (by omega)
  have h3 := md_lt m.st (d := 33) (by decide)
  refine ⟨parN_ok cl i m, ?_, ?_, codeN_ok h⟩
  · show ((parN cl i m).length : Int) ≤ ((parN cl i m).length : Int) + md m.lo (17 - (parN cl i m).length) ∧ ((parN cl i m).length : Int) + md m.lo (17 - (parN cl i m).length) ≤ 16
    omega
  · show 0 ≤ md m.st 33 ∧ md m.st 33 ≤ 32
    omega
theorem near_ok {x : Im} (hI : AllI x) : ImOk (nearI x) := by
  have hl : (nearI x).cls.length = nearC x := by simp [nearI, nearC]; omega
  have hc : nearC x ≤ 5 := by unfold nearC; omega
  have hn : 1 ≤ nearN x ∧ nearN x ≤ 4 := by unfold nearN; omega
  have hml : (nearI x).ms.length = nearN x := by simp [nearI]
  refine ⟨by omega, fun f hf => ?_, by omega, fun i m hm => ?_⟩
  · rw [hl]
    obtain ⟨l, -, rfl⟩ := List.mem_map.1 hf
    exact kF_ok _ _ (by decide)
  · rw [hl]
    simp only [nearI, List.getElem?_map, List.getElem?_range] at hm
    obtain ⟨j, hj, rfl⟩ := Option.map_eq_some_iff.1 hm
    have hji : j = i := by
      by_cases h : i < nearN x
      · rw [List.getElem?_range h] at hj; cases hj; rfl
      · rw [List.getElem?_eq_none (by simp; omega)] at hj; cases hj
    subst hji
    refine nearM_ok _ _ fun y hy => ?_
    cases hx : x.ms[j]? with
    | none => rw [hx] at hy; simp [zMe] at hy
    | some m => rw [hx] at hy; exact hI m (List.mem_of_getElem? hx) y hy
theorem near_may {x : Im} (hI : AllI x) : mayF (nearI x) = true := (mayF_iff_ok (near_ok hI).all).2 (near_ok hI)
theorem imB_length {x : Im} (h : ImOk x) : (imB x).length ≤ 170000 := by
  have s := small_of ((mayF_iff_ok h.all).2 h)
  have h1 := s.clsB x.cls.length
  have h2 := s.msB x.ms.length
  rw [List.take_length] at h1 h2
  have h3 := s.cls
  have h4 := s.ms
  simp only [imB, List.length_append, leB_length, List.length_cons, List.length_nil]
  omega
theorem imB_pos (x : Im) : 5 ≤ (imB x).length := by
  simp only [imB, List.length_append, leB_length, List.length_cons, List.length_nil]
  omega
end Go.Proofs.YtjdjkcebflablaaDoor
