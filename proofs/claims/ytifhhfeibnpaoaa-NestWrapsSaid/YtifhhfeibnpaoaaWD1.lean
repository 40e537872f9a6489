/- Methods that are drawn: what they are. -/
import Derived.Test.YtifhhfeibnpaoaaWT3
import Derived.Test.YtifhhfeibnpaoaaSlG8
namespace Go.Proofs.Ytifhhfeibnpaoaa
open Go.SL
set_option maxRecDepth 100000
set_option maxHeartbeats 16000000
/-- The byte that comes. -/
def nextV (B : List Int) (a : Int) : Int := B.getD a.toNat 0
/-- An instruction that is moved. -/
def mv (base : Nat) (x : Ins) : Ins := if jmp x.1 then (x.1, x.2.1 + base, x.2.2) else x
def joinF : Nat → List (List Ins) → List Ins
  | _, [] => []
  | base, p :: r => p.map (mv base) ++ joinF (base + p.length) r
theorem joinF_append : ∀ (base : Nat) (l m : List (List Ins)), joinF base (l ++ m) = joinF base l ++ joinF (base + l.flatten.length) m
  | base, [], m => by simp [joinF]
  | base, p :: r, m => by
    simp only [List.cons_append, joinF, joinF_append (base + p.length) r m, List.append_assoc, List.flatten_cons, List.length_append]
    rw [Nat.add_assoc]
theorem joinF_length : ∀ (base : Nat) (l : List (List Ins)), (joinF base l).length = l.flatten.length
  | _, [] => rfl
  | base, p :: r => by simp [joinF, joinF_length (base + p.length) r]
/-- A piece of code, and where the bytes are then. -/
def pieceF (B : List Int) : Nat → Int → Int → List Ins × Int
  | 0, a, _ => (joinF 0 [[(0, nextV B a % 3, 0)], [(19, 0, 0)]], a + 1)
  | d + 1, a, fr =>
    let x := nextV B a % 7
    if x = 0 ∨ x = 1 then
      let p := pieceF B d (a + 1) (fr + 1)
      (joinF 0 [[(2, fr, 0)], [(12, 0, 0)], p.1, [(2, fr, 0)], [(13, 0, 0)]], p.2)
    else if x = 2 then
      let p := pieceF B d (a + 1) fr
      let q := pieceF B d p.2 fr
      (joinF 0 [p.1, q.1], q.2)
    else if x = 3 then
      let p := pieceF B d (a + 1) fr
      let q := pieceF B d p.2 fr
      (joinF 0 [[(0, nextV B q.2 % 2, 0)], [(7, (p.1.length : Int) + 2, 0)], p.1, [(6, (q.1.length : Int) + 1, 0)], q.1], q.2 + 1)
    else if x = 4 then
      let p := pieceF B d (a + 1) fr
      (joinF 0 [p.1, [(0, nextV B p.2 % 2, 0)], [(7, -(p.1.length : Int) - 1, 0)]], p.2 + 1)
    else if x = 5 then
      if 0 < fr then
        let k := nextV B (a + 1) % fr
        (joinF 0 [[(2, k, 0)], [(14, 0, 0)], [(19, 0, 0)], [(2, k, 0)], [(15 + nextV B (a + 2) % 2, 0, 0)]], a + 3)
      else ([(0, 1, 0)], a + 1)
    else (joinF 0 [[(1, 0, 0)], [(3, fr + nextV B (a + 1) % 2, 0)]], a + 2)
/-- How many instructions, and how great their numbers. -/
structure Fit (n A : Nat) (l : List Ins) : Prop where
  len : l.length ≤ n
  small : ∀ x ∈ l, -(A : Int) ≤ x.2.1 ∧ x.2.1 ≤ A
theorem Fit.nil (A : Nat) : Fit 0 A [] := ⟨Nat.le_refl _, fun x hx => by cases hx⟩
theorem Fit.one {A : Nat} {op a b : Int} (h : -(A : Int) ≤ a ∧ a ≤ A) : Fit 1 A [(op, a, b)] := ⟨Nat.le_refl _, fun x hx => by rw [List.mem_singleton.1 hx]; exact h⟩
theorem Fit.mono {n A m C : Nat} {l : List Ins} (h : Fit n A l) (h1 : n ≤ m) (h2 : A ≤ C) : Fit m C l := ⟨by have := h.len; omega, fun x hx => by have := h.small x hx; omega⟩
theorem Fit.joinF {C : Nat} : ∀ {ls : List (List Ins)} {n base : Nat}, (∀ l ∈ ls, Fit n C l) → (base + ls.flatten.length ≤ 300) → Fit ls.flatten.length (C + 300) (joinF base ls)
  | [], n, base, h, hb => ⟨by simp [Go.Proofs.Ytifhhfeibnpaoaa.joinF], fun x hx => by simp [Go.Proofs.Ytifhhfeibnpaoaa.joinF] at hx⟩
  | p :: r, n, base, h, hb => by
    rw [List.flatten_cons, List.length_append] at hb ⊢
    have h1 := Fit.joinF (ls := r) (n := n) (base := base + p.length) (fun l hl => h l (List.mem_cons_of_mem _ hl)) (by omega)
    have h2 := h p (List.mem_cons_self ..)
    refine ⟨by simp only [Go.Proofs.Ytifhhfeibnpaoaa.joinF, List.length_append, List.length_map]; have := h1.len; omega, fun x hx => ?_⟩
    simp only [Go.Proofs.Ytifhhfeibnpaoaa.joinF, List.mem_append, List.mem_map] at hx
    rcases hx with ⟨y, hy, rfl⟩ | hx
    · have := h2.small y hy
      unfold mv
      split
      · dsimp only; omega
      · omega
    · exact h1.small x hx
theorem nextV_byte {B : List Int} (hB : ∀ x ∈ B, 0 ≤ x ∧ x ≤ 255) (a : Int) : 0 ≤ nextV B a ∧ nextV B a ≤ 255 := by
  unfold nextV
  rw [List.getD_eq_getElem?_getD]
  cases h : B[a.toNat]? with
  | none => simp
  | some v => exact hB v (List.mem_of_getElem? h)
/-- The greatest length. -/
def mostL : Nat → Nat
  | 0 => 2
  | d + 1 => 2 * mostL d + 3
theorem mostL_ge : ∀ d, 2 ≤ mostL d
  | 0 => Nat.le_refl _
  | d + 1 => by have := mostL_ge d; simp only [mostL]; omega
theorem pieceF_fit {B : List Int} (hB : ∀ x ∈ B, 0 ≤ x ∧ x ≤ 255) : ∀ (d : Nat) (a fr : Int), mostL d ≤ 100 → 0 ≤ fr → fr + d ≤ 20 → Fit (mostL d) (1000 + 600 * d) (pieceF B d a fr).1
  | 0, a, fr, hm, h0, h1 => by
    have := nextV_byte hB a
    have e : (pieceF B 0 a fr).1 = joinF 0 [[(0, nextV B a % 3, 0)], [(19, 0, 0)]] := rfl
    rw [e]
    exact (Fit.joinF (C := 700) (n := 1) (by
      intro l hl
      simp only [List.mem_cons, List.not_mem_nil, or_false] at hl
      rcases hl with rfl | rfl <;> exact Fit.one (by omega)) (by simp)).mono (by simp [mostL]) (by omega)
  | d + 1, a, fr, hm, h0, h1 => by
    have hb := nextV_byte hB a
    have hg := mostL_ge d
    simp only [mostL] at hm ⊢
    have ih := fun (a' fr' : Int) (h : 0 ≤ fr' ∧ fr' + d ≤ 20) => pieceF_fit hB d a' fr' (by omega) h.1 h.2
    have go : ∀ (ls : List (List Ins)), (∀ l ∈ ls, Fit 100 (1000 + 600 * d) l) → ls.flatten.length ≤ 2 * mostL d + 3 → Fit (2 * mostL d + 3) (1000 + 600 * (d + 1)) (joinF 0 ls) := fun ls h2 h3 =>
      (Fit.joinF (base := 0) h2 (by omega)).mono h3 (by omega)
    unfold pieceF
    dsimp only
    split
    · have f1 := ih (a + 1) (fr + 1) (by omega)
      refine go _ ?_ ?_
      · intro l hl
        simp only [List.mem_cons, List.not_mem_nil, or_false] at hl
        rcases hl with rfl | rfl | rfl | rfl | rfl
        · exact (Fit.one (A := 1000) (by omega)).mono (by omega) (by omega)
        · exact (Fit.one (A := 1000) (by omega)).mono (by omega) (by omega)
        · exact f1.mono (by omega) (Nat.le_refl _)
        · exact (Fit.one (A := 1000) (by omega)).mono (by omega) (by omega)
        · exact (Fit.one (A := 1000) (by omega)).mono (by omega) (by omega)
      · have := f1.len
        simp <;> omega
    · split
      · have f1 := ih (a + 1) fr (by omega)
        have f2 := ih (pieceF B d (a + 1) fr).2 fr (by omega)
        refine go _ ?_ ?_
        · intro l hl
          simp only [List.mem_cons, List.not_mem_nil, or_false] at hl
          rcases hl with rfl | rfl
          · exact f1.mono (by omega) (Nat.le_refl _)
          · exact f2.mono (by omega) (Nat.le_refl _)
        · have := f1.len; have := f2.len
          simp <;> omega
      · split
        · have f1 := ih (a + 1) fr (by omega)
          have f2 := ih (pieceF B d (a + 1) fr).2 fr (by omega)
          have := f1.len; have := f2.len
          have := nextV_byte hB (pieceF B d (pieceF B d (a + 1) fr).2 fr).2
          refine go _ ?_ ?_
          · intro l hl
            simp only [List.mem_cons, List.not_mem_nil, or_false] at hl
            rcases hl with rfl | rfl | rfl | rfl | rfl
            · exact (Fit.one (A := 1000) (by omega)).mono (by omega) (by omega)
            · exact (Fit.one (A := 1000) (by omega)).mono (by omega) (by omega)
            · exact f1.mono (by omega) (Nat.le_refl _)
            · exact (Fit.one (A := 1000) (by omega)).mono (by omega) (by omega)
            · exact f2.mono (by omega) (Nat.le_refl _)
          · simp <;> omega
        · split
          · have f1 := ih (a + 1) fr (by omega)
            have := f1.len
            have := nextV_byte hB (pieceF B d (a + 1) fr).2
            refine go _ ?_ ?_
            · intro l hl
              simp only [List.mem_cons, List.not_mem_nil, or_false] at hl
              rcases hl with rfl | rfl | rfl
              · exact f1.mono (by omega) (Nat.le_refl _)
              · exact (Fit.one (A := 1000) (by omega)).mono (by omega) (by omega)
              · exact (Fit.one (A := 1000) (by omega)).mono (by omega) (by omega)
            · simp <;> omega
          · split
            · split
              · have := nextV_byte hB (a + 1)
                have := nextV_byte hB (a + 2)
                have h3 := Int.emod_nonneg (nextV B (a + 1)) (show fr ≠ 0 by omega)
                have h4 := Int.emod_lt_of_pos (nextV B (a + 1)) (show 0 < fr by omega)
                refine go _ ?_ ?_
                · intro l hl
                  simp only [List.mem_cons, List.not_mem_nil, or_false] at hl
                  rcases hl with rfl | rfl | rfl | rfl | rfl <;> exact (Fit.one (A := 1000) (by omega)).mono (by omega) (by omega)
                · simp <;> omega
              · exact (Fit.one (A := 1000) (by omega)).mono (by omega) (by omega)
            · have := nextV_byte hB (a + 1)
              refine go _ ?_ ?_
              · intro l hl
                simp only [List.mem_cons, List.not_mem_nil, or_false] at hl
                rcases hl with rfl | rfl <;> exact (Fit.one (A := 1000) (by omega)).mono (by omega) (by omega)
              · simp <;> omega
/-- How many bytes are taken. -/
def mostN : Nat → Int
  | 0 => 3
  | d + 1 => 2 * mostN d + 3
theorem mostN_ge : ∀ d, 3 ≤ mostN d
  | 0 => by simp [mostN]
  | d + 1 => by have := mostN_ge d; simp only [mostN]; omega
theorem pieceF_at (B : List Int) : ∀ (d : Nat) (a fr : Int), a + 1 ≤ (pieceF B d a fr).2 ∧ (pieceF B d a fr).2 ≤ a + mostN d
  | 0, a, fr => by simp [pieceF, mostN]
  | d + 1, a, fr => by
    have hg := mostN_ge d
    have i1 := fun fr' => pieceF_at B d (a + 1) fr'
    have i2 := pieceF_at B d (pieceF B d (a + 1) fr).2 fr
    have := i1 fr
    have := i1 (fr + 1)
    simp only [mostN]
    unfold pieceF
    dsimp only
    split
    · dsimp only; omega
    · split
      · dsimp only; omega
      · split
        · dsimp only; omega
        · split
          · dsimp only; omega
          · split
            · split <;> (dsimp only; omega)
            · dsimp only; omega
end Go.Proofs.Ytifhhfeibnpaoaa
