/- The document's Decode, as a function. -/
import Derived.Test.YtjdjkcebflablaaDoorWI2
set_option linter.unusedVariables false
set_option linter.unusedSimpArgs false
set_option linter.unusedSectionVars false
namespace Go.Proofs.YtjdjkcebflablaaDoor
open Go.SL
/-- So many, one behind the other, until something is wrong. -/
def whileS {α : Type} (f : Nat → Rs → α × Rs) : Nat → Rs → List α × Rs
  | 0, r => ([], r)
  | k + 1, r => if (whileS f k r).2.ok = true then ((whileS f k r).1 ++ [(f k (whileS f k r).2).1], (f k (whileS f k r).2).2) else whileS f k r
theorem whileS_le {α : Type} {f : Nat → Rs → α × Rs} {r : Rs} : ∀ k, (whileS f k r).1.length ≤ k
  | 0 => Nat.le_refl _
  | k + 1 => by
    have := whileS_le (f := f) (r := r) k
    simp only [whileS]
    split
    · simp; exact this
    · omega
theorem whileS_at {α : Type} {s : List UInt8} {f : Nat → Rs → α × Rs} {r : Rs} (hf : ∀ i r, r.at ≤ s.length → (f i r).2.at ≤ s.length) (h : r.at ≤ s.length) : ∀ k, (whileS f k r).2.at ≤ s.length
  | 0 => h
  | k + 1 => by
    have := whileS_at hf h k
    simp only [whileS]
    split
    · exact hf _ _ this
    · exact this
/-- Nothing more comes when something is wrong. -/
theorem whileS_stop {α : Type} {f : Nat → Rs → α × Rs} {r : Rs} {j : Nat} (h : (whileS f j r).2.ok = false) : ∀ {n}, j ≤ n → whileS f n r = whileS f j r := by
  intro n
  induction n with
  | zero => intro hj; obtain rfl : j = 0 := (by omega); rfl
  | succ n ih =>
    intro hj
    by_cases e : j = n + 1
    · rw [e]
    · have := ih (by omega)
      simp [whileS, this, h]
theorem whileS_go {α : Type} {f : Nat → Rs → α × Rs} {r x : Rs} {j : Nat} {l : List α} (h : whileS f j r = (l, x)) (hx : x.ok = true) : whileS f (j + 1) r = (l ++ [(f j x).1], (f j x).2) := by
  simp only [whileS, h, hx, if_true]
theorem whileS_len {α : Type} {f : Nat → Rs → α × Rs} {r x : Rs} {j : Nat} {l : List α} (h : whileS f j r = (l, x)) (hx : x.ok = true) : l.length = j := by
  induction j generalizing l x with
  | zero => cases h; rfl
  | succ n ih =>
    obtain ⟨l', x', h'⟩ : ∃ l' x', whileS f n r = (l', x') := ⟨_, _, rfl⟩
    by_cases e : x'.ok = true
    · rw [whileS_go h' e] at h
      cases h
      simp [ih h' e]
    · exfalso
      simp only [whileS, h', if_neg e] at h
      cases h
      exact e hx
def ins1S (s : List UInt8) (r : Rs) : Ins × Rs :=
  (⟨(numS s 1 0 255 r).1, (numS s 8 0 0 (numS s 1 0 255 r).2).1, (numS s 8 0 0 (numS s 8 0 0 (numS s 1 0 255 r).2).2).1⟩, (numS s 8 0 0 (numS s 8 0 0 (numS s 1 0 255 r).2).2).2)
def classS (s : List UInt8) (cl : Int) (r : Rs) : List Int × Rs := kindsS s (numS s 1 0 8 r).1.toNat cl (numS s 1 0 8 r).2
def methS (s : List UInt8) (cl : Int) (i : Nat) (r : Rs) : Me × Rs :=
  let np := numS s 1 0 (if i = 0 then 0 else 16) r
  let ps := kindsS s np.1.toNat cl np.2
  let lo := numS s 1 ps.1.length 16 ps.2
  let st := numS s 1 0 32 lo.2
  let mn := numS s 2 1 256 st.2
  let cd := whileS (fun _ => ins1S s) mn.1.toNat mn.2
  (⟨ps.1, lo.1, st.1, cd.1⟩, cd.2)
def noIm : Im := ⟨[], []⟩
/-- What the document's Decode answers: an image, and the first place that is wrong (-1: none is). -/
def rdec (s : List UInt8) : Im × Int :=
  if s.take 3 = [68, 75, 1] then
    let n := numS s 1 0 16 (.good 3)
    let cls := iterS (classS s n.1) n.1.toNat n.2
    let k := numS s 1 1 32 cls.2
    let ms := whileS (methS s n.1) k.1.toNat k.2
    match ms.2 with
    | .bad _ q => (noIm, (q : Int))
    | .good a => if a < s.length then (noIm, (a : Int)) else (⟨cls.1, ms.1⟩, -1)
  else (noIm, 0)
theorem numS_nat {s : List UInt8} {many : Nat} {least most : Nat} {r : Rs} (hm : many < 8) (hl : least ≤ most) (ha : r.at ≤ s.length) : ∃ (n : Nat) (x : Rs), numS s many least most r = ((n : Int), x) ∧ least ≤ n ∧ n ≤ most ∧ x.at ≤ s.length := by
  obtain ⟨h1, h2⟩ := numS_wi (s := s) (r := r) hm (show (least : Int) ≤ most by omega)
  obtain ⟨n, hn⟩ := Int.eq_ofNat_of_zero_le (show 0 ≤ (numS s many least most r).1 by omega)
  exact ⟨n, (numS s many least most r).2, Prod.ext hn rfl, by omega, by omega, numS_at ha⟩
theorem numS_any {s : List UInt8} {many : Nat} {least most : Int} {r : Rs} (ha : r.at ≤ s.length) : ∃ (n : Int) (x : Rs), numS s many least most r = (n, x) ∧ x.at ≤ s.length :=
  ⟨_, _, rfl, numS_at ha⟩
theorem kindsS_any {s : List UInt8} {n : Nat} {cl : Int} {r : Rs} (ha : r.at ≤ s.length) : ∃ (l : List Int) (x : Rs), kindsS s n cl r = (l, x) ∧ l.length = n ∧ x.at ≤ s.length :=
  ⟨_, _, rfl, kindsS_len, kindsS_at ha⟩
theorem ins1S_eq {s : List UInt8} {r x1 x2 x3 : Rs} {o a b : Int} (h1 : numS s 1 0 255 r = (o, x1)) (h2 : numS s 8 0 0 x1 = (a, x2)) (h3 : numS s 8 0 0 x2 = (b, x3)) : ins1S s r = (⟨o, a, b⟩, x3) := by
  simp only [ins1S, h1, h2, h3]
theorem classS_eq {s : List UInt8} {cl : Int} {r x1 : Rs} {n : Nat} (h1 : numS s 1 0 8 r = ((n : Int), x1)) : classS s cl r = kindsS s n cl x1 := by
  simp only [classS, h1, Int.toNat_natCast]
theorem methS_eq {s : List UInt8} {cl : Int} {i : Nat} {r x1 x2 x3 x4 x5 x6 : Rs} {np lo st mn : Nat} {ps : List Int} {cd : List Ins} (h1 : numS s 1 0 (if i = 0 then 0 else 16) r = ((np : Int), x1)) (h2 : kindsS s np cl x1 = (ps, x2)) (h3 : numS s 1 ps.length 16 x2 = ((lo : Int), x3))
    (h4 : numS s 1 0 32 x3 = ((st : Int), x4)) (h5 : numS s 2 1 256 x4 = ((mn : Int), x5)) (h6 : whileS (fun _ => ins1S s) mn x5 = (cd, x6)) : methS s cl i r = (⟨ps, lo, st, cd⟩, x6) := by
  simp only [methS, h1, h2, h3, h4, h5, h6, Int.toNat_natCast]
theorem rdec_eq {s : List UInt8} {n k : Nat} {x1 x2 x3 x4 : Rs} {cls : List (List Int)} {ms : List Me} (h0 : s.take 3 = [68, 75, 1]) (h1 : numS s 1 0 16 (.good 3) = ((n : Int), x1)) (h2 : iterS (classS s n) n x1 = (cls, x2)) (h3 : numS s 1 1 32 x2 = ((k : Int), x3)) (h4 : whileS (methS s n) k x3 = (ms, x4)) :
    rdec s = match x4 with | .bad _ q => (noIm, (q : Int)) | .good a => if a < s.length then (noIm, (a : Int)) else (⟨cls, ms⟩, -1) := by
  simp only [rdec, if_pos h0, h1, h2, h3, h4, Int.toNat_natCast]
  cases x4 <;> rfl
end Go.Proofs.YtjdjkcebflablaaDoor
