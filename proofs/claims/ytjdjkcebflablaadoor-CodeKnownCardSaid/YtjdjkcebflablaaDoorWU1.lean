/- The chapter's greatest image, and images that may not be laid: plain. -/
import Derived.Test.YtjdjkcebflablaaDoorWT1
import Derived.Test.YtjdjkcebflablaaDoorWN3
set_option linter.unusedVariables false
set_option linter.unusedSimpArgs false
set_option linter.unusedSectionVars false
namespace Go.Proofs.YtjdjkcebflablaaDoor
open Go.SL
/-- Some heaps stay; the others become one. -/
theorem swp_gather {P : Program} {r : Option Nat} {F : Heap} {n : Nat} {c : Code} {Q : SPost} {env : Env} {own rest : List Heap} {ds : List Deferred} (keep : List Heap) [t : TakeL own keep rest]
    (h : ∀ L, (∀ k ∈ rest, hle k L) → SWP P r F n c Q env (L :: keep) ds) : SWP P r F n c Q env own ds := by
  intro a w ha hd hs
  have s2 : Sat (rest ++ (F :: keep)) w := hs.perm (by
    have h1 : (F :: own).Perm (F :: (keep ++ rest)) := t.perm.cons F
    refine h1.trans ?_
    exact (List.perm_append_comm (l₁ := F :: keep) (l₂ := rest)))
  have d : rest.Pairwise Disj := (List.pairwise_append.1 s2.dj).1
  exact h (joins rest) (fun k hk => hle_joins d hk) a w ha hd (s2.joins.perm (List.Perm.swap _ _ _))
abbrev zI : Ins := ⟨0, 0, 0⟩
def cls0 : List Int := [16, 0, 1, 2, 3, 4, 5, 6]
def lastI : Ins := ⟨255, -9223372036854775808, 9223372036854775807⟩
def m0 : Me := ⟨[], 16, 32, List.replicate 256 zI⟩
def fullM (i : Nat) : Me := ⟨if i = 31 then List.replicate 16 0 else [], 16, 32, if i = 1 then (List.replicate 256 zI).set 255 lastI else List.replicate 256 zI⟩
def fullI : Im := ⟨List.replicate 16 cls0, (List.range 32).map fullM⟩
theorem full_may : mayF fullI = true := by decide +kernel
theorem full_all : AllI fullI := fun m hm y hy => by
  obtain ⟨i, -, rfl⟩ := List.mem_map.1 hm
  simp only [fullM] at hy
  split at hy
  · rcases List.mem_or_eq_of_mem_set hy with hy | rfl
    · rw [(List.mem_replicate.1 hy).2]; unfold I64; dsimp only; omega
    · unfold I64 lastI; dsimp only; omega
  · rw [(List.mem_replicate.1 hy).2]; unfold I64; dsimp only; omega
theorem full_ok : ImOk fullI := (mayF_iff_ok full_all).1 full_may
theorem mB_length (m : Me) : (mB m).length = 5 + m.params.length + m.code.length * 17 := by
  simp only [mB, List.length_append, leB_length, codeB_length, kB_length]
  omega
theorem full_len : (imB fullI).length = 139589 := by
  simp only [imB, List.length_append, leB_length, List.length_flatten, List.map_map, List.length_cons, List.length_nil]
  have e1 : (fullI.cls.map (List.length ∘ kB)) = List.replicate 16 9 := by
    simp only [fullI, List.map_replicate]
    congr 1
  have e2 : (fullI.ms.map (List.length ∘ mB)) = (List.range 32).map fun i => 5 + (if i = 31 then 16 else 0) + 256 * 17 := by
    simp only [fullI, List.map_map]
    refine List.map_congr_left fun i _ => ?_
    simp only [Function.comp, mB_length, fullM]
    split <;> split <;> simp only [List.length_set, List.length_replicate, List.length_nil]
  rw [e1, e2]
  decide
theorem full_ne : leastI ≠ fullI := fun h => by
  have := congrArg (fun x => x.ms.length) h
  simp [leastI, fullI] at this
/-! Images that may not be laid. -/
def mL (ps : List Int) (lo st : Int) (code : List Ins) : Im := ⟨[], [⟨ps, lo, st, code⟩]⟩
def badI : List Im := [noIm, mL [] 0 0 [], ⟨List.replicate 17 [], leastI.ms⟩, ⟨[[2]], leastI.ms⟩, mL [0] 1 0 [⟨20, 0, 0⟩], mL [] 17 0 [⟨20, 0, 0⟩], mL [] 0 (-1) [⟨20, 0, 0⟩], mL [] 0 0 [⟨256, 0, 0⟩], mL [] 0 0 [⟨-1, 0, 0⟩]]
theorem bad_no : ∀ x ∈ badI, mayF x = false := by decide +kernel
theorem wrong0 : wrongF [] 0 = true := by decide +kernel
theorem wrong1 : wrongF [68, 75, 2, 0] 0 = true := by decide +kernel
theorem wrong2 : wrongF [68, 75, 1] 3 = true := by decide +kernel
theorem wrong3 : wrongF [68, 75, 1, 17] 3 = true := by decide +kernel
/-- One method, of no classes. -/
theorem im_one {L : Heap} {b : Nat} {ps : List Int} {lo st : Int} {code : List Ins} {pb cb : Option Addr} {pc cc : Nat} (h : hle (blk b (.cells ⟨[.slice pb ps.length pc, i64 lo, i64 st, .slice cb code.length cc]⟩ 56 (0, 0))) L)
    (h1 : Sl L pb (ps.map i64)) (h2 : ps.length ≤ 1000) (h3 : Sl L cb (flatI code)) (h4 : code.length ≤ cc) (h5 : code.length ≤ 1000) : ImIn L (mL ps lo st code) (.agg ⟨[.slice none 0 0, .slice (some ⟨b, 0, none⟩) 1 1]⟩) := by
  refine ⟨none, 0, 0, some ⟨b, 0, none⟩, 1, 1, rfl, ⟨[], ⟨fun j v h => by simp at h⟩, rfl, rfl, by decide, fun i f h => by simp [mL] at h⟩, ⟨_, Sl.blk.mono h, rfl, rfl, by decide, fun i m hm => ?_⟩, Nat.le_refl _, Nat.le_refl _⟩
  have hi : i = 0 := by
    have := (List.getElem?_eq_some_iff.1 hm).1
    simp [mL] at this; exact this
  subst hi
  simp only [mL, List.getElem?_cons_zero, Option.some.injEq] at hm
  subst hm
  exact ⟨pb, ps.length, pc, cb, code.length, cc, rfl, rfl, rfl, rfl, h1, rfl, by omega, h3, rfl, h4, by omega⟩
/-- Classes, and methods of another image. -/
theorem im_with {L : Heap} {cls : List (List Int)} {ms : List Me} {clb mb : Option Addr} {cln clc mn mc : Nat} (h1 : ClsIn L cls clb cln) (h2 : MsIn L ms mb mn) (h3 : cln ≤ clc) (h4 : mn ≤ mc) : ImIn L ⟨cls, ms⟩ (.agg ⟨[.slice clb cln clc, .slice mb mn mc]⟩) :=
  ⟨clb, cln, clc, mb, mn, mc, rfl, h1, h2, h3, h4⟩
/-! Methods; the code of the second one lies apart. -/
def MsX (K hc : Heap) (ms : List Me) (vals : List Value) : Prop :=
  vals.length = ms.length * 4 ∧ (ms.length ≤ 1 → hc = emp) ∧ ∀ (i : Nat) (m : Me), ms[i]? = some m → ∃ pb pc cb cc, vals[i * 4]? = some (.slice pb m.params.length pc) ∧ vals[i * 4 + 1]? = some (i64 m.lo) ∧ vals[i * 4 + 2]? = some (i64 m.st) ∧ vals[i * 4 + 3]? = some (.slice cb m.code.length cc) ∧
    Sl K pb (m.params.map i64) ∧ m.params.length ≤ 1000 ∧ m.code.length ≤ cc ∧ m.code.length ≤ 1000 ∧ (i ≠ 1 → Sl K cb (flatI m.code)) ∧ (i = 1 → OS hc cb m.code.length cc 58 3 (flatI m.code))
theorem MsX.nil {K : Heap} : MsX K emp [] [] := ⟨rfl, fun _ => rfl, fun i f h => by simp at h⟩
theorem MsX.mono {K K' hc : Heap} {ms : List Me} {vals : List Value} (h : MsX K hc ms vals) (l : hle K K') : MsX K' hc ms vals := by
  refine ⟨h.1, h.2.1, fun i m hm => ?_⟩
  obtain ⟨pb, pc, cb, cc, g1, g2, g3, g4, g5, g6, g7, g8, g9, g10⟩ := h.2.2 i m hm
  exact ⟨pb, pc, cb, cc, g1, g2, g3, g4, g5.mono l, g6, g7, g8, fun e => (g9 e).mono l, g10⟩
theorem snoc_at {ms : List Me} {m0 m : Me} {i : Nat} (h : (ms ++ [m0])[i]? = some m) : (i < ms.length ∧ ms[i]? = some m) ∨ (i = ms.length ∧ m = m0) := by
  by_cases hi : i < ms.length
  · rw [List.getElem?_append_left hi] at h; exact .inl ⟨hi, h⟩
  · have hi2 : i = ms.length := by
      have := (List.getElem?_eq_some_iff.1 h).1
      simp at this; omega
    subst hi2
    simp at h; exact .inr ⟨rfl, h.symm⟩
theorem MsX.snoc {K hc hc' : Heap} {ms : List Me} {vals : List Value} {m : Me} {pb cb : Option Addr} {pc cc : Nat} (h : MsX K hc ms vals)
    (h1 : Sl K pb (m.params.map i64)) (h2 : m.params.length ≤ 1000) (h3 : m.code.length ≤ cc) (h4 : m.code.length ≤ 1000)
    (h6 : ms.length ≠ 1 → Sl K cb (flatI m.code) ∧ hc' = hc) (h7 : ms.length = 1 → OS hc' cb m.code.length cc 58 3 (flatI m.code)) :
    MsX K hc' (ms ++ [m]) (vals ++ [.slice pb m.params.length pc, i64 m.lo, i64 m.st, .slice cb m.code.length cc]) := by
  obtain ⟨a1, a2, a3⟩ := h
  refine ⟨by simp [a1]; omega, fun hl => ?_, fun i m' hm' => ?_⟩
  · rw [List.length_append, List.length_singleton] at hl
    rw [(h6 (by omega)).2]; exact a2 (by omega)
  · rcases snoc_at hm' with ⟨hi, hm2⟩ | ⟨rfl, rfl⟩
    · obtain ⟨pb', pc', cb', cc', g1, g2, g3, g4, g5, g6, g7, g8, g9, g10⟩ := a3 i m' hm2
      refine ⟨pb', pc', cb', cc', ?_, ?_, ?_, ?_, g5, g6, g7, g8, g9, fun e => ?_⟩
      · rw [List.getElem?_append_left (by omega)]; exact g1
      · rw [List.getElem?_append_left (by omega)]; exact g2
      · rw [List.getElem?_append_left (by omega)]; exact g3
      · rw [List.getElem?_append_left (by omega)]; exact g4
      · rw [(h6 (by omega)).2]; exact g10 e
    · obtain ⟨q0, q1, q2, q3⟩ := vals_at (v0 := .slice pb m'.params.length pc) (v1 := i64 m'.lo) (v2 := i64 m'.st) (v3 := .slice cb m'.code.length cc) a1
      exact ⟨pb, pc, cb, cc, q0, q1, q2, q3, h1, h2, h3, h4, fun e => (h6 e).1, fun e => h7 e⟩
theorem MsX.snocN {K hc hc' : Heap} {ms : List Me} {vals : List Value} {m : Me} {pb cb : Option Addr} {pc cc pl cl : Nat} {lo st : Int} (h : MsX K hc ms vals) (e1 : m.params.length = pl) (e2 : m.lo = lo) (e3 : m.st = st) (e4 : m.code.length = cl)
    (h1 : Sl K pb (m.params.map i64)) (h2 : pl ≤ 1000) (h3 : cl ≤ cc) (h4 : cl ≤ 1000)
    (h6 : ms.length ≠ 1 → Sl K cb (flatI m.code) ∧ hc' = hc) (h7 : ms.length = 1 → OS hc' cb cl cc 58 3 (flatI m.code)) :
    MsX K hc' (ms ++ [m]) (vals ++ [.slice pb pl pc, i64 lo, i64 st, .slice cb cl cc]) := by
  subst e1 e2 e3 e4
  exact h.snoc h1 h2 h3 h4 h6 h7
theorem set_one {vals : List Value} {j n k : Nat} {z v : Value} (hv : vals.length = j) (hj : j < n) (hk : k = j) : (vals ++ List.replicate (n - j) z).take k ++ [v] ++ (vals ++ List.replicate (n - j) z).drop (k + 1) = (vals ++ [v]) ++ List.replicate (n - (j + 1)) z := by
  subst hk
  have e1 : (vals ++ List.replicate (n - k) z).take k = vals := by rw [List.take_append_of_le_length (by omega), List.take_of_length_le (by omega)]
  have e2 : (vals ++ List.replicate (n - k) z).drop (k + 1) = List.replicate (n - (k + 1)) z := by
    rw [List.drop_append, List.drop_of_length_le (by omega), List.nil_append, List.drop_replicate]
    congr 1; omega
  rw [e1, e2]
theorem zf_len (n : Nat) (z : List Value) (hz : z.length = 4) : (List.replicate n z).flatten.length = n * 4 := by
  simp [hz]
theorem set_four {vals : List Value} {j n k : Nat} {z v : List Value} (hz : z.length = 4) (hv4 : v.length = 4) (hv : vals.length = j * 4) (hj : j < n) (hk : k = j * 4) : (vals ++ (List.replicate (n - j) z).flatten).take k ++ v ++ (vals ++ (List.replicate (n - j) z).flatten).drop (k + 4) = (vals ++ v) ++ (List.replicate (n - (j + 1)) z).flatten := by
  subst hk
  have e1 : (vals ++ (List.replicate (n - j) z).flatten).take (j * 4) = vals := by rw [List.take_append_of_le_length (by omega), List.take_of_length_le (by omega)]
  have e2 : (vals ++ (List.replicate (n - j) z).flatten).drop (j * 4 + 4) = (List.replicate (n - (j + 1)) z).flatten := by
    rw [List.drop_append, List.drop_of_length_le (by omega), List.nil_append, show n - j = (n - (j + 1)) + 1 by omega, List.replicate_succ, List.flatten_cons, List.drop_append_of_le_length (by omega), List.drop_of_length_le (by omega), List.nil_append]
  rw [e1, e2]
theorem flatI_set : ∀ {l : List Ins} {k : Nat} (x : Ins), k < l.length → (flatI l).take (k * 3) ++ [i64 x.op, i64 x.a, i64 x.b] ++ (flatI l).drop (k * 3 + 3) = flatI (l.set k x)
  | [], k, x, h => by simp at h
  | y :: l, 0, x, h => by simp [flatI]
  | y :: l, k + 1, x, h => by
    have ih := flatI_set (l := l) (k := k) x (by simpa using h)
    have e : (k + 1) * 3 = k * 3 + 1 + 1 + 1 := by omega
    have e2 : (k + 1) * 3 + 3 = k * 3 + 3 + 1 + 1 + 1 := by omega
    rw [e2, e]
    simp only [flatI, List.take_succ_cons, List.drop_succ_cons, List.cons_append, List.set_cons_succ, ← ih]
theorem flatI_zeros : ∀ n, flatI (List.replicate n zI) = (List.replicate n [i64 0, i64 0, i64 0]).flatten
  | 0 => rfl
  | n + 1 => by simp only [List.replicate_succ, flatI, flatI_zeros n, List.flatten_cons, List.cons_append, List.nil_append]
end Go.Proofs.YtjdjkcebflablaaDoor
