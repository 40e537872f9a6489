/- Rows of whole numbers; what loops of SpecWakes look for. -/
import Derived.Test.YtimmclibnfdjhaaWW3
import Derived.Test.YtimmclibnfdjhaaSlG9
namespace Go.Proofs.Ytimmclibnfdjhaa
open Go.SL
def rowV (n : Nat) (g : Nat → Int) : List Value := (List.range n).map fun u => i64 (g u)
def upI (g : Nat → Int) (k : Nat) (x : Int) : Nat → Int := fun u => if u = k then x else g u
theorem rowV_length (n : Nat) (g : Nat → Int) : (rowV n g).length = n := by simp [rowV]
theorem rowV_at {n : Nat} {g : Nat → Int} {k : Nat} (h : k < n) : (rowV n g)[((k : Nat) : Int).toNat * 1]? = some (i64 (g k)) := by
  have e : ((k : Nat) : Int).toNat * 1 = k := by simp
  rw [e]
  simp [rowV, List.getElem?_map, List.getElem?_range h]
theorem rowV_congr {n : Nat} {g h : Nat → Int} (e : ∀ u, u < n → g u = h u) : rowV n g = rowV n h := by
  unfold rowV
  exact List.map_congr_left fun u hu => by rw [e u (List.mem_range.1 hu)]
theorem rowV_set {n : Nat} {g : Nat → Int} {k : Nat} {x : Int} (h : k < n) : (rowV n g).take (((k : Nat) : Int).toNat * 1) ++ [i64 x] ++ (rowV n g).drop (((k : Nat) : Int).toNat * 1 + [i64 x].length) = rowV n (upI g k x) := by
  have e : ((k : Nat) : Int).toNat * 1 = k := by simp
  rw [e]
  have e2 : (rowV n g).take k ++ [i64 x] ++ (rowV n g).drop (k + 1) = (rowV n g).set k (i64 x) := by
    rw [List.set_eq_take_append_cons_drop, if_pos (by rw [rowV_length]; exact h)]
    simp
  refine e2.trans ?_
  apply List.ext_getElem?
  intro u
  rw [List.getElem?_set]
  by_cases hu : u < n
  · by_cases hk : k = u
    · subst hk
      simp [rowV, hu, upI]
    · simp [rowV, hu, upI, hk, Ne.symm hk]
  · have : ¬ k = u := by omega
    simp [rowV, hu, this]
theorem rowV_new (n : Nat) : List.replicate n (i64 0) = rowV n fun _ => 0 := by
  apply List.ext_getElem?
  intro u
  by_cases hu : u < n <;> simp [rowV, hu, List.getElem?_replicate]
theorem upI_self (g : Nat → Int) (k : Nat) (x : Int) : upI g k x k = x := if_pos rfl
theorem upI_upI (g : Nat → Int) (k : Nat) (x y : Int) : upI (upI g k x) k y = upI g k y := by
  funext u
  by_cases h : u = k <;> simp [upI, h]
def u1 (od : List Nat) (u : Nat) : Int := if u ∈ od then 1 else 0
def c1 (D : Nat → Nat) (od : List Nat) (u : Nat) : Int := if u ∈ od then (D u : Int) + 1 else 0
def c3 (D : Nat → Nat) (od : List Nat) (j u : Nat) : Int := if u ∈ od then (if od.idxOf u < j then (D u : Int) + 1 else (D u : Int) + 2 + ((D u : Int) + 1)) else 0
theorem c1_snoc (D : Nat → Nat) {od : List Nat} {t : Nat} (h : t ∉ od) : upI (c1 D od) t ((D t : Int) + 1) = c1 D (od ++ [t]) := by
  funext u
  by_cases e : u = t
  · subst e; simp [upI, c1]
  · simp [upI, c1, e]
theorem u1_snoc {od : List Nat} {t : Nat} : upI (u1 od) t 1 = u1 (od ++ [t]) := by
  funext u
  by_cases e : u = t
  · subst e; simp [upI, u1]
  · simp [upI, u1, e]
theorem natV_snoc (od : List Nat) (t : Nat) : natV (od ++ [t]) = natV od ++ [i64 (t : Int)] := by simp [natV]
theorem natV_at {od : List Nat} {i t : Nat} (h : od[i]? = some t) : (natV od)[((i : Nat) : Int).toNat * 1]? = some (i64 (t : Int)) := by
  have e : ((i : Nat) : Int).toNat * 1 = i := by simp
  rw [e]
  simp [natV, h]
theorem natV_length (od : List Nat) : (natV od).length = od.length := by simp [natV]
theorem len_le : ∀ {l1 l2 : List Nat}, l1.Nodup → (∀ x ∈ l1, x ∈ l2) → l1.length ≤ l2.length
  | [], _, _, _ => Nat.zero_le _
  | x :: l1, l2, hd, hs => by
    have hx : x ∈ l2 := hs x (List.mem_cons_self ..)
    have hd' := List.nodup_cons.1 hd
    have ih := len_le (l1 := l1) (l2 := l2.erase x) hd'.2 fun y hy => by
      refine (List.mem_erase_of_ne ?_).2 (hs y (List.mem_cons_of_mem _ hy))
      intro e; subst e; exact hd'.1 hy
    rw [List.length_erase_of_mem hx] at ih
    have : 0 < l2.length := List.length_pos_of_mem hx
    simp only [List.length_cons]; omega
/-- Fewer than six numbers below six leave one out. -/
theorem free {od : List Nat} (hn : od.length < 6) : ∃ x, x < 6 ∧ x ∉ od := by
  by_cases h : ∀ x, x < 6 → x ∈ od
  · exfalso
    have := len_le (l1 := List.range 6) (l2 := od) List.nodup_range fun x hx => h x (List.mem_range.1 hx)
    simp at this; omega
  · exact Classical.byContradiction fun hc => h fun x hx => Classical.byContradiction fun hm => hc ⟨x, hx, hm⟩
theorem full {od : List Nat} (hn : od.length = 6) (hd : od.Nodup) (hl : ∀ u ∈ od, u < 6) : ∀ u, u < 6 → u ∈ od ∧ od.idxOf u < 6 := by
  intro u hu
  have hm : u ∈ od := Classical.byContradiction fun hc => by
    have := len_le (l1 := u :: od) (l2 := List.range 6) (List.nodup_cons.2 ⟨hc, hd⟩) fun x hx => by
      rcases List.mem_cons.1 hx with rfl | hx
      · exact List.mem_range.2 hu
      · exact List.mem_range.2 (hl x hx)
    simp [hn] at this
  exact ⟨hm, by rw [← hn]; exact List.idxOf_lt_length_of_mem hm⟩
theorem tm {a : Int} {k : Nat} (h : 0 ≤ a) : a.tmod (k : Int) = ((a.toNat % k : Nat) : Int) := by
  obtain ⟨n, rfl⟩ := Int.eq_ofNat_of_zero_le h
  simp [Int.tmod]
theorem wrapN {n : Nat} (h : n ≤ 1000) : IntKind.i64.wrap (n : Int) = (n : Int) := wrap64_id (by omega) (by omega)
theorem c3_6 {D : Nat → Nat} {od : List Nat} (h : ∀ u ∈ od, od.idxOf u < 6) : c1 D od = c3 D od 6 := by
  funext u
  by_cases hm : u ∈ od
  · simp [c1, c3, hm, h u hm]
  · simp [c1, c3, hm]
theorem c3_next {D : Nat → Nat} {od : List Nat} {j t : Nat} (hnd : od.Nodup) (h : od[j]? = some t) : upI (c3 D od (j + 1)) t ((D t : Int) + 2 + ((D t : Int) + 1)) = c3 D od j := by
  obtain ⟨hm, hi⟩ := idx_at hnd h
  funext u
  by_cases e : u = t
  · subst e; simp [upI, c3, hm, hi]
  · by_cases hmu : u ∈ od
    · have hneq : od.idxOf u ≠ j := fun he => by
        obtain ⟨h1, h2⟩ := List.getElem?_eq_some_iff.1 h
        have hl : od.idxOf u < od.length := by omega
        have h3 : od[od.idxOf u]'hl = u := List.getElem_idxOf hl
        apply e
        rw [← h3, ← h2]
        congr 1
      simp only [upI, c3, if_neg e, if_pos hmu]
      by_cases hlt' : od.idxOf u < j
      · rw [if_pos hlt', if_pos (by omega)]
      · rw [if_neg hlt', if_neg (by omega)]
    · simp [upI, c3, e, hmu]
theorem c3_at {D : Nat → Nat} {od : List Nat} {j t : Nat} (hnd : od.Nodup) (h : od[j]? = some t) : c3 D od (j + 1) t = (D t : Int) + 1 := by
  obtain ⟨hm, hi⟩ := idx_at hnd h
  simp [c3, hm, hi]
theorem getD_at {l : List Int} {i : Nat} (h : i < l.length) : nth (l.map fun a => Value.int .u8 a) (0 + ((i : Nat) : Int).toNat * 1) = some (.int .u8 (l.getD i 0)) := by
  rw [nth_eq]
  have e : 0 + ((i : Nat) : Int).toNat * 1 = i := by simp
  rw [e]
  simp [List.getD_eq_getElem?_getD, h]
end Go.Proofs.Ytimmclibnfdjhaa
