/- The images of CodeKnown that may not be laid, as one region makes them: values and blocks, by the blocks' numbers (printed by u3.py). -/
import Derived.Test.YtjdjkcebflablaaDoorWU1
import Derived.Test.YtjdjkcebflablaaDoorSlGb
set_option linter.unusedVariables false
set_option linter.unusedSimpArgs false
set_option linter.unusedSectionVars false
namespace Go.Proofs.YtjdjkcebflablaaDoor
open Go.SL
abbrev nilS : Value := .slice none 0 0
abbrev nw17 : List Nat := [2, 4, 8, 10, 14, 21, 29, 37, 40, 42, 45, 47, 49]
def succ17 : Nat → List Nat
  | 2 => [3, 49, 50]
  | 4 => [7, 49, 50]
  | 8 => [9, 10, 13, 49, 50]
  | 10 => [13, 49, 50]
  | 14 => [20, 21, 22, 49, 50]
  | 21 => [22, 49, 50]
  | 29 => [30, 49, 50]
  | 37 => [38, 49, 50]
  | 40 => [41, 42, 43, 49, 50]
  | 42 => [43, 49, 50]
  | 45 => [46, 47, 48, 49, 50]
  | 47 => [48, 49, 50]
  | 49 => [50]
  | _ => []
def kv17 (βx b1 b2 : Nat) (bf : Nat → Nat) : List Value :=
  [.agg ⟨[nilS, nilS]⟩,
   .agg ⟨[nilS, i64 0, i64 0, nilS]⟩,
   .slice (some ⟨bf 2, 0, none⟩) 1 1,
   .agg ⟨[nilS, .slice (some ⟨bf 2, 0, none⟩) 1 1]⟩,
   .slice (some ⟨bf 4, 0, none⟩) 17 17,
   .pointer (some ⟨βx, 0 + 1, none⟩),
   .slice (some ⟨b2, 0, none⟩) 1 1,
   .agg ⟨[.slice (some ⟨bf 4, 0, none⟩) 17 17, .slice (some ⟨b2, 0, none⟩) 1 1]⟩,
   .slice (some ⟨bf 8, 0, none⟩) 1 1,
   .agg ⟨[.slice (some ⟨bf 8, 0, none⟩) 1 1]⟩,
   .slice (some ⟨bf 10, 0, none⟩) 1 1,
   .pointer (some ⟨βx, 0 + 1, none⟩),
   .slice (some ⟨b2, 0, none⟩) 1 1,
   .agg ⟨[.slice (some ⟨bf 10, 0, none⟩) 1 1, .slice (some ⟨b2, 0, none⟩) 1 1]⟩,
   .slice (some ⟨bf 14, 0, none⟩) 1 1,
   .pointer (some ⟨βx, 0 + 1, none⟩),
   .slice (some ⟨b2, 0, none⟩) 1 1,
   .pointer (some ⟨b2, 0 + (0 : Int).toNat * 4, none⟩),
   .pointer (some ⟨b2, 0 + (0 : Int).toNat * 4 + 3, none⟩),
   .slice (some ⟨b1, 0, none⟩) 1 1,
   .agg ⟨[.slice (some ⟨bf 14, 0, none⟩) 1 1, i64 1, i64 0, .slice (some ⟨b1, 0, none⟩) 1 1]⟩,
   .slice (some ⟨bf 21, 0, none⟩) 1 1,
   .agg ⟨[nilS, .slice (some ⟨bf 21, 0, none⟩) 1 1]⟩,
   .pointer (some ⟨βx, 0 + 1, none⟩),
   .slice (some ⟨b2, 0, none⟩) 1 1,
   .pointer (some ⟨b2, 0 + (0 : Int).toNat * 4, none⟩),
   .pointer (some ⟨b2, 0 + (0 : Int).toNat * 4 + 3, none⟩),
   .slice (some ⟨b1, 0, none⟩) 1 1,
   .agg ⟨[nilS, i64 17, i64 0, .slice (some ⟨b1, 0, none⟩) 1 1]⟩,
   .slice (some ⟨bf 29, 0, none⟩) 1 1,
   .agg ⟨[nilS, .slice (some ⟨bf 29, 0, none⟩) 1 1]⟩,
   .pointer (some ⟨βx, 0 + 1, none⟩),
   .slice (some ⟨b2, 0, none⟩) 1 1,
   .pointer (some ⟨b2, 0 + (0 : Int).toNat * 4, none⟩),
   .pointer (some ⟨b2, 0 + (0 : Int).toNat * 4 + 3, none⟩),
   .slice (some ⟨b1, 0, none⟩) 1 1,
   .agg ⟨[nilS, i64 0, i64 (-1), .slice (some ⟨b1, 0, none⟩) 1 1]⟩,
   .slice (some ⟨bf 37, 0, none⟩) 1 1,
   .agg ⟨[nilS, .slice (some ⟨bf 37, 0, none⟩) 1 1]⟩,
   .agg ⟨[i64 256, i64 0, i64 0]⟩,
   .slice (some ⟨bf 40, 0, none⟩) 1 1,
   .agg ⟨[nilS, i64 0, i64 0, .slice (some ⟨bf 40, 0, none⟩) 1 1]⟩,
   .slice (some ⟨bf 42, 0, none⟩) 1 1,
   .agg ⟨[nilS, .slice (some ⟨bf 42, 0, none⟩) 1 1]⟩,
   .agg ⟨[i64 (-1), i64 0, i64 0]⟩,
   .slice (some ⟨bf 45, 0, none⟩) 1 1,
   .agg ⟨[nilS, i64 0, i64 0, .slice (some ⟨bf 45, 0, none⟩) 1 1]⟩,
   .slice (some ⟨bf 47, 0, none⟩) 1 1,
   .agg ⟨[nilS, .slice (some ⟨bf 47, 0, none⟩) 1 1]⟩,
   .slice (some ⟨bf 49, 0, none⟩) 9 9,
   .slice (some ⟨bf 49, 0, none⟩) 9 9]
def V17 (βx b1 b2 : Nat) (bf : Nat → Nat) (i : Nat) : Value := (kv17 βx b1 b2 bf).getD i undef
def ob17 (b1 b2 : Nat) (bf : Nat → Nat) : Nat → Obj
  | 2 => .cells ⟨[nilS, i64 0, i64 0, nilS]⟩ 56 (0, 0)
  | 4 => .cells ⟨(List.replicate 17 [nilS]).flatten⟩ 53 (0, 0)
  | 8 => .cells ⟨[i64 2]⟩ 50 (0, 0)
  | 10 => .cells ⟨[.slice (some ⟨bf 8, 0, none⟩) 1 1]⟩ 53 (0, 0)
  | 14 => .cells ⟨[i64 0]⟩ 50 (0, 0)
  | 21 => .cells ⟨[.slice (some ⟨bf 14, 0, none⟩) 1 1, i64 1, i64 0, .slice (some ⟨b1, 0, none⟩) 1 1]⟩ 56 (0, 0)
  | 29 => .cells ⟨[nilS, i64 17, i64 0, .slice (some ⟨b1, 0, none⟩) 1 1]⟩ 56 (0, 0)
  | 37 => .cells ⟨[nilS, i64 0, i64 (-1), .slice (some ⟨b1, 0, none⟩) 1 1]⟩ 56 (0, 0)
  | 40 => .cells ⟨[i64 256, i64 0, i64 0]⟩ 58 (0, 0)
  | 42 => .cells ⟨[nilS, i64 0, i64 0, .slice (some ⟨bf 40, 0, none⟩) 1 1]⟩ 56 (0, 0)
  | 45 => .cells ⟨[i64 (-1), i64 0, i64 0]⟩ 58 (0, 0)
  | 47 => .cells ⟨[nilS, i64 0, i64 0, .slice (some ⟨bf 45, 0, none⟩) 1 1]⟩ 56 (0, 0)
  | 49 => .cells ⟨[nilS, nilS, nilS, .slice (some ⟨bf 2, 0, none⟩) 1 1, .slice (some ⟨bf 4, 0, none⟩) 17 17, .slice (some ⟨b2, 0, none⟩) 1 1, .slice (some ⟨bf 10, 0, none⟩) 1 1, .slice (some ⟨b2, 0, none⟩) 1 1, nilS, .slice (some ⟨bf 21, 0, none⟩) 1 1, nilS, .slice (some ⟨bf 29, 0, none⟩) 1 1, nilS, .slice (some ⟨bf 37, 0, none⟩) 1 1, nilS, .slice (some ⟨bf 42, 0, none⟩) 1 1, nilS, .slice (some ⟨bf 47, 0, none⟩) 1 1]⟩ 25 (0, 0)
  | _ => .cells ⟨[]⟩ 0 (0, 0)
def maskL {α : Type} : List Bool → List α → List (Option α)
  | b :: m, x :: l => (bif b then some x else none) :: maskL m l
  | _, _ => []
theorem mask_at {α : Type} {d : α} : ∀ {m : List Bool} {l l' : List α} {j : Nat}, maskL m l = maskL m l' → l.length = m.length → l'.length = m.length → m.getD j false = true → l.getD j d = l'.getD j d
  | [], l, l', j, h, h1, h2, h3 => by simp at h3
  | b :: m, x :: l, y :: l', 0, h, h1, h2, h3 => by
    simp at h3; subst h3
    simp only [maskL, cond_true, List.cons.injEq, Option.some.injEq] at h
    simp [h.1]
  | b :: m, x :: l, y :: l', j + 1, h, h1, h2, h3 => by
    simp only [maskL, List.cons.injEq] at h
    simpa using mask_at (d := d) (j := j) h.2 (by simpa using h1) (by simpa using h2) (by simpa using h3)
  | b :: m, [], l', j, h, h1, h2, h3 => by simp at h1
  | b :: m, x :: l, [], j, h, h1, h2, h3 => by simp at h2
def mask17 (i : Nat) : List Bool := (List.range 51).map fun j => !((succ17 i).contains j) && !(Nat.beq j i)
theorem mask17_at {i j : Nat} (hj : j < 51) (h : ¬ (succ17 i).contains j = true) (hji : j ≠ i) : (mask17 i).getD j false = true := by
  have hb : Nat.beq j i = false := by
    cases e : Nat.beq j i with
    | false => rfl
    | true => exact absurd (Nat.eq_of_beq_eq_true e) hji
  have hc : (succ17 i).contains j = false := by simpa using h
  have hm : (mask17 i)[j]? = some (!((succ17 i).contains j) && !(Nat.beq j i)) := by
    unfold mask17
    rw [List.getElem?_map, List.getElem?_range hj]; rfl
  rw [List.getD_eq_getElem?_getD, hm, hb, hc]; rfl
theorem loc17 {βx b1 b2 i : Nat} {bf : Nat → Nat} {b : Nat} (h1 : maskL (mask17 i) (kv17 βx b1 b2 (upd bf i b)) = maskL (mask17 i) (kv17 βx b1 b2 bf))
    (h2 : maskL (mask17 i) ((List.range 51).map (ob17 b1 b2 (upd bf i b))) = maskL (mask17 i) ((List.range 51).map (ob17 b1 b2 bf))) {j : Nat} (hj : j < 51) (h : ¬ (succ17 i).contains j = true) (hji : j ≠ i) :
    V17 βx b1 b2 (upd bf i b) j = V17 βx b1 b2 bf j ∧ ob17 b1 b2 (upd bf i b) j = ob17 b1 b2 bf j := by
  have hm := mask17_at hj h hji
  have hl : (mask17 i).length = 51 := by simp [mask17]
  refine ⟨mask_at h1 (by rw [hl]; rfl) (by rw [hl]; rfl) hm, ?_⟩
  have := mask_at (d := .cells ⟨[]⟩ 0 (0, 0)) h2 (by rw [hl]; simp) (by rw [hl]; simp) hm
  simpa [List.getD_eq_getElem?_getD, List.getElem?_map, List.getElem?_range hj] using this
theorem local17 (βx b1 b2 : Nat) : ∀ i ∈ nw17, ∀ j, j < 51 → j ≠ i → (succ17 i).contains j = true ∨ ∀ bf b, V17 βx b1 b2 (upd bf i b) j = V17 βx b1 b2 bf j ∧ ob17 b1 b2 (upd bf i b) j = ob17 b1 b2 bf j := by
  intro i hi j hj hji
  by_cases h : (succ17 i).contains j = true
  · exact .inl h
  · refine .inr fun bf b => ?_
    simp only [nw17, List.mem_cons, List.not_mem_nil, or_false] at hi
    rcases hi with rfl | rfl | rfl | rfl | rfl | rfl | rfl | rfl | rfl | rfl | rfl | rfl | rfl
    all_goals exact loc17 rfl rfl hj h hji
theorem self17 (b1 b2 : Nat) : ∀ i ∈ nw17, ∀ bf b, ob17 b1 b2 (upd bf i b) i = ob17 b1 b2 bf i := by
  intro i hi bf b
  simp only [nw17, List.mem_cons, List.not_mem_nil, or_false] at hi
  rcases hi with rfl | rfl | rfl | rfl | rfl | rfl | rfl | rfl | rfl | rfl | rfl | rfl | rfl
  all_goals rfl
end Go.Proofs.YtjdjkcebflablaaDoor
