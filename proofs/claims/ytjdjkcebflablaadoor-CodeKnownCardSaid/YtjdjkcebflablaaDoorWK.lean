/- Reading what was laid, and laying what was read: plain. -/
import Derived.Test.YtjdjkcebflablaaDoorWJ
import Derived.Test.YtjdjkcebflablaaDoorWE3
set_option linter.unusedVariables false
set_option linter.unusedSimpArgs false
set_option linter.unusedSectionVars false
namespace Go.Proofs.YtjdjkcebflablaaDoor
open Go.SL
theorem natLE_append (l : List UInt8) (b : UInt8) : natLE (l ++ [b]) = natLE l + 256 ^ l.length * b.toNat := by
  induction l with
  | nil => simp [natLE]
  | cons a l ih =>
    simp only [List.cons_append, natLE, ih, List.length_cons, Nat.pow_succ]
    rw [Nat.mul_add, Nat.add_assoc, Nat.mul_comm (256 ^ l.length) 256, Nat.mul_assoc]
theorem natLE_lt' : ∀ l : List UInt8, natLE l < 256 ^ l.length
  | [] => by simp [natLE]
  | a :: l => by
    have h1 := a.toNat_lt
    have h2 := natLE_lt' l
    simp only [natLE, List.length_cons, Nat.pow_succ]
    omega
theorem natLE_leB (w : Nat) : ∀ k, natLE (leB w k) = w % 256 ^ k
  | 0 => by simp [leB, natLE, Nat.mod_one]
  | k + 1 => by
    rw [leB, natLE_append, natLE_leB w k, leB_length, Nat.pow_succ, Nat.mod_mul, Nat.shiftRight_eq_div_pow, Nat.pow_mul]
    simp
theorem natLE_inj : ∀ {l l' : List UInt8}, l.length = l'.length → natLE l = natLE l' → l = l'
  | [], [], _, _ => rfl
  | [], _ :: _, h, _ => by cases h
  | _ :: _, [], h, _ => by cases h
  | a :: l, b :: l', h, e => by
    simp only [natLE] at e
    have h1 := a.toNat_lt
    have h2 := b.toNat_lt
    have e1 : a.toNat = b.toNat := by omega
    have e2 : natLE l = natLE l' := by omega
    rw [natLE_inj (by simpa using h) e2, UInt8.toNat_inj.1 e1]
theorem leB_natLE (l : List UInt8) : leB (natLE l) l.length = l :=
  natLE_inj (leB_length ..) (by rw [natLE_leB, Nat.mod_eq_of_lt (natLE_lt' l)])
/-- Numbers that so many bytes hold. -/
def NR (many : Nat) (n : Int) : Prop := (many = 1 ∧ 0 ≤ n ∧ n ≤ 255) ∨ (many = 2 ∧ 0 ≤ n ∧ n ≤ 65535) ∨ (many = 8 ∧ -9223372036854775808 ≤ n ∧ n ≤ 9223372036854775807)
theorem w64_mod (n : Int) : (w64 n : Int) = n % 18446744073709551616 := by
  rw [← w64_eq]; simp [IntKind.wrap, IntKind.bits, IntKind.signed]
theorem wrap64_mod (n : Int) : IntKind.i64.wrap n = if 9223372036854775808 ≤ n % 18446744073709551616 then n % 18446744073709551616 - 18446744073709551616 else n % 18446744073709551616 := by
  simp [IntKind.wrap, IntKind.bits, IntKind.signed]
theorem wrap_leB {many : Nat} {n : Int} (h : NR many n) : IntKind.i64.wrap ((natLE (leB (w64 n) many) : Nat) : Int) = n := by
  rw [natLE_leB]
  have e := w64_mod n
  rcases h with ⟨rfl, h1, h2⟩ | ⟨rfl, h1, h2⟩ | ⟨rfl, h1, h2⟩
  · have : w64 n % 256 ^ 1 = w64 n := Nat.mod_eq_of_lt (by omega)
    rw [this, wrap64_id (by omega) (by omega)]; omega
  · have : w64 n % 256 ^ 2 = w64 n := Nat.mod_eq_of_lt (by omega)
    rw [this, wrap64_id (by omega) (by omega)]; omega
  · have : w64 n % 256 ^ 8 = w64 n := Nat.mod_eq_of_lt (by omega)
    rw [this, wrap64_mod]
    split <;> omega
theorem leB_wrap {many : Nat} {l : List UInt8} (hl : l.length = many) (hm : many = 1 ∨ many = 2 ∨ many = 8) : leB (w64 (IntKind.i64.wrap ((natLE l : Nat) : Int))) many = l ∧ NR many (IntKind.i64.wrap ((natLE l : Nat) : Int)) := by
  have h1 := natLE_lt' l
  have e := w64_mod (IntKind.i64.wrap ((natLE l : Nat) : Int))
  have e2 := wrap64_mod ((natLE l : Nat) : Int)
  rw [hl] at h1
  have e3 : w64 (IntKind.i64.wrap ((natLE l : Nat) : Int)) = natLE l := by
    rcases hm with rfl | rfl | rfl <;> (split at e2 <;> omega)
  refine ⟨by rw [e3, ← hl]; exact leB_natLE l, ?_⟩
  unfold NR
  rcases hm with rfl | rfl | rfl <;> (split at e2 <;> omega)
/-! What lays and what reads: 'R' reads just what 'B' lays, of things that are 'p'. -/
structure LR {α : Type} (R : List UInt8 → Rd α) (B : α → List UInt8) (p : α → Prop) : Prop where
  wr : ∀ (u v : List UInt8) (x : α), p x → R (u ++ (B x ++ v)) u.length = .ok (x, u.length + (B x).length)
  un : ∀ (s : List UInt8) (a b : Nat) (x : α), a ≤ s.length → R s a = .ok (x, b) → p x ∧ ∃ u v, s = u ++ (B x ++ v) ∧ a = u.length ∧ b = u.length + (B x).length
  er : ∀ (s : List UInt8) (a q : Nat), a ≤ s.length → R s a = .error q → q ≤ s.length
theorem rd_app (u l v : List UInt8) : rd (u ++ (l ++ v)) u.length l.length = some (IntKind.i64.wrap ((natLE l : Nat) : Int)) := by
  unfold rd
  rw [if_pos (by simp)]
  simp
theorem rd_split {s : List UInt8} {a many : Nat} {n : Int} (h : rd s a many = some n) : ∃ u l v, s = u ++ (l ++ v) ∧ a = u.length ∧ l.length = many ∧ n = IntKind.i64.wrap ((natLE l : Nat) : Int) := by
  unfold rd at h
  split at h
  · cases h
    refine ⟨s.take a, (s.drop a).take many, (s.drop a).drop many, ?_, ?_, ?_, rfl⟩
    · rw [List.take_append_drop, List.take_append_drop]
    · simp; omega
    · simp; omega
  · cases h
theorem lr_num (many : Nat) (f : Int → Bool) (hm : many = 1 ∨ many = 2 ∨ many = 8) : LR (fun s => num s many f) (fun n => leB (w64 n) many) (fun n => NR many n ∧ f n = true) := by
  refine ⟨fun u v x h => ?_, fun s a b x ha h => ?_, fun s a q ha h => ?_⟩
  · have := rd_app u (leB (w64 x) many) v
    rw [leB_length] at this
    simp only [num, getF, this, wrap_leB h.1, h.2, if_true, leB_length]
  · unfold num getF at h
    cases h1 : rd s a many with
    | none => rw [h1] at h; cases h
    | some n =>
      rw [h1] at h
      dsimp only at h
      cases hf : f n with
      | false => rw [hf] at h; simp at h
      | true =>
        rw [hf] at h
        simp only [if_true] at h
        cases h
        obtain ⟨u, l, v, e1, e2, e3, e4⟩ := rd_split h1
        have := leB_wrap e3 hm
        rw [← e4] at this
        exact ⟨⟨this.2, hf⟩, u, v, by rw [this.1]; exact e1, e2, by rw [leB_length, e2]⟩
  · unfold num getF at h
    cases h1 : rd s a many with
    | none => rw [h1] at h; cases h; exact ha
    | some n =>
      rw [h1] at h
      dsimp only at h
      cases hf : f n with
      | false => rw [hf] at h; simp at h; omega
      | true => rw [hf] at h; simp at h
/-- One behind the other. -/
theorem LR.bind {α β γ : Type} {R1 : List UInt8 → Rd α} {B1 : α → List UInt8} {p1 : α → Prop} {R2 : α → List UInt8 → Rd β} {B2 : β → List UInt8} {p2 : α → β → Prop} (h1 : LR R1 B1 p1) (h2 : ∀ x, p1 x → LR (R2 x) B2 (p2 x))
    {mk : α → β → γ} {fs : γ → α} {sn : γ → β} (hf : ∀ x y, p1 x → p2 x y → fs (mk x y) = x) (hs : ∀ x y, sn (mk x y) = y) (hm : ∀ z, mk (fs z) (sn z) = z) {R : List UInt8 → Rd γ}
    (hR : ∀ s a, R s a = match R1 s a with | .error e => .error e | .ok (x, a1) => (match R2 x s a1 with | .error e => .error e | .ok (y, a2) => .ok (mk x y, a2))) :
    LR R (fun z => B1 (fs z) ++ B2 (sn z)) (fun z => p1 (fs z) ∧ p2 (fs z) (sn z)) := by
  refine ⟨fun u v z h => ?_, fun s a b z ha h => ?_, fun s a q ha h => ?_⟩
  · have k1 := h1.wr u (B2 (sn z) ++ v) (fs z) h.1
    have k2 := (h2 _ h.1).wr (u ++ B1 (fs z)) v (sn z) h.2
    rw [hR]
    rw [show u ++ (B1 (fs z) ++ B2 (sn z) ++ v) = u ++ (B1 (fs z) ++ (B2 (sn z) ++ v)) by simp, k1]
    rw [show u ++ B1 (fs z) ++ (B2 (sn z) ++ v) = u ++ (B1 (fs z) ++ (B2 (sn z) ++ v)) by simp, List.length_append] at k2
    dsimp only
    rw [k2]
    simp only [hm, List.length_append, Nat.add_assoc]
  · rw [hR] at h
    cases e1 : R1 s a with
    | error e => rw [e1] at h; cases h
    | ok p =>
      obtain ⟨x, a1⟩ := p
      rw [e1] at h
      dsimp only at h
      obtain ⟨g1, u, v, g2, g3, g4⟩ := h1.un s a a1 x ha e1
      cases e2 : R2 x s a1 with
      | error e => rw [e2] at h; cases h
      | ok p =>
        obtain ⟨y, a2⟩ := p
        rw [e2] at h
        cases h
        have ha1 : a1 ≤ s.length := by rw [g4, g2]; simp
        obtain ⟨f1, u2, v2, f2, f3, f4⟩ := (h2 x g1).un s a1 _ y ha1 e2
        have hu : u2 = u ++ B1 x := by
          have : s = (u ++ B1 x) ++ v := by rw [g2]; simp
          rw [this] at f2
          exact (List.append_inj f2 (by rw [← f3, g4]; simp)).1.symm
        rw [hf x y g1 f1, hs]
        refine ⟨⟨g1, f1⟩, u, v2, by rw [f2, hu]; simp, g3, by rw [f4, hu]; simp; omega⟩
  · rw [hR] at h
    cases e1 : R1 s a with
    | error e => rw [e1] at h; cases h; exact h1.er s a _ ha e1
    | ok p =>
      obtain ⟨x, a1⟩ := p
      rw [e1] at h
      dsimp only at h
      obtain ⟨g1, u, v, g2, g3, g4⟩ := h1.un s a a1 x ha e1
      have ha1 : a1 ≤ s.length := by rw [g4, g2]; simp
      cases e2 : R2 x s a1 with
      | error e => rw [e2] at h; cases h; exact (h2 x g1).er s a1 _ ha1 e2
      | ok p => rw [e2] at h; cases h
theorem LR.of {α : Type} {R R' : List UInt8 → Rd α} {B B' : α → List UInt8} {p p' : α → Prop} (h : LR R B p) (hR : ∀ s a, R' s a = R s a) (hB : ∀ x, B' x = B x) (hp : ∀ x, p' x ↔ p x) : LR R' B' p' :=
  ⟨fun u v x hx => by rw [hB, hR]; exact h.wr u v x ((hp x).1 hx), fun s a b x ha hx => by
    rw [hR] at hx; rw [hB, hp]; exact h.un s a b x ha hx, fun s a q ha hx => by rw [hR] at hx; exact h.er s a q ha hx⟩
/-- So many. -/
theorem lr_rep {α : Type} {R : Nat → List UInt8 → Rd α} {B : α → List UInt8} {p : Nat → α → Prop} (h : ∀ i, LR (R i) B (p i)) {RR : Nat → List UInt8 → Rd (List α)} (h0 : ∀ s a, RR 0 s a = .ok ([], a))
    (h1 : ∀ k s a, RR (k + 1) s a = match RR k s a with | .ok (l, a1) => (match R k s a1 with | .ok (x, a2) => .ok (l ++ [x], a2) | .error e => .error e) | .error e => .error e) :
    ∀ k, LR (RR k) (fun l => (l.map B).flatten) (fun l => l.length = k ∧ ∀ i x, l[i]? = some x → p i x) := by
  intro k
  induction k with
  | zero =>
    refine ⟨fun u v x hx => ?_, fun s a b x ha hx => ?_, fun s a q ha hx => by rw [h0] at hx; cases hx⟩
    · obtain rfl := List.length_eq_zero_iff.1 hx.1
      rw [h0]; simp
    · rw [h0] at hx
      cases hx
      refine ⟨⟨rfl, fun i x h => by simp at h⟩, s.take a, s.drop a, by simp, by simp; omega, by simp; omega⟩
  | succ k ih =>
    refine ⟨fun u v l hx => ?_, fun s a b l ha hx => ?_, fun s a q ha hx => ?_⟩
    · obtain ⟨l', x, rfl⟩ : ∃ l' x, l = l' ++ [x] := by
        rcases List.eq_nil_or_concat l with rfl | ⟨l', x, rfl⟩
        · cases hx.1
        · exact ⟨l', x, by simp⟩
      have hl' : l'.length = k := by have := hx.1; simp at this; exact this
      have k1 := ih.wr u (B x ++ v) l' ⟨hl', fun i y hy => hx.2 i y (by rw [List.getElem?_append_left (List.getElem?_eq_some_iff.1 hy).1]; exact hy)⟩
      have k2 := (h k).wr (u ++ (l'.map B).flatten) v x (hx.2 k x (by rw [← hl']; simp))
      rw [h1]
      rw [show u ++ (((l' ++ [x]).map B).flatten ++ v) = u ++ ((l'.map B).flatten ++ (B x ++ v)) by simp]
      rw [show u ++ (l'.map B).flatten ++ (B x ++ v) = u ++ ((l'.map B).flatten ++ (B x ++ v)) by simp, List.length_append] at k2
      simp only [k1, k2]
      simp only [List.map_append, List.map_cons, List.map_nil, List.flatten_append, List.flatten_cons, List.flatten_nil, List.append_nil, List.length_append, Nat.add_assoc]
    · rw [h1] at hx
      cases e1 : RR k s a with
      | error e => rw [e1] at hx; cases hx
      | ok q =>
        obtain ⟨l1, a1⟩ := q
        rw [e1] at hx
        dsimp only at hx
        obtain ⟨g1, u, v, g2, g3, g4⟩ := ih.un s a a1 l1 ha e1
        cases e2 : R k s a1 with
        | error e => rw [e2] at hx; cases hx
        | ok q =>
          obtain ⟨y, a2⟩ := q
          rw [e2] at hx
          cases hx
          have ha1 : a1 ≤ s.length := by rw [g4, g2]; simp
          obtain ⟨f1, u2, v2, f2, f3, f4⟩ := (h k).un s a1 _ y ha1 e2
          have hu : u2 = u ++ (l1.map B).flatten := by
            have : s = (u ++ (l1.map B).flatten) ++ v := by rw [g2]; simp
            rw [this] at f2
            exact (List.append_inj f2 (by rw [← f3, g4]; simp)).1.symm
          refine ⟨⟨by simp [g1.1], fun i z hz => ?_⟩, u, v2, by rw [f2, hu]; simp, g3, by rw [f4, hu]; simp; omega⟩
          by_cases hi : i < l1.length
          · rw [List.getElem?_append_left hi] at hz; exact g1.2 i z hz
          · have hi2 : i = l1.length := by
              have := (List.getElem?_eq_some_iff.1 hz).1
              simp at this; omega
            subst hi2
            simp at hz; subst hz
            rw [g1.1]; exact f1
    · rw [h1] at hx
      cases e1 : RR k s a with
      | error e => rw [e1] at hx; cases hx; exact ih.er s a _ ha e1
      | ok q =>
        obtain ⟨l1, a1⟩ := q
        rw [e1] at hx
        dsimp only at hx
        obtain ⟨g1, u, v, g2, g3, g4⟩ := ih.un s a a1 l1 ha e1
        have ha1 : a1 ≤ s.length := by rw [g4, g2]; simp
        cases e2 : R k s a1 with
        | error e => rw [e2] at hx; cases hx; exact (h k).er s a1 _ ha1 e2
        | ok q => rw [e2] at hx; cases hx
theorem lr_repU {α : Type} {R : List UInt8 → Rd α} {B : α → List UInt8} {p : α → Prop} (h : LR R B p) (k : Nat) : LR (fun s => rep (R s) k) (fun l => (l.map B).flatten) (fun l => l.length = k ∧ ∀ x ∈ l, p x) :=
  (lr_rep (RR := fun k s => rep (R s) k) (fun _ => h) (fun _ _ => rfl) (fun _ _ _ => rfl) k).of (fun _ _ => rfl) (fun _ => rfl) fun l =>
    ⟨fun ⟨g1, g2⟩ => ⟨g1, fun i x hx => g2 x (List.mem_of_getElem? hx)⟩, fun ⟨g1, g2⟩ => ⟨g1, fun x hx => by obtain ⟨i, hi⟩ := List.mem_iff_getElem?.1 hx; exact g2 i x hi⟩⟩
/-- How many, and these. -/
theorem lr_many {α : Type} {R : List UInt8 → Rd α} {B : α → List UInt8} {p : α → Prop} (h : LR R B p) {many : Nat} {least most : Int} (hm : many = 1 ∨ many = 2 ∨ many = 8) (hl : 0 ≤ least) {R' : List UInt8 → Rd (List α)}
    (hR : ∀ s a, R' s a = match num s many (fun z => wi z least most) a with | .error e => .error e | .ok (n, a1) => rep (R s) n.toNat a1) :
    LR R' (fun l => leB (w64 l.length) many ++ (l.map B).flatten) (fun l => (NR many l.length ∧ wi l.length least most = true) ∧ ∀ x ∈ l, p x) := by
  have hn := lr_num many (fun z => wi z least most) hm
  have := LR.bind hn (R2 := fun n s => rep (R s) n.toNat) (p2 := fun n l => l.length = n.toNat ∧ ∀ x ∈ l, p x) (fun n _ => lr_repU h n.toNat) (mk := fun _ l => l) (fs := fun l : List α => (l.length : Int)) (sn := fun l => l) (R := R')
    (fun n l h1 h2 => by have := h1.2; simp only [wi, decide_eq_true_eq] at this; have := h2.1; omega) (fun _ _ => rfl) (fun _ => rfl) (fun s a => by
      rw [hR]
      cases e1 : num s many (fun z => wi z least most) a with
      | error e => rfl
      | ok q =>
        obtain ⟨n, a1⟩ := q
        dsimp only
        cases rep (R s) n.toNat a1 <;> rfl)
  exact this.of (fun _ _ => rfl) (fun _ => rfl) fun l => ⟨fun ⟨g1, g2⟩ => ⟨g1, by simp, g2⟩, fun ⟨g1, g2⟩ => ⟨g1, g2.2⟩⟩
end Go.Proofs.YtjdjkcebflablaaDoor
