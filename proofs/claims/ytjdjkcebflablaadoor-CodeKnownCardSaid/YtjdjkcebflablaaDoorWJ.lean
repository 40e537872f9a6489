/- The document's Decode answers as the program's: plain. -/
import Derived.Test.YtjdjkcebflablaaDoorWI3
import Derived.Test.YtjdjkcebflablaaDoorWH8
set_option linter.unusedVariables false
set_option linter.unusedSimpArgs false
set_option linter.unusedSectionVars false
namespace Go.Proofs.YtjdjkcebflablaaDoor
open Go.SL
/-- What the document's reader comes to is what a reader comes to. -/
def St {α : Type} (p : α × Rs) (e : Except Nat (α × Nat)) : Prop :=
  match e with | .ok (x, b) => p = (x, .good b) | .error q => ∃ a, p.2 = .bad a q
/-- A step that is alike, and that leaves what is wrong. -/
structure StR {α : Type} (f : Rs → α × Rs) (g : Rd α) : Prop where
  good : ∀ a, St (f (.good a)) (g a)
  bad : ∀ a q, (f (.bad a q)).2 = .bad a q
theorem st_num (s : List UInt8) (many : Nat) (least most : Int) : StR (numS s many least most) (num s many (okN many least most)) := by
  refine ⟨fun a => ?_, fun a q => rfl⟩
  cases h : num s many (okN many least most) a with
  | ok p => obtain ⟨n, b⟩ := p; simp only [St, numS, h]
  | error q => simp only [St, numS, h]; exact ⟨a, rfl⟩
theorem st_iter {α : Type} {f : Rs → α × Rs} {g : Rd α} (h : StR f g) : ∀ k, StR (iterS f k) (rep g k) := by
  intro k
  induction k with
  | zero => exact ⟨fun a => rfl, fun a q => rfl⟩
  | succ k ih =>
    refine ⟨fun a => ?_, fun a q => ?_⟩
    · have h1 := ih.good a
      cases e1 : rep g k a with
      | error q =>
        rw [e1] at h1
        obtain ⟨a', h1⟩ := h1
        simp only [rep, e1, St, iterS]
        exact ⟨a', by rw [h1]; exact h.bad a' q⟩
      | ok p =>
        obtain ⟨l, a1⟩ := p
        rw [e1] at h1
        have h1' : iterS f k (.good a) = (l, .good a1) := h1
        have h2 := h.good a1
        cases e2 : g a1 with
        | error q => rw [e2] at h2; obtain ⟨a', h2⟩ := h2; simp only [rep, e1, e2, St, iterS, h1']; exact ⟨a', h2⟩
        | ok p =>
          obtain ⟨x, a2⟩ := p
          rw [e2] at h2
          have h2' : f (.good a1) = (x, .good a2) := h2
          simp only [rep, e1, e2, St, iterS, h1', h2']
    · simp only [iterS, ih.bad a q]
      exact h.bad a q
theorem st_while {α : Type} {f : Nat → Rs → α × Rs} {g : Nat → Rd α} (h : ∀ i, StR (f i) (g i)) {R : Nat → Rd (List α)} (h0 : ∀ a, R 0 a = .ok ([], a))
    (h1 : ∀ k a, R (k + 1) a = match R k a with | .ok (l, a1) => (match g k a1 with | .ok (x, a2) => .ok (l ++ [x], a2) | .error e => .error e) | .error e => .error e) : ∀ k, StR (whileS f k) (R k) := by
  intro k
  induction k with
  | zero => exact ⟨fun a => by rw [h0]; rfl, fun a q => rfl⟩
  | succ k ih =>
    refine ⟨fun a => ?_, fun a q => ?_⟩
    · have k1 := ih.good a
      rw [h1]
      cases e1 : R k a with
      | error q =>
        rw [e1] at k1
        obtain ⟨a', k1⟩ := k1
        simp only [St, whileS, k1, Rs.ok, Bool.false_eq_true, if_false]
        exact ⟨a', rfl⟩
      | ok p =>
        obtain ⟨l, a1⟩ := p
        rw [e1] at k1
        have k1' : whileS f k (.good a) = (l, .good a1) := k1
        have k2 := (h k).good a1
        cases e2 : g k a1 with
        | error q => rw [e2] at k2; obtain ⟨a', k2⟩ := k2; simp only [St, whileS, k1', e2, Rs.ok, if_true]; exact ⟨a', k2⟩
        | ok p =>
          obtain ⟨x, a2⟩ := p
          rw [e2] at k2
          have k2' : f k (.good a1) = (x, .good a2) := k2
          simp only [St, whileS, k1', e2, k2', Rs.ok, if_true]
    · simp only [whileS, ih.bad a q, Rs.ok, Bool.false_eq_true, if_false]
theorem natLE_one (b : UInt8) : natLE [b] = b.toNat := by simp [natLE]
theorem rd_one {s : List UInt8} {a : Nat} {n : Int} (h : rd s a 1 = some n) : 0 ≤ n ∧ n ≤ 255 := by
  unfold rd at h
  split at h
  · rename_i hl
    obtain ⟨b, hb⟩ : ∃ b, s[a]? = some b := ⟨_, List.getElem?_eq_getElem (by omega)⟩
    have e : (s.drop a).take 1 = [b] := by
      rw [List.take_one, List.head?_drop, hb]; rfl
    rw [e, natLE_one] at h
    have hb' := b.toNat_lt
    rw [wrap64_id (by omega) (by omega)] at h
    cases h
    omega
  · cases h
theorem num_byte (s : List UInt8) (a : Nat) : num s 1 (okN 1 0 255) a = num s 1 (fun _ => true) a := by
  unfold num getF
  cases h : rd s a 1 with
  | none => rfl
  | some n =>
    have := rd_one h
    have : okN 1 0 255 n = true := by rw [okN1]; simpa [wi] using this
    simp only [this]
theorem st_ins (s : List UInt8) : StR (ins1S s) (insR s) := by
  have b1 := st_num s 1 0 255
  have b8 := st_num s 8 0 0
  refine ⟨fun a => ?_, fun a q => rfl⟩
  have k1 := b1.good a
  rw [num_byte] at k1
  unfold insR ins1S
  cases e1 : num s 1 (fun _ => true) a with
  | error q =>
    rw [e1] at k1; obtain ⟨a', k1⟩ := k1
    simp only [St, k1, b8.bad]
    exact ⟨a', rfl⟩
  | ok p =>
    obtain ⟨o, a1⟩ := p
    rw [e1] at k1
    have k1' : numS s 1 0 255 (.good a) = (o, .good a1) := k1
    have k2 := b8.good a1
    rw [okN8] at k2
    cases e2 : num s 8 (fun _ => true) a1 with
    | error q =>
      rw [e2] at k2; obtain ⟨a', k2⟩ := k2
      simp only [St, k1', e2, k2, b8.bad]
      exact ⟨a', rfl⟩
    | ok p =>
      obtain ⟨x, a2⟩ := p
      rw [e2] at k2
      have k2' : numS s 8 0 0 (.good a1) = (x, .good a2) := k2
      have k3 := b8.good a2
      rw [okN8] at k3
      cases e3 : num s 8 (fun _ => true) a2 with
      | error q =>
        rw [e3] at k3; obtain ⟨a', k3⟩ := k3
        simp only [St, k1', e2, k2', e3, k3]
        exact ⟨a', rfl⟩
      | ok p =>
        obtain ⟨y, a3⟩ := p
        rw [e3] at k3
        have k3' : numS s 8 0 0 (.good a2) = (y, .good a3) := k3
        simp only [St, k1', e2, k2', e3, k3']
theorem st_kinds (s : List UInt8) (n : Nat) (cl : Int) : StR (kindsS s n cl) (rep (num s 1 fun z => wi z 0 cl) n) := by
  have := st_iter (st_num s 1 0 cl) n
  rw [okN1] at this
  exact this
/-- How many, and these kinds. -/
theorem st_some (s : List UInt8) (most cl : Int) : StR (fun r => kindsS s (numS s 1 0 most r).1.toNat cl (numS s 1 0 most r).2) (kindsR s most cl) := by
  refine ⟨fun a => ?_, fun a q => ?_⟩
  · have k1 := (st_num s 1 0 most).good a
    rw [okN1] at k1
    unfold kindsR
    cases e1 : num s 1 (fun z => wi z 0 most) a with
    | error q =>
      rw [e1] at k1; obtain ⟨a', k1⟩ := k1
      rw [k1]
      exact ⟨a', (st_kinds s _ cl).bad a' q⟩
    | ok p =>
      obtain ⟨n, a1⟩ := p
      rw [e1] at k1
      have k1' : numS s 1 0 most (.good a) = (n, .good a1) := k1
      rw [k1']
      exact (st_kinds s n.toNat cl).good a1
  · exact (st_kinds s _ cl).bad a q
theorem st_meth (s : List UInt8) (cl : Int) (i : Nat) : StR (methS s cl i) (methodR s (if i = 0 then 0 else 16) cl) := by
  have hi : ∀ n, StR (whileS (fun _ => ins1S s) n) (rep (insR s) n) := st_while (fun _ => st_ins s) (fun a => rfl) (fun k a => rfl)
  refine ⟨fun a => ?_, fun a q => ?_⟩
  · have k1 := (st_some s (if i = 0 then 0 else 16) cl).good a
    unfold methodR methS
    dsimp only at k1 ⊢
    cases e1 : kindsR s (if i = 0 then 0 else 16) cl a with
    | error q =>
      rw [e1] at k1; obtain ⟨a', k1⟩ := k1
      simp only [St]
      rw [k1]
      simp only [(st_num ..).bad, (hi _).bad]
      exact ⟨a', rfl⟩
    | ok p =>
      obtain ⟨ps, a1⟩ := p
      rw [e1] at k1
      have k1' := show _ = (ps, Rs.good a1) from k1
      rw [k1']
      dsimp only
      have k2 := (st_num s 1 (ps.length : Int) 16).good a1
      rw [okN1] at k2
      cases e2 : num s 1 (fun z => wi z ps.length 16) a1 with
      | error q =>
        rw [e2] at k2; obtain ⟨a', k2⟩ := k2
        simp only [St, k2, (st_num ..).bad, (hi _).bad]
        exact ⟨a', rfl⟩
      | ok p =>
        obtain ⟨lo, a2⟩ := p
        rw [e2] at k2
        have k2' : numS s 1 (ps.length : Int) 16 (.good a1) = (lo, .good a2) := k2
        rw [k2']
        dsimp only
        have k3 := (st_num s 1 0 32).good a2
        rw [okN1] at k3
        cases e3 : num s 1 (fun z => wi z 0 32) a2 with
        | error q =>
          rw [e3] at k3; obtain ⟨a', k3⟩ := k3
          simp only [St, k3, (st_num ..).bad, (hi _).bad]
          exact ⟨a', rfl⟩
        | ok p =>
          obtain ⟨st, a3⟩ := p
          rw [e3] at k3
          have k3' : numS s 1 0 32 (.good a2) = (st, .good a3) := k3
          rw [k3']
          dsimp only
          have k4 := (st_num s 2 1 256).good a3
          rw [okN2] at k4
          cases e4 : num s 2 (fun z => wi z 1 256) a3 with
          | error q =>
            rw [e4] at k4; obtain ⟨a', k4⟩ := k4
            simp only [St, k4, (hi _).bad]
            exact ⟨a', rfl⟩
          | ok p =>
            obtain ⟨n, a4⟩ := p
            rw [e4] at k4
            have k4' : numS s 2 1 256 (.good a3) = (n, .good a4) := k4
            rw [k4']
            dsimp only
            have k5 := (hi n.toNat).good a4
            cases e5 : rep (insR s) n.toNat a4 with
            | error q => rw [e5] at k5; obtain ⟨a', k5⟩ := k5; exact ⟨a', k5⟩
            | ok p =>
              obtain ⟨code, a5⟩ := p
              rw [e5] at k5
              have k5' : whileS (fun _ => ins1S s) n.toNat (.good a4) = (code, .good a5) := k5
              simp only [St, k5']
  · unfold methS
    dsimp only
    simp only [(st_num ..).bad, (st_kinds ..).bad, (hi _).bad]
theorem st_ms (s : List UInt8) (cl : Int) (k : Nat) : StR (whileS (methS s cl) k) (msR s cl k) :=
  st_while (st_meth s cl) (R := msR s cl) (fun a => rfl) (fun k a => by
    simp only [msR]
    cases msR s cl k a with
    | error e => rfl
    | ok q =>
      obtain ⟨l, a1⟩ := q
      dsimp only
      cases methodR s (if k = 0 then 0 else 16) cl a1 with
      | error e => rfl
      | ok q => rfl) k
theorem repR_le {α : Type} {s : List UInt8} {r : Rd α} (h : ∀ a x b, a ≤ s.length → r a = .ok (x, b) → b ≤ s.length) : ∀ k a l b, a ≤ s.length → rep r k a = .ok (l, b) → b ≤ s.length
  | 0, a, l, b, ha, e => by cases e; exact ha
  | k + 1, a, l, b, ha, e => by
    simp only [rep] at e
    split at e
    · rename_i l1 a1 h1
      have h2 := repR_le h k a _ _ ha h1
      split at e
      · rename_i x a2 h3
        cases e
        exact h _ _ _ h2 h3
      · cases e
    · cases e
theorem insR_le {s : List UInt8} (a : Nat) (x : Ins) (b : Nat) (_ : a ≤ s.length) (e : insR s a = .ok (x, b)) : b ≤ s.length := by
  unfold insR at e
  split at e
  · split at e
    · split at e
      · rename_i h; cases e; exact (num_ok h).2.2
      · cases e
    · cases e
  · cases e
theorem methodR_le {s : List UInt8} {most cl : Int} (a : Nat) (x : Me) (b : Nat) (e : methodR s most cl a = .ok (x, b)) : b ≤ s.length := by
  unfold methodR at e
  split at e
  · cases e
  · split at e
    · cases e
    · split at e
      · cases e
      · split at e
        · cases e
        · rename_i h4
          split at e
          · cases e
          · rename_i h5
            cases e
            exact repR_le insR_le _ _ _ _ (num_ok h4).2.2 h5
theorem msR_le {s : List UInt8} {cl : Int} {k a : Nat} {l : List Me} {b : Nat} (ha : a ≤ s.length) (e : msR s cl k a = .ok (l, b)) : b ≤ s.length := by
  cases k with
  | zero => cases e; exact ha
  | succ k =>
    simp only [msR] at e
    split at e
    · split at e
      · rename_i h; cases e; exact methodR_le _ _ _ h
      · cases e
    · cases e
theorem st_cls (s : List UInt8) (cl : Int) (k : Nat) : StR (iterS (classS s cl) k) (rep (kindsR s 8 cl) k) := st_iter (st_some s 8 cl) k
theorem rdec_decF (s : List UInt8) : rdec s = match decF s with | .ok x => (x, -1) | .error q => (noIm, (q : Int)) := by
  unfold rdec decF
  by_cases hp : s.take 3 = [68, 75, 1]
  · rw [if_pos hp, if_pos hp]
    dsimp only
    have k1 := (st_num s 1 0 16).good 3
    rw [okN1] at k1
    have fin : ∀ {p : List Me × Rs} {a q : Nat} {C : List (List Int)}, p.2 = .bad a q → (match p.2 with | .bad _ q => (noIm, (q : Int)) | .good a => if a < s.length then (noIm, (a : Int)) else ((⟨C, p.1⟩ : Im), (-1 : Int))) = (noIm, (q : Int)) := by
      intro p a q C h; rw [h]
    cases e1 : num s 1 (fun z => wi z 0 16) 3 with
    | error q =>
      rw [e1] at k1; obtain ⟨a', k1⟩ := k1
      refine fin (a := a') ?_
      rw [k1, (st_cls ..).bad, (st_num ..).bad, (st_ms ..).bad]
    | ok p =>
      obtain ⟨n, a1⟩ := p
      rw [e1] at k1
      have k1' : numS s 1 0 16 (.good 3) = (n, .good a1) := k1
      rw [k1']
      dsimp only
      have k2 := (st_iter (st_some s 8 n) n.toNat).good a1
      cases e2 : rep (kindsR s 8 n) n.toNat a1 with
      | error q =>
        rw [e2] at k2; obtain ⟨a', k2⟩ := k2
        refine fin (a := a') ?_
        rw [show (iterS (classS s n) n.toNat (.good a1)).2 = .bad a' q from k2, (st_num ..).bad, (st_ms ..).bad]
      | ok p =>
        obtain ⟨cls, a2⟩ := p
        rw [e2] at k2
        have k2' : iterS (classS s n) n.toNat (.good a1) = (cls, .good a2) := k2
        rw [k2']
        dsimp only
        have k3 := (st_num s 1 1 32).good a2
        rw [okN1] at k3
        cases e3 : num s 1 (fun z => wi z 1 32) a2 with
        | error q =>
          rw [e3] at k3; obtain ⟨a', k3⟩ := k3
          refine fin (a := a') ?_
          rw [k3, (st_ms ..).bad]
        | ok p =>
          obtain ⟨k, a3⟩ := p
          rw [e3] at k3
          have k3' : numS s 1 1 32 (.good a2) = (k, .good a3) := k3
          rw [k3']
          dsimp only
          have k4 := (st_ms s n k.toNat).good a3
          cases e4 : msR s n k.toNat a3 with
          | error q => rw [e4] at k4; obtain ⟨a', k4⟩ := k4; exact fin (a := a') k4
          | ok p =>
            obtain ⟨ms, a4⟩ := p
            rw [e4] at k4
            have k4' : whileS (methS s n) k.toNat (.good a3) = (ms, .good a4) := k4
            rw [k4']
            dsimp only
            have := msR_le (num_ok e3).2.2 e4
            by_cases h : a4 = s.length
            · rw [if_pos h, if_neg (by omega)]
            · rw [if_neg h, if_pos (by omega)]
  · rw [if_neg hp, if_neg hp]; rfl
end Go.Proofs.YtjdjkcebflablaaDoor
