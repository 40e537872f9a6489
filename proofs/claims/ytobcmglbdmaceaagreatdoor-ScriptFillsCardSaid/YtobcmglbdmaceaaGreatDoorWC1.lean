/- What is printed is parsed as it was: plain. -/
import Derived.Test.YtobcmglbdmaceaaGreatDoorWA11
set_option linter.unusedVariables false
set_option linter.unusedSimpArgs false
set_option linter.unusedSectionVars false
namespace Go.Proofs.YtobcmglbdmaceaaGreatDoor
open Go.SL
set_option maxRecDepth 100000
theorem join_snoc (xs : List (List UInt8)) (x sep : List UInt8) : Lib.join (xs ++ [x]) sep = if xs = [] then x else Lib.join xs sep ++ (sep ++ x) := by
  match xs with
  | [] => simp [Lib.join_one]
  | y :: r => simp [Lib.join_cons, Lib.joinTail]
/-- No blank is in it. -/
def Nb (w : List UInt8) : Prop := ∀ b ∈ w, b ≠ 32
theorem pcs_nb : ∀ {w : List UInt8}, Nb w → pcs w = [w]
  | [], _ => rfl
  | b :: w, h => by
    have hb : b ≠ 32 := h b (by simp)
    rw [pcs, if_neg hb, pcs_nb (w := w) fun c hc => h c (by simp [hc])]
theorem pcs_sep : ∀ {w : List UInt8} (r : List UInt8), Nb w → pcs (w ++ 32 :: r) = w :: pcs r
  | [], r, _ => by simp [pcs]
  | b :: w, r, h => by
    have hb : b ≠ 32 := h b (by simp)
    rw [List.cons_append, pcs, if_neg hb, pcs_sep (w := w) r fun c hc => h c (by simp [hc])]
/-- What is behind is nothing, or a blank is ahead of it. -/
def Bl (r : List UInt8) : Prop := r = [] ∨ ∃ r', r = 32 :: r'
theorem parse_blank (r : List UInt8) (acc : List Pk) : parseW (pcs (32 :: r)) acc = parseW (pcs r) acc := by
  rw [pcs, if_pos rfl, parseW, if_pos rfl]
theorem parse_word {w r : List UInt8} {acc : List Pk} (hw : Nb w) (h0 : w ≠ []) (hr : Bl r) : parseW (pcs (w ++ r)) acc = match pickF w with
    | some p => parseW (pcs r) (acc ++ [p])
    | none => .error acc.length := by
  rcases hr with rfl | ⟨r', rfl⟩
  · rw [List.append_nil, pcs_nb hw, parseW, if_neg h0]
    cases pickF w with
    | none => rfl
    | some p => rfl
  · rw [pcs_sep r' hw, parseW, if_neg h0]
    cases pickF w with
    | none => rfl
    | some p => exact (parse_blank _ _).symm
theorem parse_blanks : ∀ {g : List UInt8} (r : List UInt8) (acc : List Pk), (∀ b ∈ g, b = 32) → parseW (pcs (g ++ r)) acc = parseW (pcs r) acc
  | [], r, acc, _ => rfl
  | b :: g, r, acc, h => by
    have hb : b = 32 := h b (by simp)
    subst hb
    rw [List.cons_append, parse_blank]
    exact parse_blanks r acc fun c hc => h c (by simp [hc])
/-- A pick that can be written. -/
def Good (p : Pk) : Prop := 0 ≤ p.th ∧ p.th ≤ 99999 ∧ 0 ≤ p.kd ∧ p.kd ≤ 2
theorem dd_small {u : Nat} (h : u < 10) : Lib.decDigits u = [UInt8.ofNat (48 + u)] := by rw [Lib.decDigits, dif_pos h]
theorem dd_big {u : Nat} (h : ¬ u < 10) : Lib.decDigits u = Lib.decDigits (u / 10) ++ [UInt8.ofNat (48 + u % 10)] := by rw [Lib.decDigits, dif_neg h]
theorem dig_val {k : Nat} (h : k < 10) : (UInt8.ofNat (48 + k)).toNat = 48 + k := by
  rw [UInt8.toNat_ofNat']; omega
theorem dd_all : ∀ (u : Nat), ∀ b ∈ Lib.decDigits u, 48 ≤ b.toNat ∧ b.toNat ≤ 57 := by
  intro u
  induction u using Nat.strongRecOn with
  | _ u ih =>
    intro b hb
    by_cases h : u < 10
    · rw [dd_small h] at hb
      simp only [List.mem_singleton] at hb
      subst hb
      rw [dig_val h]; omega
    · rw [dd_big h] at hb
      rcases List.mem_append.1 hb with hb | hb
      · exact ih (u / 10) (by omega) b hb
      · simp only [List.mem_singleton] at hb
        subst hb
        rw [dig_val (by omega)]; omega
theorem dd_ne (u : Nat) : Lib.decDigits u ≠ [] := by
  by_cases h : u < 10
  · rw [dd_small h]; simp
  · rw [dd_big h]; simp
theorem decFrom_snoc {b : UInt8} {d : Nat} (hd : Lib.digitVal b = some d) : ∀ {l : List UInt8} {acc m : Nat}, Lib.decFrom acc l = some m → Lib.decFrom acc (l ++ [b]) = some (m * 10 + d)
  | [], acc, m, h => by
    rw [Lib.decFrom] at h
    cases h
    rw [List.nil_append, Lib.decFrom, hd]; rfl
  | c :: l, acc, m, h => by
    rw [Lib.decFrom] at h
    rw [List.cons_append, Lib.decFrom]
    cases hc : Lib.digitVal c with
    | none => rw [hc] at h; cases h
    | some e =>
      rw [hc] at h
      exact decFrom_snoc hd h
theorem digit_of {k : Nat} (h : k < 10) : Lib.digitVal (UInt8.ofNat (48 + k)) = some k := by
  unfold Lib.digitVal
  rw [dig_val h, if_pos (by omega)]
  congr 1; omega
theorem dd_from : ∀ (u : Nat), Lib.decFrom 0 (Lib.decDigits u) = some u := by
  intro u
  induction u using Nat.strongRecOn with
  | _ u ih =>
    by_cases h : u < 10
    · rw [dd_small h, Lib.decFrom, digit_of h]
      show Lib.decFrom (0 * 10 + u) [] = _
      rw [Lib.decFrom]; congr 1; omega
    · rw [dd_big h, decFrom_snoc (digit_of (by omega)) (ih (u / 10) (by omega))]
      congr 1; omega
theorem dd_head : ∀ (u : Nat), 0 < u → (Lib.decDigits u).head? ≠ some 48 := by
  intro u
  induction u using Nat.strongRecOn with
  | _ u ih =>
    intro h0 he
    by_cases h : u < 10
    · rw [dd_small h, List.head?_cons] at he
      have := congrArg UInt8.toNat (Option.some.inj he)
      rw [dig_val h] at this
      simp at this; omega
    · rw [dd_big h] at he
      have h1 := ih (u / 10) (by omega) (by omega)
      have h2 := dd_ne (u / 10)
      revert h1 h2 he
      cases Lib.decDigits (u / 10) with
      | nil => intro _ _ h; exact absurd rfl h
      | cons b l => intro he h1 _; exact h1 he
theorem decF_dd {u : Nat} (h : u ≤ 99999) : decF (Lib.decDigits u) = some u := by
  have hl := dd_len 4 u (by simp; omega)
  have hn : Lib.decNat (Lib.decDigits u) = some u := by
    unfold Lib.decNat
    rw [if_neg (by simpa using dd_ne u)]
    exact dd_from u
  unfold decF
  rw [if_neg, hn]
  rintro (h1 | ⟨h1, h2⟩)
  · omega
  · by_cases h0 : u = 0
    · subst h0
      rw [dd_small (by decide)] at h2
      simp at h2
    · exact dd_head u (by omega) h1
theorem dd_last {u : Nat} {a : UInt8} (ha : 57 < a.toNat) : Lib.hasSuffix (Lib.decDigits u) [a] = false := by
  rw [← Bool.not_eq_true]
  intro h
  rw [suffix_last] at h
  have := dd_all u a (List.mem_of_getLast? h)
  omega
theorem word_good {p : Pk} (h : Good p) : pickF (wordP p) = some p ∧ Nb (wordP p) ∧ wordP p ≠ [] := by
  obtain ⟨t, k⟩ := p
  obtain ⟨h1, h2, h3, h4⟩ := h
  dsimp only at h1 h2 h3 h4
  obtain ⟨u, rfl⟩ : ∃ u : Nat, t = (u : Int) := ⟨t.toNat, by omega⟩
  have hit : Lib.itoa (u : Int) = Lib.decDigits u := by
    unfold Lib.itoa
    rw [if_neg (by omega), Int.toNat_natCast]
  have hd := decF_dd (u := u) (by omega)
  have hnb : Nb (Lib.decDigits u) := fun b hb e => by
    have := dd_all u b hb
    subst e
    simp at this
  have hk : k = 0 ∨ k = 1 ∨ k = 2 := by omega
  have hwp : ∀ (k : Int) (s : List UInt8), letF k = some s → wordP ⟨(u : Int), k⟩ = Lib.decDigits u ++ s := fun k s hs => by
    unfold wordP
    dsimp only
    rw [hs]
    dsimp only
    rw [if_pos ⟨h1, h2⟩, hit]
  unfold pickF stripF
  rcases hk with rfl | rfl | rfl
  · rw [hwp 0 [] rfl, List.append_nil, if_neg (by rw [dd_last (by decide)]; simp), if_neg (by rw [dd_last (by decide)]; simp)]
    dsimp only
    rw [hd]
    exact ⟨rfl, hnb, dd_ne u⟩
  · rw [hwp 1 [116] rfl, if_pos ((suffix_last _ _).2 (by simp)), trim_snoc]
    dsimp only
    rw [hd]
    refine ⟨rfl, fun b hb => ?_, by simp⟩
    rcases List.mem_append.1 hb with hb | hb
    · exact hnb b hb
    · simp at hb; subst hb; decide
  · rw [hwp 2 [115] rfl, if_neg (by rw [suffix_other ((suffix_last _ _).2 (by simp)) (by decide : (115 : UInt8) ≠ 116)]; simp), if_pos ((suffix_last _ _).2 (by simp)), trim_snoc]
    dsimp only
    rw [hd]
    refine ⟨rfl, fun b hb => ?_, by simp⟩
    rcases List.mem_append.1 hb with hb | hb
    · exact hnb b hb
    · simp at hb; subst hb; decide
/-- Words, each with blanks ahead. -/
def flatG : List (List UInt8 × Pk) → List UInt8
  | [] => []
  | x :: l => x.1 ++ wordP x.2 ++ flatG l
def Blk (g : List UInt8) : Prop := g ≠ [] ∧ ∀ b ∈ g, b = 32
theorem Blk.bl {g : List UInt8} (h : Blk g) (r : List UInt8) : Bl (g ++ r) := by
  obtain ⟨h0, h1⟩ := h
  match g, h0, h1 with
  | b :: g, _, h1 => exact .inr ⟨g ++ r, by rw [h1 b (by simp)]; rfl⟩
theorem flatG_bl {l : List (List UInt8 × Pk)} {t : List UInt8} (h : ∀ x ∈ l, Blk x.1) (ht : t = [] ∨ Blk t) : Bl (flatG l ++ t) := by
  match l with
  | [] =>
    rcases ht with rfl | ht
    · exact .inl rfl
    · rw [flatG, List.nil_append]; have := ht.bl []; rwa [List.append_nil] at this
  | x :: l =>
    rw [flatG, List.append_assoc, List.append_assoc]
    exact (h x (by simp)).bl _
theorem parse_flat {t : List UInt8} (ht : t = [] ∨ Blk t) : ∀ {l : List (List UInt8 × Pk)} {acc : List Pk}, (∀ x ∈ l, Blk x.1 ∧ Good x.2) → parseW (pcs (flatG l ++ t)) acc = .ok (acc ++ l.map (·.2))
  | [], acc, _ => by
    rw [flatG, List.nil_append]
    rcases ht with rfl | ⟨h0, h1⟩
    · simp [pcs, parseW]
    · have := parse_blanks (g := t) [] acc h1
      rw [List.append_nil] at this
      rw [this]
      simp [pcs, parseW]
  | x :: l, acc, h => by
    obtain ⟨hg, hp⟩ := h x (by simp)
    obtain ⟨w1, w2, w3⟩ := word_good hp
    rw [flatG, List.append_assoc, List.append_assoc, parse_blanks _ acc hg.2, parse_word w2 w3 (flatG_bl (fun y hy => (h y (by simp [hy])).1) ht), w1]
    dsimp only
    rw [parse_flat ht (fun y hy => h y (by simp [hy]))]
    simp
theorem printF_flat (p : Pk) (l : List Pk) : printF (p :: l) = wordP p ++ flatG (l.map fun q => ([32], q)) := by
  unfold printF
  rw [List.map_cons, Lib.join_cons]
  congr 1
  unfold Lib.joinTail
  induction l with
  | nil => rfl
  | cons q l ih => rw [List.map_cons, List.map_cons, List.map_cons, List.flatten_cons, ih, flatG]
/-- What is printed is parsed as it was. -/
theorem parse_print {l : List Pk} (h : ∀ p ∈ l, Good p) : parseF (printF l) = .ok l := by
  match l with
  | [] => simp [printF, Lib.join_nil, parseF, pcs, parseW]
  | p :: l =>
    obtain ⟨w1, w2, w3⟩ := word_good (h p (by simp))
    have hx : ∀ x ∈ l.map (fun q => (([32] : List UInt8), q)), Blk x.1 ∧ Good x.2 := fun x hx => by
      obtain ⟨q, hq, rfl⟩ := List.mem_map.1 hx
      exact ⟨⟨by simp, by simp⟩, h q (by simp [hq])⟩
    have hb := flatG_bl (t := []) (fun x hxm => (hx x hxm).1) (.inl rfl)
    have hp := parse_flat (t := []) (acc := [p]) (.inl rfl) hx
    rw [List.append_nil] at hb hp
    unfold parseF
    rw [printF_flat, parse_word w2 w3 hb, w1]
    dsimp only
    rw [List.nil_append, hp, List.map_map]
    simp [Function.comp_def]
end Go.Proofs.YtobcmglbdmaceaaGreatDoor
