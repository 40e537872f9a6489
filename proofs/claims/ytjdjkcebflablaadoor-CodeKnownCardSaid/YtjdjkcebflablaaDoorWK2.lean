/- An image: what is laid, and what is read: plain. -/
import Derived.Test.YtjdjkcebflablaaDoorWK
set_option linter.unusedVariables false
set_option linter.unusedSimpArgs false
set_option linter.unusedSectionVars false
namespace Go.Proofs.YtjdjkcebflablaaDoor
open Go.SL
def I64 (n : Int) : Prop := -9223372036854775808 ≤ n ∧ n ≤ 9223372036854775807
def InsOk (y : Ins) : Prop := (0 ≤ y.op ∧ y.op ≤ 255) ∧ I64 y.a ∧ I64 y.b
def KindsOk (most cl : Int) (l : List Int) : Prop := (l.length : Int) ≤ most ∧ ∀ z ∈ l, 0 ≤ z ∧ z ≤ cl
def MeOk (most cl : Int) (m : Me) : Prop := KindsOk most cl m.params ∧ ((m.params.length : Int) ≤ m.lo ∧ m.lo ≤ 16) ∧ (0 ≤ m.st ∧ m.st ≤ 32) ∧ (1 ≤ m.code.length ∧ m.code.length ≤ 256) ∧ ∀ y ∈ m.code, InsOk y
def ImOk (x : Im) : Prop := x.cls.length ≤ 16 ∧ (∀ f ∈ x.cls, KindsOk 8 x.cls.length f) ∧ (1 ≤ x.ms.length ∧ x.ms.length ≤ 32) ∧ ∀ i m, x.ms[i]? = some m → MeOk (if i = 0 then 0 else 16) x.cls.length m
theorem nr1 {n : Int} : NR 1 n ↔ 0 ≤ n ∧ n ≤ 255 := by unfold NR; omega
theorem nr2 {n : Int} : NR 2 n ↔ 0 ≤ n ∧ n ≤ 65535 := by unfold NR; omega
theorem nr8 {n : Int} : NR 8 n ↔ I64 n := by unfold NR I64; omega
theorem wi_iff {n a b : Int} : wi n a b = true ↔ a ≤ n ∧ n ≤ b := by simp [wi]
theorem lr_ins : LR insR iB InsOk := by
  have h8 := LR.bind (lr_num 8 (fun _ => true) (by decide)) (R2 := fun _ s => num s 8 (fun _ => true)) (fun _ _ => lr_num 8 (fun _ => true) (by decide)) (mk := fun x y => ((x, y) : Int × Int)) (fs := Prod.fst) (sn := Prod.snd) (fun _ _ _ _ => rfl) (fun _ _ => rfl) (fun _ => rfl) (fun _ _ => rfl)
  have := LR.bind (lr_num 1 (fun _ => true) (by decide)) (R2 := fun _ s a => _) (fun _ _ => h8) (mk := fun o q => (⟨o, q.1, q.2⟩ : Ins)) (fs := Ins.op) (sn := fun z => (z.a, z.b)) (R := insR) (fun _ _ _ _ => rfl) (fun _ _ => rfl) (fun _ => rfl) (fun s a => by
    unfold insR
    cases num s 1 (fun _ => true) a with
    | error e => rfl
    | ok q =>
      obtain ⟨o, a1⟩ := q
      dsimp only
      cases num s 8 (fun _ => true) a1 with
      | error e => rfl
      | ok q =>
        obtain ⟨x, a2⟩ := q
        dsimp only
        cases num s 8 (fun _ => true) a2 with
        | error e => rfl
        | ok q => rfl)
  refine this.of (fun _ _ => rfl) (fun _ => rfl) fun z => ?_
  simp only [nr1, nr8, and_true, InsOk]
theorem lr_kinds (most cl : Int) (hm : most ≤ 255) (hc : cl ≤ 255) : LR (fun s => kindsR s most cl) kB (KindsOk most cl) := by
  have := lr_many (lr_num 1 (fun z => wi z 0 cl) (by decide)) (many := 1) (least := 0) (most := most) (by decide) (by decide) (R' := fun s => kindsR s most cl) (fun s a => by
    show kindsR s most cl a = _
    unfold kindsR
    cases num s 1 (fun z => wi z 0 most) a with
    | error e => rfl
    | ok q => rfl)
  refine this.of (fun _ _ => rfl) (fun _ => rfl) fun l => ?_
  simp only [nr1, wi_iff, KindsOk]
  constructor
  · rintro ⟨g1, g2⟩; exact ⟨⟨by omega, by omega, by omega⟩, fun z hz => by have := g2 z hz; omega⟩
  · rintro ⟨g1, g2⟩; exact ⟨by omega, fun z hz => by have := g2 z hz; omega⟩
def codeR (s : List UInt8) : Rd (List Ins) := fun a => match num s 2 (fun z => wi z 1 256) a with | .error e => .error e | .ok (n, a1) => rep (insR s) n.toNat a1
theorem lr_code : LR codeR (fun l => leB (w64 l.length) 2 ++ (l.map iB).flatten) (fun l => (1 ≤ l.length ∧ l.length ≤ 256) ∧ ∀ y ∈ l, InsOk y) := by
  have := lr_many lr_ins (many := 2) (least := 1) (most := 256) (by decide) (by decide) (R' := codeR) (fun s a => rfl)
  refine this.of (fun _ _ => rfl) (fun _ => rfl) fun l => ?_
  simp only [nr2, wi_iff]
  refine and_congr_left fun _ => ?_
  omega
def stR (s : List UInt8) : Rd (Int × List Ins) := fun a => match num s 1 (fun z => wi z 0 32) a with | .error e => .error e | .ok (x, a1) => (match codeR s a1 with | .error e => .error e | .ok (y, a2) => .ok ((x, y), a2))
def loR (n : Nat) (s : List UInt8) : Rd (Int × Int × List Ins) := fun a => match num s 1 (fun z => wi z n 16) a with | .error e => .error e | .ok (x, a1) => (match stR s a1 with | .error e => .error e | .ok (y, a2) => .ok ((x, y), a2))
theorem lr_meth (most cl : Int) (hm : most ≤ 255) (hc : cl ≤ 255) : LR (fun s => methodR s most cl) mB (MeOk most cl) := by
  have hst := LR.bind (lr_num 1 (fun z => wi z 0 32) (by decide)) (R2 := fun _ => codeR) (fun _ _ => lr_code) (mk := fun x y => ((x, y) : Int × List Ins)) (fs := Prod.fst) (sn := Prod.snd) (R := stR) (fun _ _ _ _ => rfl) (fun _ _ => rfl) (fun _ => rfl) (fun s a => by
      unfold stR
      cases num s 1 (fun z => wi z 0 32) a with
      | error e => rfl
      | ok q =>
        obtain ⟨x, a1⟩ := q
        dsimp only
        cases codeR s a1 <;> rfl)
  have hlo := fun n : Nat => LR.bind (lr_num 1 (fun z => wi z n 16) (by decide)) (R2 := fun _ => stR) (fun _ _ => hst) (mk := fun x y => ((x, y) : Int × Int × List Ins)) (fs := Prod.fst) (sn := Prod.snd) (R := loR n) (fun _ _ _ _ => rfl) (fun _ _ => rfl) (fun _ => rfl) (fun s a => by
      unfold loR
      cases num s 1 (fun z => wi z n 16) a with
      | error e => rfl
      | ok q =>
        obtain ⟨x, a1⟩ := q
        dsimp only
        cases stR s a1 <;> rfl)
  have := LR.bind (lr_kinds most cl hm hc) (R2 := fun ps => loR ps.length) (fun ps _ => hlo ps.length) (mk := fun ps q => (⟨ps, q.1, q.2.1, q.2.2⟩ : Me)) (fs := Me.params) (sn := fun m => (m.lo, m.st, m.code)) (R := fun s => methodR s most cl) (fun _ _ _ _ => rfl) (fun _ _ => rfl) (fun _ => rfl) (fun s a => by
    show methodR s most cl a = _
    unfold methodR loR stR codeR
    cases kindsR s most cl a with
    | error e => rfl
    | ok q =>
      obtain ⟨ps, a1⟩ := q
      dsimp only
      cases num s 1 (fun z => wi z ps.length 16) a1 with
      | error e => rfl
      | ok q =>
        obtain ⟨lo, a2⟩ := q
        dsimp only
        cases num s 1 (fun z => wi z 0 32) a2 with
        | error e => rfl
        | ok q =>
          obtain ⟨st, a3⟩ := q
          dsimp only
          cases num s 2 (fun z => wi z 1 256) a3 with
          | error e => rfl
          | ok q =>
            obtain ⟨n, a4⟩ := q
            dsimp only
            cases rep (insR s) n.toNat a4 with
            | error e => rfl
            | ok q => rfl)
  refine this.of (fun _ _ => rfl) (fun _ => rfl) fun m => ?_
  simp only [nr1, wi_iff, MeOk]
  constructor
  · rintro ⟨g1, g2, g3, g4, g5⟩; exact ⟨g1, ⟨by omega, by omega⟩, ⟨by omega, by omega⟩, g4, g5⟩
  · rintro ⟨g1, g2, g3, g4, g5⟩; exact ⟨g1, by omega, by omega, g4, g5⟩
/-- The methods, behind how many there are. -/
def mssR (cl : Int) (s : List UInt8) : Rd (List Me) := fun a => match num s 1 (fun z => wi z 1 32) a with | .error e => .error e | .ok (k, a1) => (match msR s cl k.toNat a1 with | .error e => .error e | .ok (l, a2) => .ok (l, a2))
theorem lr_mss (cl : Int) (hc : cl ≤ 255) : LR (mssR cl) (fun l => leB (w64 l.length) 1 ++ (l.map mB).flatten) (fun l => (1 ≤ l.length ∧ l.length ≤ 32) ∧ ∀ i m, l[i]? = some m → MeOk (if i = 0 then 0 else 16) cl m) := by
  have h1 := lr_rep (R := fun k s => methodR s (if k = 0 then 0 else 16) cl) (B := mB) (p := fun i => MeOk (if i = 0 then 0 else 16) cl) (fun i => lr_meth _ cl (by split <;> decide) hc) (RR := fun k s => msR s cl k) (fun _ _ => rfl) (fun k s a => by
    simp only [msR]
    cases msR s cl k a with
    | error e => rfl
    | ok q =>
      obtain ⟨l, a1⟩ := q
      dsimp only
      cases methodR s (if k = 0 then 0 else 16) cl a1 <;> rfl)
  have := LR.bind (lr_num 1 (fun z => wi z 1 32) (by decide)) (R2 := fun k s => msR s cl k.toNat) (p2 := fun k l => l.length = k.toNat ∧ ∀ i m, l[i]? = some m → MeOk (if i = 0 then 0 else 16) cl m) (fun k _ => h1 k.toNat)
    (mk := fun _ l => l) (fs := fun l : List Me => (l.length : Int)) (sn := fun l => l) (R := mssR cl) (fun n l h1 h2 => by have := h1.2; simp only [wi_iff] at this; have := h2.1; omega) (fun _ _ => rfl) (fun _ => rfl) (fun s a => by
      unfold mssR
      cases num s 1 (fun z => wi z 1 32) a with
      | error e => rfl
      | ok q =>
        obtain ⟨x, a1⟩ := q
        dsimp only
        cases msR s cl x.toNat a1 <;> rfl)
  refine this.of (fun _ _ => rfl) (fun _ => rfl) fun l => ?_
  simp only [nr1, wi_iff, Int.toNat_natCast, true_and]
  refine and_congr_left fun _ => ?_
  omega
def bodyR (n : Int) (s : List UInt8) : Rd Im := fun a => match rep (kindsR s 8 n) n.toNat a with | .error e => .error e | .ok (cls, a2) => (match mssR n s a2 with | .error e => .error e | .ok (ms, a4) => .ok (⟨cls, ms⟩, a4))
def imgR (s : List UInt8) : Rd Im := fun a => match num s 1 (fun z => wi z 0 16) a with | .error e => .error e | .ok (n, a1) => (match bodyR n s a1 with | .error e => .error e | .ok (x, a2) => .ok (x, a2))
theorem lr_body (n : Int) (hc : n ≤ 255) : LR (bodyR n) (fun x : Im => (x.cls.map kB).flatten ++ (leB (w64 x.ms.length) 1 ++ (x.ms.map mB).flatten)) (fun x => (x.cls.length = n.toNat ∧ ∀ f ∈ x.cls, KindsOk 8 n f) ∧ (1 ≤ x.ms.length ∧ x.ms.length ≤ 32) ∧ ∀ i m, x.ms[i]? = some m → MeOk (if i = 0 then 0 else 16) n m) := by
  have := LR.bind (lr_repU (lr_kinds 8 n (by decide) hc) n.toNat) (R2 := fun _ => mssR n) (fun _ _ => lr_mss n hc) (mk := fun c m => (⟨c, m⟩ : Im)) (fs := Im.cls) (sn := Im.ms) (R := bodyR n) (fun _ _ _ _ => rfl) (fun _ _ => rfl) (fun _ => rfl) (fun s a => by
      unfold bodyR
      cases rep (kindsR s 8 n) n.toNat a with
      | error e => rfl
      | ok q =>
        obtain ⟨x, a1⟩ := q
        dsimp only
        cases mssR n s a1 <;> rfl)
  exact this.of (fun _ _ => rfl) (fun _ => rfl) fun x => Iff.rfl
theorem lr_img : LR imgR (fun x : Im => leB (w64 x.cls.length) 1 ++ ((x.cls.map kB).flatten ++ (leB (w64 x.ms.length) 1 ++ (x.ms.map mB).flatten))) ImOk := by
  have := LR.bind (lr_num 1 (fun z => wi z 0 16) (by decide)) (R2 := bodyR) (fun n h => lr_body n (by have := h.2; simp only [wi_iff] at this; omega)) (mk := fun _ x => x) (fs := fun x : Im => (x.cls.length : Int)) (sn := fun x => x) (R := imgR)
    (fun n x h1 h2 => by have := h1.2; simp only [wi_iff] at this; have := h2.1.1; omega) (fun _ _ => rfl) (fun _ => rfl) (fun s a => by
      unfold imgR
      cases num s 1 (fun z => wi z 0 16) a with
      | error e => rfl
      | ok q =>
        obtain ⟨x, a1⟩ := q
        dsimp only
        cases bodyR x s a1 <;> rfl)
  refine this.of (fun _ _ => rfl) (fun _ => rfl) fun x => ?_
  simp only [nr1, wi_iff, Int.toNat_natCast, true_and, ImOk]
  constructor
  · rintro ⟨g1, g2, g3, g4⟩; exact ⟨by omega, g2, g3, g4⟩
  · rintro ⟨g1, g2, g3, g4⟩; exact ⟨by omega, g2, g3, g4⟩
theorem decF_img (s : List UInt8) : decF s = if s.take 3 = [68, 75, 1] then (match imgR s 3 with | .error e => .error e | .ok (x, a) => if a = s.length then .ok x else .error a) else .error 0 := by
  unfold decF imgR bodyR mssR
  by_cases hp : s.take 3 = [68, 75, 1]
  · rw [if_pos hp, if_pos hp]
    cases num s 1 (fun z => wi z 0 16) 3 with
    | error e => rfl
    | ok q =>
      obtain ⟨n, a1⟩ := q
      dsimp only
      cases rep (kindsR s 8 n) n.toNat a1 with
      | error e => rfl
      | ok q =>
        obtain ⟨cls, a2⟩ := q
        dsimp only
        cases num s 1 (fun z => wi z 1 32) a2 with
        | error e => rfl
        | ok q =>
          obtain ⟨k, a3⟩ := q
          dsimp only
          cases msR s n k.toNat a3 with
          | error e => rfl
          | ok q => rfl
  · rw [if_neg hp, if_neg hp]
/-- What is laid is read again. -/
theorem dec_lay {x : Im} (h : ImOk x) : decF (imB x) = .ok x := by
  have := lr_img.wr [68, 75, 1] [] x h
  rw [List.append_nil] at this
  rw [decF_img, if_pos (by simp [imB])]
  rw [show imgR (imB x) 3 = _ from this]
  simp [imB]; omega
/-- What is longer is none. -/
theorem dec_more {x : Im} (h : ImOk x) {v : List UInt8} (hv : v ≠ []) : decF (imB x ++ v) = .error (imB x).length := by
  have := lr_img.wr [68, 75, 1] v x h
  rw [decF_img, if_pos (by simp [imB])]
  rw [show imB x ++ v = [68, 75, 1] ++ ((leB (w64 x.cls.length) 1 ++ ((x.cls.map kB).flatten ++ (leB (w64 x.ms.length) 1 ++ (x.ms.map mB).flatten))) ++ v) by simp [imB]]
  rw [show imgR _ 3 = _ from this]
  have hl : 0 < v.length := List.length_pos_iff.2 hv
  dsimp only
  rw [if_neg (by simp; omega)]
  simp [imB]; omega
/-- What is read lays just these bytes. -/
theorem dec_un {s : List UInt8} {x : Im} (h : decF s = .ok x) : imB x = s ∧ ImOk x := by
  rw [decF_img] at h
  split at h
  · rename_i hp
    have hl : 3 ≤ s.length := by have := congrArg List.length hp; simp at this; omega
    cases e : imgR s 3 with
    | error e' => rw [e] at h; cases h
    | ok q =>
      obtain ⟨y, a⟩ := q
      rw [e] at h
      dsimp only at h
      split at h
      · rename_i ha
        cases h
        obtain ⟨g1, u, v, g2, g3, g4⟩ := lr_img.un s 3 a x hl e
        have hv : v = [] := by
          have := congrArg List.length g2
          simp only [List.length_append] at this g4
          exact List.length_eq_zero_iff.1 (by omega)
        have hu : u = [68, 75, 1] := by
          rw [← hp, g2, g3]; simp
        refine ⟨?_, g1⟩
        rw [hv, hu] at g2
        rw [g2]; simp [imB]
      · cases h
  · cases h
/-- A place that is wrong lies within. -/
theorem dec_at {s : List UInt8} {q : Nat} (h : decF s = .error q) : q ≤ s.length := by
  rw [decF_img] at h
  split at h
  · rename_i hp
    have hl : 3 ≤ s.length := by have := congrArg List.length hp; simp at this; omega
    cases e : imgR s 3 with
    | error e' => rw [e] at h; cases h; exact lr_img.er s 3 _ hl e
    | ok p =>
      obtain ⟨y, a⟩ := p
      rw [e] at h
      dsimp only at h
      obtain ⟨g1, u, v, g2, g3, g4⟩ := lr_img.un s 3 a y hl e
      split at h
      · cases h
      · cases h
        rw [g4, g2]; simp
  · cases h; omega
/-- What is cut is none. -/
theorem dec_cut {x : Im} (h : ImOk x) {k : Nat} (hk : k < (imB x).length) : ∃ q, decF ((imB x).take k) = .error q ∧ q ≤ k := by
  cases e : decF ((imB x).take k) with
  | error q => exact ⟨q, rfl, by have := dec_at e; rw [List.length_take] at this; omega⟩
  | ok z =>
    exfalso
    obtain ⟨g1, g2⟩ := dec_un e
    have h1 := dec_lay h
    have h2 : imB x = imB z ++ (imB x).drop k := by rw [g1, List.take_append_drop]
    have h3 := dec_more g2 (v := (imB x).drop k) (by intro e; have := congrArg List.length e; rw [List.length_drop, List.length_nil] at this; omega)
    rw [← h2, h1] at h3
    cases h3
theorem not_iff_false {b : Bool} : b = false ↔ ¬ b = true := by simp
theorem rightF_iff {l : List Int} {most cl : Int} : rightF l most cl = true ↔ KindsOk most cl l := by
  simp only [rightF, Bool.and_eq_true, decide_eq_true_eq, Bool.not_eq_true', KindsOk, List.any_eq_false, kno, wi, Bool.not_eq_true', decide_eq_false_iff_not, Decidable.not_not]
theorem methodF_iff {m : Me} {most cl : Int} (hI : ∀ y ∈ m.code, I64 y.a ∧ I64 y.b) : methodF m most cl = true ↔ MeOk most cl m := by
  have h1 : (m.code.any opno = false) ↔ ∀ y ∈ m.code, 0 ≤ y.op ∧ y.op ≤ 255 := by
    simp only [List.any_eq_false, opno, wi, Bool.not_eq_true', decide_eq_false_iff_not, Decidable.not_not]
  simp only [methodF, Bool.and_eq_true, rightF_iff, wi_iff, Bool.not_eq_true', h1, MeOk, InsOk]
  constructor
  · rintro ⟨g1, g2, g3, g4, g5⟩; exact ⟨g1, g2, g3, by omega, fun y hy => ⟨g5 y hy, hI y hy⟩⟩
  · rintro ⟨g1, g2, g3, g4, g5⟩; exact ⟨g1, g2, g3, by omega, fun y hy => (g5 y hy).1⟩
def AllI (x : Im) : Prop := ∀ m ∈ x.ms, ∀ y ∈ m.code, I64 y.a ∧ I64 y.b
theorem ImOk.all {x : Im} (h : ImOk x) : AllI x := fun m hm y hy => by
  obtain ⟨i, hi⟩ := List.mem_iff_getElem?.1 hm
  exact ((h.2.2.2 i m hi).2.2.2.2 y hy).2
theorem KindsOk.le {a b cl : Int} {l : List Int} (h : KindsOk a cl l) (hab : a ≤ b) : KindsOk b cl l := ⟨by have := h.1; omega, h.2⟩
/-- What may be laid. -/
theorem mayF_iff_ok {x : Im} (hI : AllI x) : mayF x = true ↔ ImOk x := by
  have hm : ∀ m ∈ x.ms, ∀ most cl : Int, methodF m most cl = true ↔ MeOk most cl m := fun m hm most cl => methodF_iff (hI m hm)
  unfold mayF
  simp only [Bool.and_eq_true, decide_eq_true_eq, Bool.not_eq_true', wi_iff, List.any_eq_false, clno, meno, Bool.not_eq_true', Bool.not_eq_false]
  constructor
  · rintro ⟨g1, g2, g3, g4, g5⟩
    refine ⟨by omega, fun f hf => rightF_iff.1 (g4 f hf), by omega, fun i m hi => ?_⟩
    have hmm := List.mem_of_getElem? hi
    split
    · rename_i e
      subst e
      rw [hi] at g3
      exact (hm m hmm _ _).1 g3
    · exact (hm m hmm _ _).1 (g5 m hmm)
  · rintro ⟨g1, g2, g3, g4⟩
    refine ⟨by omega, by omega, ?_, fun f hf => rightF_iff.2 (g2 f hf), fun m hmm => ?_⟩
    · obtain ⟨m, hm0⟩ : ∃ m, x.ms[0]? = some m := ⟨_, List.getElem?_eq_getElem (by omega)⟩
      rw [hm0]
      exact (hm m (List.mem_of_getElem? hm0) _ _).2 (g4 0 m hm0)
    · obtain ⟨i, hi⟩ := List.mem_iff_getElem?.1 hmm
      refine (hm m hmm _ _).2 ?_
      have := g4 i m hi
      split at this
      · exact ⟨this.1.le (by decide), this.2⟩
      · exact this
end Go.Proofs.YtjdjkcebflablaaDoor
