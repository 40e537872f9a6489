/- The library's functions that are called, as contracts over heaps. -/
import Derived.Test.YtobcmglbdmaceaaGreatDoorWB
import Derived.Test.YtobcmglbdmaceaaGreatDoorWSh
import Derived.Test.YtobcmglbdmaceaaGreatDoorSlGb
import Derived.Lib.AtoiErrMem
set_option linter.unusedVariables false
set_option linter.unusedSimpArgs false
set_option linter.unusedSectionVars false
namespace Go.Proofs.YtobcmglbdmaceaaGreatDoor
open Go.SL
/-- The table of the powers of ten lies somewhere. -/
class Pow (G : Heap) : Prop where
  tab : ∀ w, hle G (wh w) → Lib.TabIs Tryz.prog w "internal/strconv.uint64pow10" .u64 Lib.pow10Tab
theorem Pow.mono {G K : Heap} (p : Pow G) (h : hle G K) : Pow K := ⟨fun w hw => p.tab w (h.trans hw)⟩
theorem bytes_eq (l : List UInt8) : (⟨l.toArray⟩ : ByteArray) = ⟨⟨l⟩⟩ := rfl
theorem T_below {f : FuncId} {args : List Value} {hs : List Heap} {v : Value} (h : ∀ w X, Sat (hs ++ X) w → Calls Tryz.prog f args.toArray w fun e w' => e = .returned v ∧ RowKit.Below w.heap.size w w') : PFn Tryz.prog f args hs v := fun w X s =>
  (h w X s).mono fun e w' ⟨he, hb⟩ => ⟨hs, s.world (hle_below hb), he, rfl⟩
theorem Itoa_calls {G : Heap} [p : Pow G] (n : Int) (h0 : -9223372036854775808 ≤ n) (h1 : n ≤ 9223372036854775807) : PFn Tryz.prog 21 [i64 n] [G] (str (Lib.itoa n)) := fun w X s => by
  refine (Tryz.strconv_Itoa n h0 h1 w (p.tab w (s.le G (by simp)))).mono ?_
  rintro e w' ⟨he, k, os, rfl⟩
  have s1 : Sat ([G] ++ X) (w.drewN k) := s.heap rfl rfl rfl
  exact ⟨[G], s1.world (hle_grow _ _), he, rfl⟩
theorem Trim_calls (s cs : List UInt8) (hs : s.length ≤ 1000000) (hc : cs.length ≤ 1000) (ha : ∀ b ∈ cs, b.toNat < 128) : PFn Tryz.prog 36 [str s, str cs] [] (str (Lib.trimS s cs)) := by
  refine T_below fun w X _ => ?_
  exact Tryz.strings_Trim ⟨⟨s⟩⟩ ⟨⟨cs⟩⟩ w (by show s.length ≤ _; omega) (by show cs.length < _; omega) (fun j b hb => ha b (List.mem_of_getElem? hb))
theorem CutSuffix_calls (s p : List UInt8) (hs : s.length ≤ 1000000) : PFn Tryz.prog 35 [str s, str p] [] (.tuple ⟨[str (Lib.trimSuffix s p), .bool (Lib.hasSuffix s p)]⟩) := by
  refine T_below fun w X _ => ?_
  refine (Tryz.strings_CutSuffix ⟨⟨s⟩⟩ ⟨⟨p⟩⟩ w (by show s.length ≤ _; omega)).mono ?_
  rintro e w' ⟨he, rfl⟩
  exact ⟨he, RowKit.Below.refl _ _⟩
theorem Atoi_calls (s : List UInt8) (n : Int) (hs : s.length ≤ 18) (h : Lib.atoi s = some n) : PFn Tryz.prog 37 [str s] [] (.tuple ⟨[i64 n, .nilIface]⟩) := by
  refine T_below fun w X _ => ?_
  refine (Tryz.strconv_Atoi ⟨⟨s⟩⟩ n hs h w).mono ?_
  rintro e w' ⟨he, t, rfl⟩
  exact ⟨he, Lib.bytesWorld_below w 5 _⟩
theorem Index_calls (s : List UInt8) (c : UInt8) : PFn Tryz.prog 49 [str s, str [c]] [] (i64 (Lib.indexByte s c)) := by
  refine T_below fun w X _ => ?_
  refine (Tryz.strings_Index_one ⟨⟨s⟩⟩ c w).mono ?_
  rintro e w' ⟨he, rfl⟩
  exact ⟨he, RowKit.Below.refl _ _⟩
theorem Join_calls (J : Heap) (base : Option Addr) (cap : Nat) (xs : List (List UInt8)) (sep : List UInt8) (sl : Sl J base (xs.map str)) (hc : xs.length ≤ cap) (hn : xs.length ≤ 1000000) (hlen : (Lib.join xs sep).length ≤ 100000000) :
    PFn Tryz.prog 22 [.slice base xs.length cap, str sep] [J] (str (Lib.join xs sep)) := by
  refine T_below fun w X s => ?_
  have s' : Sat (J :: X) w := s
  match xs, sl, hc, hn, hlen with
  | [], _, _, _, _ =>
    refine (Tryz.strings_Join_none base cap ⟨⟨sep⟩⟩ w).mono ?_
    rintro e w' ⟨he, rfl⟩
    exact ⟨he, RowKit.Below.refl _ _⟩
  | x :: r, sl, hc, hn, hlen =>
    have hcell : ∀ k y, (x :: r)[k]? = some y → ∃ a : Addr, base = some a ∧ a.spot = none ∧ w.cell? ⟨a.block, a.off + k, none⟩ = some (str y) := fun k y hk => by
      have m : SlIn [J] base ((x :: r).map str) := ⟨J, List.mem_singleton.2 rfl, sl⟩
      obtain ⟨a, e1, e2, e3⟩ := m.cell s' (k := k) (v := str y) (by rw [List.getElem?_map, hk]; rfl)
      exact ⟨a, e1, e2, e3⟩
    obtain ⟨a, rfl, ha, h0⟩ := hcell 0 x rfl
    obtain ⟨bk, off, sb⟩ := a
    simp only at ha
    subst ha
    have hbk : bk < w.heap.size := by
      simp only [World.cell?] at h0
      split at h0
      · rename_i hh; exact (Array.getElem?_eq_some_iff.1 hh).1
      · cases h0
    have := Tryz.strings_Join bk off cap ((x :: r).map fun l => (⟨⟨l⟩⟩ : ByteArray)) ⟨⟨sep⟩⟩ w (fun j y hj => by
        rw [List.getElem?_map, Option.map_eq_some_iff] at hj
        obtain ⟨l, hl, rfl⟩ := hj
        obtain ⟨a2, e1, -, e3⟩ := hcell j l hl
        cases e1
        exact e3) hbk (by simp at hn ⊢; omega) (by simpa using hc) (by
          rw [List.map_map]
          have e : (List.map ((fun b : ByteArray => b.data.toList) ∘ fun l : List UInt8 => (⟨⟨l⟩⟩ : ByteArray)) (x :: r)) = x :: r := by
            simp [Function.comp_def]
          rw [e]
          exact Nat.le_trans hlen (by decide))
    rw [List.length_map, List.map_map] at this
    have e : (List.map ((fun b : ByteArray => b.data.toList) ∘ fun l : List UInt8 => (⟨⟨l⟩⟩ : ByteArray)) (x :: r)) = x :: r := by
      simp [Function.comp_def]
    rw [e] at this
    exact this
end Go.Proofs.YtobcmglbdmaceaaGreatDoor
