/- Images as data, and in memory; what may be laid: the program's tests, walked. -/
import Derived.Test.YtjdjkcebflablaaDoorSlGa
import Derived.Test.YtjdjkcebflablaaDoorWTy
set_option linter.unusedVariables false
set_option linter.unusedSimpArgs false
set_option linter.unusedSectionVars false
namespace Go.Proofs.YtjdjkcebflablaaDoor
open Go.SL
set_option maxRecDepth 100000
set_option maxHeartbeats 16000000
attribute [local irreducible] SL.T PFn OpV SOL SWP HOp ChU
-- ALIAS Tryd
abbrev i64 (a : Int) : Value := .int .i64 a
abbrev ptr (b : Nat) : Value := .pointer (some ⟨b, 0, none⟩)
/-- An instruction, a method, an image. -/
structure Ins where
  op : Int
  a : Int
  b : Int
structure Me where
  params : List Int
  lo : Int
  st : Int
  code : List Ins
structure Im where
  cls : List (List Int)
  ms : List Me
/-- The cells of instructions. -/
def flatI : List Ins → List Value
  | [] => []
  | x :: l => i64 x.op :: i64 x.a :: i64 x.b :: flatI l
theorem flatI_length : ∀ l : List Ins, (flatI l).length = l.length * 3
  | [] => rfl
  | x :: l => by simp [flatI, flatI_length l]; omega
theorem flatI_append : ∀ (l m : List Ins), flatI (l ++ m) = flatI l ++ flatI m
  | [], m => rfl
  | x :: l, m => by simp [flatI, flatI_append l m]
theorem flatI_at : ∀ {l : List Ins} {i : Nat} {x : Ins}, l[i]? = some x → (flatI l)[i * 3]? = some (i64 x.op) ∧ (flatI l)[i * 3 + 1]? = some (i64 x.a) ∧ (flatI l)[i * 3 + 2]? = some (i64 x.b)
  | [], i, x, h => by simp at h
  | y :: l, 0, x, h => by simp at h; subst h; simp [flatI]
  | y :: l, i + 1, x, h => by
    have := flatI_at (l := l) (i := i) (x := x) (by simpa using h)
    have e : (i + 1) * 3 = i * 3 + 1 + 1 + 1 := by omega
    rw [e]
    simpa [flatI, Nat.add_right_comm _ 1 1, Nat.add_right_comm _ 1 2] using this
/-! What lies in one heap. -/
def ClsIn (K : Heap) (cls : List (List Int)) (b : Option Addr) (n : Nat) : Prop :=
  ∃ vals : List Value, Sl K b vals ∧ vals.length = n ∧ cls.length = n ∧ n ≤ 9223372036854775807 ∧ ∀ (i : Nat) (f : List Int), cls[i]? = some f → ∃ fb fn fc, vals[i]? = some (.slice fb fn fc) ∧ Sl K fb (f.map i64) ∧ f.length = fn ∧ fn ≤ 9223372036854775807
def MsIn (K : Heap) (ms : List Me) (b : Option Addr) (n : Nat) : Prop :=
  ∃ vals : List Value, Sl K b vals ∧ vals.length = n * 4 ∧ ms.length = n ∧ n ≤ 9223372036854775807 ∧ ∀ (i : Nat) (m : Me), ms[i]? = some m → ∃ pb pn pc cb cn cc, vals[i * 4]? = some (.slice pb pn pc) ∧ vals[i * 4 + 1]? = some (i64 m.lo) ∧ vals[i * 4 + 2]? = some (i64 m.st) ∧ vals[i * 4 + 3]? = some (.slice cb cn cc) ∧
    Sl K pb (m.params.map i64) ∧ m.params.length = pn ∧ pn ≤ 9223372036854775807 ∧ Sl K cb (flatI m.code) ∧ m.code.length = cn ∧ cn ≤ cc ∧ cn ≤ 9223372036854775807
/-- An image's value. -/
def ImIn (K : Heap) (x : Im) (v : Value) : Prop :=
  ∃ clb cln clc mb mn mc, v = .agg ⟨[.slice clb cln clc, .slice mb mn mc]⟩ ∧ ClsIn K x.cls clb cln ∧ MsIn K x.ms mb mn ∧ cln ≤ clc ∧ mn ≤ mc
theorem ClsIn.mono {K K' : Heap} {cls : List (List Int)} {b : Option Addr} {n : Nat} (h : ClsIn K cls b n) (l : hle K K') : ClsIn K' cls b n := by
  obtain ⟨vals, h1, h2, h3, h4, h5⟩ := h
  refine ⟨vals, h1.mono l, h2, h3, h4, fun i f hf => ?_⟩
  obtain ⟨fb, fn, fc, g1, g2, g3⟩ := h5 i f hf
  exact ⟨fb, fn, fc, g1, g2.mono l, g3⟩
theorem MsIn.mono {K K' : Heap} {ms : List Me} {b : Option Addr} {n : Nat} (h : MsIn K ms b n) (l : hle K K') : MsIn K' ms b n := by
  obtain ⟨vals, h1, h2, h3, h4, h5⟩ := h
  refine ⟨vals, h1.mono l, h2, h3, h4, fun i m hm => ?_⟩
  obtain ⟨pb, pn, pc, cb, cn, cc, g1, g2, g3, g4, g5, g6, g7, g8, g9⟩ := h5 i m hm
  exact ⟨pb, pn, pc, cb, cn, cc, g1, g2, g3, g4, g5.mono l, g6, g7, g8.mono l, g9⟩
theorem ImIn.mono {K K' : Heap} {x : Im} {v : Value} (h : ImIn K x v) (l : hle K K') : ImIn K' x v := by
  obtain ⟨clb, cln, clc, mb, mn, mc, h1, h2, h3, h4⟩ := h
  exact ⟨clb, cln, clc, mb, mn, mc, h1, h2.mono l, h3.mono l, h4⟩
/-! ### The tests -/
def wi (n least most : Int) : Bool := decide (least ≤ n ∧ n ≤ most)
theorem within_calls (a b c : Int) : PFn Tryd.prog 34 [i64 a, i64 b, i64 c] [] (.bool (wi a b c)) := by
  refine pure_of_body Tryd.func34 rfl (Nat.le_of_ble_eq_true rfl) fun F => ?_
  by_cases h1 : b ≤ a
  · by_cases h2 : a ≤ c
    · repeat' (first
        | refine swp_seq ?_
        | (refine gk 0 rfl ?_; first | refine sl_op rfl rfl rfl (by first | exact opv_move rfl rfl | exact opv_assign rfl rfl | exact opv_pick_t rfl rfl rfl ) ?_ )
        | (refine gk 2 rfl ?_; first | refine sl_yes rfl rfl rfl (by first | exact opv_leq rfl rfl rfl | exact opv_geq rfl rfl rfl ) (by first | omega ) ?_ )
        | refine sl_region rfl ?_
        | refine sl_nil ?_
        | refine thn_k ?_
        | refine swp_ret ?_
        )
      refine end_pure (resOk_one (resV_tmp rfl)) ?_
      simp [wi, h1, h2]
    · repeat' (first
        | refine swp_seq ?_
        | (refine gk 0 rfl ?_; first | refine sl_op rfl rfl rfl (by first | exact opv_move rfl rfl | exact opv_assign rfl rfl | exact opv_pick_t rfl rfl rfl ) ?_ )
        | (refine gk 2 rfl ?_; first | refine sl_yes rfl rfl rfl (by first | exact opv_leq rfl rfl rfl | exact opv_geq rfl rfl rfl ) (by first | omega ) ?_ | refine sl_no rfl rfl rfl (by first | exact opv_leq rfl rfl rfl ) (by first | omega ) ?_ )
        | refine sl_region rfl ?_
        | refine sl_nil ?_
        | refine thn_k ?_
        | refine swp_ret ?_
        )
      refine end_pure (resOk_one (resV_tmp rfl)) ?_
      simp [wi, h2]
  · repeat' (first
      | refine swp_seq ?_
      | (refine gk 0 rfl ?_; first | refine sl_op rfl rfl rfl (by first | exact opv_move rfl rfl | exact opv_assign rfl rfl | exact opv_pick_f rfl rfl rfl ) ?_ | refine sl_pass rfl rfl rfl rfl ?_)
      | (refine gk 2 rfl ?_; first | refine sl_pass rfl rfl rfl rfl ?_ | refine sl_no rfl rfl rfl (by first | exact opv_geq rfl rfl rfl ) (by first | omega ) ?_ )
      | refine sl_region rfl ?_
      | refine sl_nil ?_
      | refine thn_k ?_
      | refine swp_ret ?_
      )
    refine end_pure (resOk_one (resV_tmp rfl)) ?_
    simp [wi, h1]
/-- Where the first one is of which something holds; -1: nowhere. -/
def fi {α : Type} (p : α → Bool) (l : List α) : Int := match l.findIdx? p with | some k => (k : Int) | none => -1
theorem fi_hit {α : Type} {p : α → Bool} {l : List α} {j : Nat} {x : α} (h1 : ∀ y ∈ l.take j, p y = false) (h2 : l[j]? = some x) (h3 : p x = true) : fi p l = (j : Int) := by
  have : l.findIdx? p = some j := by
    rw [List.findIdx?_eq_some_iff_getElem]
    obtain ⟨hl, he⟩ := List.getElem?_eq_some_iff.1 h2
    refine ⟨hl, by rw [he]; exact h3, fun k hk => ?_⟩
    have := h1 l[k] (List.mem_iff_getElem?.2 ⟨k, by rw [List.getElem?_take, if_pos hk, List.getElem?_eq_getElem (by omega)]⟩)
    simpa using this
  simp [fi, this]
theorem fi_none {α : Type} {p : α → Bool} {l : List α} (h1 : ∀ y ∈ l, p y = false) : fi p l = -1 := by
  have : l.findIdx? p = none := by rw [List.findIdx?_eq_none_iff]; exact h1
  simp [fi, this]
theorem fi_any {α : Type} (p : α → Bool) (l : List α) : decide (0 ≤ fi p l) = l.any p := by
  unfold fi
  cases h : l.findIdx? p with
  | none =>
    rw [List.findIdx?_eq_none_iff] at h
    have : l.any p = false := by rw [List.any_eq_false]; intro x hx; simp [h x hx]
    simp [this]
  | some k =>
    rw [List.findIdx?_eq_some_iff_getElem] at h
    obtain ⟨hl, he, -⟩ := h
    have : l.any p = true := List.any_eq_true.2 ⟨_, List.getElem_mem hl, he⟩
    simp [this]
theorem take_snoc {α : Type} {p : α → Bool} {l : List α} {j : Nat} {x : α} (h1 : ∀ y ∈ l.take j, p y = false) (h2 : l[j]? = some x) (h3 : p x = false) : ∀ y ∈ l.take (j + 1), p y = false := by
  intro y hy
  rw [List.take_add_one, h2] at hy
  rcases List.mem_append.1 hy with hy | hy
  · exact h1 y hy
  · simp at hy; subst hy; exact h3
/-- Kinds. -/
def kno (cl z : Int) : Bool := !wi z 0 cl
theorem right1_calls (β : Nat) (cl : Int) (z : Int) : PFn Tryd.prog 62 [i64 z, ptr β] [blk β (.cells ⟨[i64 cl]⟩ 3 (0, 0))] (.bool (kno cl z)) := by
  have hw := within_calls z 0 cl
  refine pure_of_body Tryd.func62 rfl (Nat.le_of_ble_eq_true rfl) fun F => ?_
  repeat' (first
    | refine swp_seq ?_
    | (refine gk 0 rfl ?_; first | refine sl_op rfl rfl rfl (by first | exact opv_move rfl rfl | exact opv_assign rfl rfl | exact opv_not rfl rfl ) ?_ )
    | (refine gk 3 rfl ?_; first | refine sl_op rfl rfl rfl (by first | exact opv_load rfl (by exact rfl) rfl (by exact rfl) ) ?_ )
    | (refine gk 4 rfl ?_; first | refine sl_op rfl rfl rfl (opv_call rfl rfl rfl rfl rfl (hw)) ?_)
    | refine sl_region rfl ?_
    | refine sl_nil ?_
    | refine thn_k ?_
    | refine swp_ret ?_
    )
  refine end_pure (resOk_one (resV_tmp rfl)) ?_
  rfl
theorem indexK_calls (J : Heap) (β : Nat) (cl : Int) (b : Option Addr) (n c : Nat) (zs : List Int) [Sl J b (zs.map i64)] (h1 : zs.length = n) (hsm : n ≤ 9223372036854775807) :
    PFn Tryd.prog 73 [.slice b n c, .func (.func 62) #[] #[ptr β]] [J, blk β (.cells ⟨[i64 cl]⟩ 3 (0, 0))] (i64 (fi (kno cl) zs)) := by
  refine pure_of_body Tryd.func73 rfl (Nat.le_of_ble_eq_true rfl) fun F => ?_
  repeat' (first
    | refine swp_seq ?_
    | (refine gk 0 rfl ?_; first | refine sl_op rfl rfl rfl (by first | exact opv_move rfl rfl | exact opv_assign rfl rfl ) ?_ )
    | (refine gk 4 rfl ?_; first | refine sl_op rfl rfl rfl (by first | exact opv_len rfl rfl rfl rfl rfl ) ?_)
    | refine sl_region rfl ?_
    | refine sl_nil ?_
    | refine thn_k ?_
    | refine swp_block ?_
    )
  refine swp_loopS (fun j : Nat => [(0, .slice b n c), (1, .func (.func 62) #[] #[ptr β]), (7, i64 (n : Int)), (8, i64 (j : Int))])
    (fun _ => [J, blk β (.cells ⟨[i64 cl]⟩ 3 (0, 0))]) (fun j => j ≤ n ∧ ∀ y ∈ zs.take j, kno cl y = false) (fun j => n - j) 0 (by repeat first | exact Sub.nil _ | refine Sub.cons rfl ?_) ⟨Nat.zero_le _, by simp⟩ ?_
  rintro j ⟨hj1, hj2⟩
  by_cases hj : j < n
  · obtain ⟨x, hx⟩ : ∃ z, zs[j]? = some z := ⟨_, List.getElem?_eq_getElem (by omega)⟩
    have hcx : (zs.map i64)[((j : Nat) : Int).toNat * 1]? = some (i64 x) := by simp [hx]
    have hr := right1_calls β cl x
    cases hp : kno cl x with
    | true =>
      rw [hp] at hr
      repeat' (first
        | refine swp_seq ?_
        | (refine gk 0 rfl ?_; first | refine sl_op rfl rfl rfl (by first | exact opv_move rfl rfl | exact opv_assign rfl rfl ) ?_ )
        | (refine gk 2 rfl ?_; first | refine sl_yes rfl rfl rfl (by first | exact opv_lss rfl rfl rfl ) (by first | omega ) ?_ )
        | (refine gk 3 rfl ?_; first | refine sl_op rfl rfl rfl (by first | exact opv_indexAddrI rfl rfl rfl (by omega) (by omega) (by first | (simp only [List.length_map]; omega) ) | exact opv_loadEx rfl (by exact rfl) (by infer_instance) (by first | assumption ) ) ?_ )
        | (refine gk 4 rfl ?_; first | refine sl_op rfl rfl rfl (opv_call rfl rfl rfl rfl rfl (hr)) ?_)
        | refine sl_region rfl ?_
        | refine sl_nil ?_
        | refine thn_k ?_
        | refine swp_true rfl ?_
        | refine swp_block ?_
        | refine swp_ret ?_
        | refine swp_skip ?_
        | refine thn_ret ?_
        | refine inb_ret ?_
        )
      refine end_pure (resOk_one (resV_tmp rfl)) ?_
      rw [fi_hit hj2 hx hp]
    | false =>
      rw [hp] at hr
      repeat' (first
        | refine swp_seq ?_
        | (refine gk 0 rfl ?_; first | refine sl_op rfl rfl rfl (by first | exact opv_move rfl rfl | exact opv_assign rfl rfl ) ?_ )
        | (refine gk 1 rfl ?_; first | refine sl_op rfl rfl rfl (by first | exact opv_add64 rfl rfl rfl (by omega) (by omega) ) ?_ )
        | (refine gk 2 rfl ?_; first | refine sl_yes rfl rfl rfl (by first | exact opv_lss rfl rfl rfl ) (by first | omega ) ?_ )
        | (refine gk 3 rfl ?_; first | refine sl_op rfl rfl rfl (by first | exact opv_indexAddrI rfl rfl rfl (by omega) (by omega) (by first | (simp only [List.length_map]; omega) ) | exact opv_loadEx rfl (by exact rfl) (by infer_instance) (by first | assumption ) ) ?_ )
        | (refine gk 4 rfl ?_; first | refine sl_op rfl rfl rfl (opv_call rfl rfl rfl rfl rfl (hr)) ?_)
        | refine sl_region rfl ?_
        | refine sl_nil ?_
        | refine thn_k ?_
        | refine swp_true rfl ?_
        | refine swp_false rfl ?_
        | refine swp_block ?_
        | refine swp_skip ?_
        )
      exact ⟨rfl, j + 1, next_ok (by repeat first | exact Sub.nil _ | refine Sub.cons rfl ?_), ⟨by omega, take_snoc hj2 hx hp⟩, by omega⟩
  · repeat' (first
      | refine swp_seq ?_
      | (refine gk 0 rfl ?_; first | refine sl_op rfl rfl rfl (by first | exact opv_assign rfl rfl ) ?_ )
      | (refine gk 2 rfl ?_; first | refine sl_no rfl rfl rfl (by first | exact opv_lss rfl rfl rfl ) (by first | omega ) ?_ )
      | refine sl_region rfl ?_
      | refine sl_nil ?_
      | refine thn_k ?_
      | refine swp_false rfl ?_
      | refine swp_ret ?_
      | refine swp_exit ?_
      )
    refine end_pure (resOk_one (resV_tmp rfl)) ?_
    rw [List.take_of_length_le (by omega)] at hj2
    rw [fi_none hj2]
theorem containsK_calls (J : Heap) (β : Nat) (cl : Int) (b : Option Addr) (n c : Nat) (zs : List Int) [Sl J b (zs.map i64)] (h1 : zs.length = n) (hsm : n ≤ 9223372036854775807) :
    PFn Tryd.prog 61 [.slice b n c, .func (.func 62) #[] #[ptr β]] [J, blk β (.cells ⟨[i64 cl]⟩ 3 (0, 0))] (.bool (zs.any (kno cl))) := by
  have hc := indexK_calls J β cl b n c zs h1 hsm
  have he := fi_any (kno cl) zs
  refine pure_of_body Tryd.func61 rfl (Nat.le_of_ble_eq_true rfl) fun F => ?_
  repeat' (first
    | refine swp_seq ?_
    | (refine gk 0 rfl ?_; first | refine sl_op rfl rfl rfl (by first | exact opv_move rfl rfl | exact opv_assign rfl rfl ) ?_ )
    | (refine gk 2 rfl ?_; first | refine sl_if rfl rfl rfl (by first | exact opv_geq rfl rfl rfl ) (fun h => ?_) (fun h => ?_) )
    | (refine gk 4 rfl ?_; first | refine sl_op rfl rfl rfl (opv_call rfl rfl rfl rfl rfl (hc)) ?_)
    | refine sl_region rfl ?_
    | refine sl_nil ?_
    | refine thn_k ?_
    | refine swp_ret ?_
    )
  · refine end_pure (resOk_one (resV_tmp rfl)) ?_
    rw [← he]; simp [h]
  · refine end_pure (resOk_one (resV_tmp rfl)) ?_
    rw [← he]; simp [h]
end Go.Proofs.YtjdjkcebflablaaDoor
