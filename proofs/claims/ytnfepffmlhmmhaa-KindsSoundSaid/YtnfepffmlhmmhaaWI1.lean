/- The image that is drawn, walked. -/
import Derived.Test.YtnfepffmlhmmhaaWC4
import Derived.Test.YtnfepffmlhmmhaaSlG8
namespace Go.Proofs.Ytnfepffmlhmmhaa
open Go.SL
set_option maxRecDepth 100000
set_option maxHeartbeats 16000000
attribute [local irreducible] SL.T PFn OpV SOL SWP HOp ChU RowC
-- USE_L4
-- USE_IE
/-- What is handed in. -/
def ClsIn (K : Heap) (cls : List (List Int)) (b : Option Addr) (n : Nat) : Prop :=
  ∃ vals : List Value, Sl K b vals ∧ vals.length = n ∧ cls.length = n ∧ n ≤ 9223372036854775807 ∧ ∀ (i : Nat) (f : List Int), cls[i]? = some f → ∃ fb fn fc, vals[i]? = some (.slice fb fn fc) ∧ Sl K fb (f.map i64) ∧ f.length = fn ∧ fn ≤ 9223372036854775807
def MsIn (K : Heap) (ms : List Me) (b : Option Addr) (n : Nat) : Prop :=
  ∃ vals : List Value, Sl K b vals ∧ vals.length = n * 4 ∧ ms.length = n ∧ n ≤ 9223372036854775807 ∧ ∀ (i : Nat) (m : Me), ms[i]? = some m → ∃ pb pn pc cb cn cc, vals[i * 4]? = some (.slice pb pn pc) ∧ vals[i * 4 + 1]? = some (i64 m.lo) ∧ vals[i * 4 + 2]? = some (i64 m.st) ∧ vals[i * 4 + 3]? = some (.slice cb cn cc) ∧
    Sl K pb (m.params.map i64) ∧ m.params.length = pn ∧ pn ≤ 9223372036854775807 ∧ Sl K cb (flatI m.code) ∧ m.code.length = cn ∧ cn ≤ cc ∧ cn ≤ 9223372036854775807
theorem few_len (zs : List Int) : (few zs).length ≤ 12 := by simp [few]; omega
def ClsP (K : Heap) (cls : List (List Int)) (vals : List Value) : Prop :=
  vals.length = cls.length ∧ ∀ (i : Nat) (f : List Int), cls[i]? = some f → ∃ fb fn fc, vals[i]? = some (.slice fb fn fc) ∧ Sl K fb (f.map i64) ∧ f.length = fn ∧ fn ≤ 4000000
theorem ClsP.mono {K K' : Heap} {cls : List (List Int)} {vals : List Value} (h : ClsP K cls vals) (l : hle K K') : ClsP K' cls vals := by
  refine ⟨h.1, fun i f hf => ?_⟩
  obtain ⟨fb, fn, fc, g1, g2, g3⟩ := h.2 i f hf
  exact ⟨fb, fn, fc, g1, g2.mono l, g3⟩
theorem ClsP.snoc {K : Heap} {cls : List (List Int)} {vals : List Value} {f : List Int} {fb : Option Addr} {fn fc : Nat} (h : ClsP K cls vals) (h1 : Sl K fb (f.map i64)) (h2 : f.length = fn) (h3 : fn ≤ 4000000) : ClsP K (cls ++ [f]) (vals ++ [.slice fb fn fc]) := by
  refine ⟨by simp [h.1], fun i g hg => ?_⟩
  by_cases hi : i < cls.length
  · rw [List.getElem?_append_left hi] at hg
    obtain ⟨gb, gn, gc, g1, g2⟩ := h.2 i g hg
    exact ⟨gb, gn, gc, by rw [List.getElem?_append_left (by rw [h.1]; exact hi)]; exact g1, g2⟩
  · have hi2 : i = cls.length := by
      have := (List.getElem?_eq_some_iff.1 hg).1
      simp at this; omega
    subst hi2
    simp at hg; subst hg
    exact ⟨fb, fn, fc, by rw [← h.1]; simp, h1, h2, h3⟩
theorem flatI_take : ∀ (l : List Ins) (k : Nat), flatI (l.take k) = (flatI l).take (k * 3)
  | [], k => by simp [flatI]
  | x :: l, 0 => by simp [flatI]
  | x :: l, k + 1 => by
    have e : (k + 1) * 3 = k * 3 + 1 + 1 + 1 := by omega
    rw [e]
    simp only [List.take_succ_cons, flatI, flatI_take l k]
theorem flatI_one : ∀ (l : List Ins), (flatI l).all (·.oneCell') = true
  | [] => rfl
  | x :: l => by simp only [flatI, List.all_cons, flatI_one l, Bool.and_true]; rfl
/-- Methods; the code of one of them lies apart. -/
def MsX (K hc : Heap) (mi : Nat) (ms : List Me) (vals : List Value) : Prop :=
  vals.length = ms.length * 4 ∧ (ms.length ≤ mi → hc = emp) ∧ ∀ (i : Nat) (m : Me), ms[i]? = some m → ∃ pb pn pc cb cn cc, vals[i * 4]? = some (.slice pb pn pc) ∧ vals[i * 4 + 1]? = some (i64 m.lo) ∧ vals[i * 4 + 2]? = some (i64 m.st) ∧ vals[i * 4 + 3]? = some (.slice cb cn cc) ∧
    Sl K pb (m.params.map i64) ∧ m.params.length = pn ∧ pn ≤ 4000000 ∧ m.code.length = cn ∧ cn ≤ 20 ∧ (i ≠ mi → Sl K cb (flatI m.code)) ∧ (i = mi → OS hc cb cn cc 39 3 (flatI m.code))
theorem MsX.mono {K K' hc : Heap} {mi : Nat} {ms : List Me} {vals : List Value} (h : MsX K hc mi ms vals) (l : hle K K') : MsX K' hc mi ms vals := by
  refine ⟨h.1, h.2.1, fun i m hm => ?_⟩
  obtain ⟨pb, pn, pc, cb, cn, cc, g1, g2, g3, g4, g5, g6, g7, g8, g9, g10, g11⟩ := h.2.2 i m hm
  exact ⟨pb, pn, pc, cb, cn, cc, g1, g2, g3, g4, g5.mono l, g6, g7, g8, g9, fun e => (g10 e).mono l, g11⟩
theorem snoc_at {ms : List Me} {m0 m : Me} {i : Nat} (h : (ms ++ [m0])[i]? = some m) : (i < ms.length ∧ ms[i]? = some m) ∨ (i = ms.length ∧ m = m0) := by
  by_cases hi : i < ms.length
  · rw [List.getElem?_append_left hi] at h; exact .inl ⟨hi, h⟩
  · have hi2 : i = ms.length := by
      have := (List.getElem?_eq_some_iff.1 h).1
      simp at this; omega
    subst hi2
    simp at h; exact .inr ⟨rfl, h.symm⟩
theorem vals_at {vals : List Value} {v0 v1 v2 v3 : Value} {n : Nat} (h : vals.length = n * 4) : (vals ++ [v0, v1, v2, v3])[n * 4]? = some v0 ∧ (vals ++ [v0, v1, v2, v3])[n * 4 + 1]? = some v1 ∧ (vals ++ [v0, v1, v2, v3])[n * 4 + 2]? = some v2 ∧ (vals ++ [v0, v1, v2, v3])[n * 4 + 3]? = some v3 := by
  rw [← h]
  refine ⟨by simp, ?_, ?_, ?_⟩ <;> (rw [List.getElem?_append_right (by omega)]; simp)
theorem MsX.snoc {K hc hc' : Heap} {mi : Nat} {ms : List Me} {vals : List Value} {m : Me} {pb cb : Option Addr} {pn pc cn cc : Nat} (h : MsX K hc mi ms vals)
    (h1 : Sl K pb (m.params.map i64)) (h2 : m.params.length = pn) (h3 : pn ≤ 4000000) (h4 : m.code.length = cn) (h5 : cn ≤ 20)
    (h6 : ms.length ≠ mi → Sl K cb (flatI m.code) ∧ hc' = hc) (h7 : ms.length = mi → OS hc' cb cn cc 39 3 (flatI m.code)) :
    MsX K hc' mi (ms ++ [m]) (vals ++ [.slice pb pn pc, i64 m.lo, i64 m.st, .slice cb cn cc]) := by
  obtain ⟨a1, a2, a3⟩ := h
  refine ⟨by simp [a1]; omega, fun hl => ?_, fun i m' hm' => ?_⟩
  · simp at hl
    rw [(h6 (by omega)).2]; exact a2 (by omega)
  · rcases snoc_at hm' with ⟨hi, hm2⟩ | ⟨rfl, rfl⟩
    · obtain ⟨pb', pn', pc', cb', cn', cc', g1, g2, g3, g4, g5, g6, g7, g8, g9, g10, g11⟩ := a3 i m' hm2
      refine ⟨pb', pn', pc', cb', cn', cc', ?_, ?_, ?_, ?_, g5, g6, g7, g8, g9, g10, fun e => ?_⟩
      · rw [List.getElem?_append_left (by omega)]; exact g1
      · rw [List.getElem?_append_left (by omega)]; exact g2
      · rw [List.getElem?_append_left (by omega)]; exact g3
      · rw [List.getElem?_append_left (by omega)]; exact g4
      · rw [(h6 (by omega)).2]; exact g11 e
    · obtain ⟨q0, q1, q2, q3⟩ := vals_at (v0 := .slice pb pn pc) (v1 := i64 m'.lo) (v2 := i64 m'.st) (v3 := .slice cb cn cc) a1
      exact ⟨pb, pn, pc, cb, cn, cc, q0, q1, q2, q3, h1, h2, h3, h4, h5, fun e => (h6 e).1, fun e => h7 e⟩
structure S2 where
  j : Nat
  hM : Heap
  b : Option Addr
  c : Nat
  hc : Heap
  K : Heap
  ms : List Me
  vals : List Value
structure S3 where
  hM : Heap
  b : Option Addr
  n : Nat
  c : Nat
  hc : Heap
  K : Heap
  ms : List Me
  vals : List Value
structure S5 where
  hM : Heap
  hc : Heap
  cb : Option Addr
  cn : Nat
  cc : Nat
  code : List Ins
  vals : List Value
theorem set_val {gs : List Value} {k j : Nat} {z : Value} (e : k = j) (hk : j < gs.length) : gs.take k ++ [z] ++ gs.drop (k + 1) = gs.set j z := by
  subst e
  rw [List.set_eq_take_append_cons_drop, if_pos hk]
  simp
theorem flatI_set : ∀ {l : List Ins} {k : Nat} (x : Ins), k < l.length → (flatI l).take (k * 3) ++ [i64 x.op, i64 x.a, i64 x.b] ++ (flatI l).drop (k * 3 + 3) = flatI (l.set k x)
  | [], k, x, h => by simp at h
  | y :: l, 0, x, h => by simp [flatI]
  | y :: l, k + 1, x, h => by
    have ih := flatI_set (l := l) (k := k) x (by simpa using h)
    have e : (k + 1) * 3 = k * 3 + 1 + 1 + 1 := by omega
    have e2 : (k + 1) * 3 + 3 = k * 3 + 3 + 1 + 1 + 1 := by omega
    rw [e2, e]
    simp only [List.set_cons_succ, flatI, List.take_succ_cons, List.drop_succ_cons, List.cons_append]
    rw [ih]
theorem flatI_setK {l : List Ins} {k j : Nat} {op a b : Int} (e : k = j * 3) (h : j < l.length) : (flatI l).take k ++ [i64 op, i64 a, i64 b] ++ (flatI l).drop (k + 3) = flatI (l.set j ⟨op, a, b⟩) := by
  subst e; exact flatI_set ⟨op, a, b⟩ h
theorem tmod_nat {M : Int} {n : Nat} (h : 0 ≤ M ∧ M ≤ 255) : (IntKind.i64.wrap M).tmod (n : Int) = ((M.toNat % n : Nat) : Int) := by
  rw [wrap64_id (by omega) (by omega)]
  obtain ⟨m, rfl⟩ : ∃ m : Nat, M = m := ⟨M.toNat, by omega⟩
  simp [Int.tmod_eq_emod_of_nonneg]
/-- What is made. -/
def ImgP (J : Heap) (mi n : Nat) (e : Ending) (o : List Heap) : Prop :=
  ∃ K H HM hc, o = [K, H, HM, hc] ∧ hle J K ∧ ∃ clb cln clc mb mc, ∃ (at_ : Nat) (cls : List (List Int)) (vals mv : List Value) (ms : List Me) (code : List Ins) (cb : Option Addr) (cn cc : Nat), e = .returned (.tuple #[.agg ⟨[.slice clb cln clc, .slice mb n mc]⟩, i64 (mi : Int), i64 (at_ : Int)]) ∧
    OS H clb cln clc 52 1 vals ∧ ClsP K cls vals ∧ cls.length = cln ∧ cln ≤ 9 ∧ OS HM mb n mc 49 4 mv ∧ ms.length = n ∧ mi < n ∧ n ≤ 5 ∧ OS hc cb cn cc 39 3 (flatI code) ∧ List.length code = cn ∧ at_ < cn ∧ cn ≤ 20 ∧ mv[mi * 4 + 3]? = some (.slice cb cn cc) ∧
    ∀ (i : Nat) (m : Me), ms[i]? = some m → ∃ pb pn pc cb' cn' cc', mv[i * 4]? = some (.slice pb pn pc) ∧ mv[i * 4 + 1]? = some (i64 m.lo) ∧ mv[i * 4 + 2]? = some (i64 m.st) ∧
      Sl K pb (m.params.map i64) ∧ m.params.length = pn ∧ pn ≤ 4000000 ∧ (i ≠ mi → mv[i * 4 + 3]? = some (.slice cb' cn' cc') ∧ m.code.length = cn' ∧ cn' ≤ 20 ∧ Sl K cb' (flatI m.code))
structure S1 where
  j : Nat
  h : Heap
  b : Option Addr
  c : Nat
  K : Heap
  cls : List (List Int)
  vals : List Value
theorem image_walk (J : Heap) (clb mb ab bb sb : Option Addr) (cln clc mn mc an ac bn bc sn sc : Nat) (M A op a b : Int) (cls : List (List Int)) (ms : List Me) (hcls : ClsIn J cls clb cln) (hms : MsIn J ms mb mn) (hM : 0 ≤ M ∧ M ≤ 255) (hA : 0 ≤ A ∧ A ≤ 255) (han : an ≤ 9223372036854775807) :
    SL.T Try.prog 10 [.agg ⟨[.slice clb cln clc, .slice mb mn mc, .int .u8 M, .int .u8 A, .slice ab an ac, .slice bb bn bc, .slice sb sn sc, i64 op, i64 a, i64 b]⟩] [J] fun e o => ∃ mi n, ImgP J mi n e o := by
  obtain ⟨cvals, h1, h2, h3, h4, h5⟩ := hcls
  refine t_of_body Try.func10 rfl (Nat.le_of_ble_eq_true rfl) fun F => ?_
  refine swp_emp ?_
  repeat' (first
    | refine swp_seq ?_
    | (refine gk 0 rfl ?_; first | refine sl_op rfl rfl rfl (by first | exact opv_assign rfl rfl ) ?_ )
    | (refine gk 5 rfl ?_; first | refine sl_box rfl rfl rfl rfl rfl rfl (fun β => ?_) | refine sl_alloc rfl rfl rfl rfl (by exact rfl) (fun β => ?_) )
    | refine sl_region rfl ?_
    | refine sl_nil ?_
    | refine thn_k ?_
    | refine swp_block ?_
    )
  rename_i β1 β2
  refine swp_joinB (S := S1) (fun s => [(1, .pointer (some ⟨β1, 0, none⟩)), (2, .pointer (some ⟨β2, 0, none⟩)), (5, .pointer (some ⟨β, 0, none⟩))])
    (fun s => [s.K, s.h, blk β1 (.cells ⟨[.slice clb cln clc, .slice mb mn mc, .int .u8 M, .int .u8 A, .slice ab an ac, .slice bb bn bc, .slice sb sn sc, i64 op, i64 a, i64 b]⟩ 41 (0, 0)), blk β2 (.cells ⟨[.slice none 0 0, .slice none 0 0]⟩ 37 (0, 0)), blk β (.cells ⟨[.slice s.b s.j s.c, .slice none 0 0]⟩ 37 (0, 0))])
    (fun s => hle J s.K ∧ OS s.h s.b s.j s.c 52 1 s.vals ∧ ClsP s.K s.cls s.vals ∧ s.cls.length = s.j ∧ s.j ≤ 9) ?_ ?_
  · refine swp_loopD (fun s : S1 => [(1, .pointer (some ⟨β1, 0, none⟩)), (2, .pointer (some ⟨β2, 0, none⟩)), (5, .pointer (some ⟨β, 0, none⟩)), (6, i64 (s.j : Int))])
      (fun s => [s.K, s.h, blk β1 (.cells ⟨[.slice clb cln clc, .slice mb mn mc, .int .u8 M, .int .u8 A, .slice ab an ac, .slice bb bn bc, .slice sb sn sc, i64 op, i64 a, i64 b]⟩ 41 (0, 0)), blk β2 (.cells ⟨[.slice none 0 0, .slice none 0 0]⟩ 37 (0, 0)), blk β (.cells ⟨[.slice s.b s.j s.c, .slice none 0 0]⟩ 37 (0, 0))])
      (fun s => s.j ≤ cln ∧ s.j ≤ 9 ∧ hle J s.K ∧ OS s.h s.b s.j s.c 52 1 s.vals ∧ ClsP s.K s.cls s.vals ∧ s.cls.length = s.j)
      (fun s => 9 - s.j) ⟨0, emp, none, 0, J, [], []⟩ (by repeat first | exact Sub.nil _ | refine Sub.cons rfl ?_) ⟨Nat.zero_le _, Nat.zero_le _, hle.refl _, OS.nil, ⟨rfl, fun i f h => by simp at h⟩, rfl⟩ ?_
    rintro ⟨j, H, hb, hc, K, cls', vals⟩ ⟨hj1, hj2, lJ, os, hP, hlen⟩
    dsimp only at hj1 hj2 lJ os hP hlen ⊢
    by_cases hj : j < cln ∧ j < 9
    · obtain ⟨hj3, hj4⟩ := hj
      obtain ⟨f, hf⟩ : ∃ z, cls[j]? = some z := ⟨_, List.getElem?_eq_getElem (by omega)⟩
      obtain ⟨fb, fn, fc, q1, q2, q3, q4⟩ := h5 _ _ hf
      haveI := h1.mono lJ
      haveI := q2.mono lJ
      have hcj : cvals[((j : Nat) : Int).toNat * 1 + 0]? = some (.slice fb fn fc) := by simpa using q1
      have hcl : ((j : Nat) : Int).toNat * 1 < cvals.length := by simp; omega
      repeat' (first
        | refine swp_seq ?_
        | (refine gk 0 rfl ?_; first | refine sl_op rfl rfl rfl (by first | exact opv_move rfl rfl | exact opv_pick_t rfl rfl rfl ) ?_ )
        | (refine gk 2 rfl ?_; first | refine sl_yes rfl rfl rfl (by first | exact opv_lss rfl rfl rfl ) (by first | omega ) ?_ )
        | (refine gk 3 rfl ?_; first | refine sl_op rfl rfl rfl (by first | exact opv_load rfl (by exact rfl) rfl (by exact rfl) | exact opv_fieldAddr rfl rfl ) ?_ )
        | (refine gk 4 rfl ?_; first | refine sl_op rfl rfl rfl (by first | exact opv_len rfl rfl rfl rfl rfl ) ?_)
        | refine sl_region rfl ?_
        | refine sl_nil ?_
        | refine thn_k ?_
        | refine swp_true rfl ?_
        | refine swp_block ?_
        | refine swp_skip ?_
        )
      refine sl_drawC [.q [0, 1, 2, 3, 4, 5, 6, 7, 8], .h false 9, .q [10], .an 11, .rv 11, .h true 12, .q [13], .h true 14] [] (by kernel_rfl) (by kernel_rfl) (by kernel_rfl) (by kernel_rfl) ?_
      repeat' (first
        | (refine gk 0 rfl ?_; first | refine sl_op rfl rfl rfl (by first | exact opv_move rfl rfl | exact opv_assign rfl rfl ) ?_ )
        | (refine gk 1 rfl ?_; first | refine sl_op rfl rfl rfl (by first | exact opv_add64 rfl rfl rfl (by omega) (by omega) ) ?_ )
        | (refine gk 3 rfl ?_; first | refine sl_op rfl rfl rfl (by first | exact opv_load rfl (by exact rfl) rfl (by exact rfl) | exact opv_fieldAddr rfl rfl | exact opv_indexAddrI rfl rfl rfl (by omega) (by omega) (by first | omega ) | exact opv_fieldAddrE rfl rfl (by first | assumption ) | exact opv_loadEx rfl (by exact rfl) (by infer_instance) (by first | assumption ) ) ?_ )
        | (refine gk 5 rfl ?_; first | refine sl_op rfl rfl rfl (by first | exact opv_build rfl rfl (by exact rfl) ) ?_ )
        | refine sl_region rfl ?_
        | refine chu_nil ?_
        | refine chu_q rfl ?_
        | refine chu_new rfl rfl (by first | exact new_buildSlice rfl rfl (by exact rfl) (by exact rfl) (by exact rfl) (by exact rfl) (by exact rfl)) ?_
        | refine chu_rv rfl rfl rfl (fun β => ?_)
        | refine chu_store rfl rfl rfl rfl rfl rfl (by exact rfl) rfl (by exact rfl) (by exact rfl) ?_
        | (refine chu_callW rfl rfl rfl rfl rfl rfl rfl rfl (few_W _ _ _ _ f q3 q4) ?_; rintro _ _ ⟨hN, bN, nN, cN, rfl, rfl, rfl, osN⟩; refine ⟨_, _, rfl, rfl, ?_⟩)
        | refine chu_append rfl rfl rfl rfl rfl rfl rfl rfl rfl os (by decide) rfl (by decide) rfl (by omega) (by omega) (fun hX bX cX osX => ?_)
        | refine sl_nil ?_
        | refine thn_k ?_
        )
      intro hdj
      have dj := disj_of (h := hN) (k := K) hdj
      have l1 : hle hN (join hN K) := join_left
      have l2 : hle K (join hN K) := join_right dj
      exact ⟨rfl, ⟨j + 1, hX, bX, cX, join hN K, cls' ++ [few f], _⟩, next_join (by repeat first | exact Sub.nil _ | refine Sub.cons rfl ?_), ⟨by dsimp only; omega, by dsimp only; omega, lJ.trans l2, osX, (hP.mono l2).snoc (osN.sl.mono l1) rfl (by have := few_len f; omega), by simp [hlen]⟩, by dsimp only; omega⟩
    · repeat' (first
        | refine swp_seq ?_
        | (refine gk 0 rfl ?_; first | refine sl_op rfl rfl rfl (by first | exact opv_move rfl rfl | exact opv_pick_t rfl rfl rfl | exact opv_pick_f rfl rfl rfl ) ?_ | refine sl_pass rfl rfl rfl rfl ?_)
        | (refine gk 2 rfl ?_; first | refine sl_pass rfl rfl rfl rfl ?_ | refine sl_no rfl rfl rfl (by first | exact opv_lss rfl rfl rfl ) (by first | omega ) ?_ | refine sl_if rfl rfl rfl (by first | exact opv_lss rfl rfl rfl ) (fun h => ?_) (fun h => ?_) )
        | (refine gk 3 rfl ?_; first | refine sl_op rfl rfl rfl (by first | exact opv_load rfl (by exact rfl) rfl (by exact rfl) | exact opv_fieldAddr rfl rfl ) ?_ )
        | (refine gk 4 rfl ?_; first | refine sl_op rfl rfl rfl (by first | exact opv_len rfl rfl rfl rfl rfl ) ?_)
        | refine sl_region rfl ?_
        | refine sl_nil ?_
        | refine thn_k ?_
        | refine swp_false rfl ?_
        | refine swp_exit ?_
        | refine thn_exit ?_
        | refine inb_exit ?_
        )
      all_goals exact ⟨rfl, ⟨j, H, hb, hc, K, cls', vals⟩, next_ok (by repeat first | exact Sub.nil _ | refine Sub.cons rfl ?_), lJ, os, hP, hlen, hj2⟩
  rintro ⟨j, H, hb, hc, K, cls', vals⟩ ⟨lJ, os, hP, hlen, hj9⟩
  dsimp only at lJ os hP hlen hj9 ⊢
  obtain ⟨mvals, e1, e2, e3, e4, e5⟩ := hms
  obtain ⟨mi, hmi⟩ : ∃ mi : Nat, mi = M.toNat % (if mn = 0 then 1 else min mn 5) := ⟨_, rfl⟩
  refine swp_emp ?_
  refine swp_emp ?_
  repeat' (first
    | refine swp_seq ?_
    | (refine gk 0 rfl ?_; first | refine sl_op rfl rfl rfl (by first | exact opv_assign rfl rfl ) ?_ )
    | refine sl_region rfl ?_
    | refine sl_nil ?_
    | refine thn_k ?_
    | refine swp_block ?_
    )
  refine swp_joinB (S := S3) (fun s => [(1, .pointer (some ⟨β1, 0, none⟩)), (2, .pointer (some ⟨β2, 0, none⟩)), (5, .pointer (some ⟨β, 0, none⟩))])
      (fun s => [s.K, s.hM, s.hc, H, blk β1 (.cells ⟨[.slice clb cln clc, .slice mb mn mc, .int .u8 M, .int .u8 A, .slice ab an ac, .slice bb bn bc, .slice sb sn sc, i64 op, i64 a, i64 b]⟩ 41 (0, 0)), blk β2 (.cells ⟨[.slice none 0 0, .slice none 0 0]⟩ 37 (0, 0)), blk β (.cells ⟨[.slice hb j hc, .slice s.b s.n s.c]⟩ 37 (0, 0))])
      (fun s => hle K s.K ∧ OS s.hM s.b s.n s.c 49 4 s.vals ∧ MsX s.K s.hc mi s.ms s.vals ∧ s.ms.length = s.n ∧ s.n = min mn 5) ?_ ?_
  · refine swp_loopD (fun s : S2 => [(1, .pointer (some ⟨β1, 0, none⟩)), (2, .pointer (some ⟨β2, 0, none⟩)), (5, .pointer (some ⟨β, 0, none⟩)), (7, i64 (s.j : Int))])
      (fun s => [s.K, s.hM, s.hc, H, blk β1 (.cells ⟨[.slice clb cln clc, .slice mb mn mc, .int .u8 M, .int .u8 A, .slice ab an ac, .slice bb bn bc, .slice sb sn sc, i64 op, i64 a, i64 b]⟩ 41 (0, 0)), blk β2 (.cells ⟨[.slice none 0 0, .slice none 0 0]⟩ 37 (0, 0)), blk β (.cells ⟨[.slice hb j hc, .slice s.b s.j s.c]⟩ 37 (0, 0))])
      (fun s => s.j ≤ mn ∧ s.j ≤ 5 ∧ hle K s.K ∧ OS s.hM s.b s.j s.c 49 4 s.vals ∧ MsX s.K s.hc mi s.ms s.vals ∧ s.ms.length = s.j)
      (fun s => 5 - s.j) ⟨0, emp, none, 0, emp, K, [], []⟩ (by repeat first | exact Sub.nil _ | refine Sub.cons rfl ?_) ⟨Nat.zero_le _, Nat.zero_le _, hle.refl _, OS.nil, ⟨rfl, fun _ => rfl, fun i f h => by simp at h⟩, rfl⟩ ?_
    rintro ⟨k, HM, bM, cM, hC, K2, ms', mv⟩ ⟨hk1, hk2, lK, osM, hX, hml⟩
    dsimp only at hk1 hk2 lK osM hX hml ⊢
    by_cases hk : k < mn ∧ k < 5
    · obtain ⟨hk3, hk4⟩ := hk
      obtain ⟨m, hm⟩ : ∃ z, ms[k]? = some z := ⟨_, List.getElem?_eq_getElem (by omega)⟩
      obtain ⟨pb, pn, pc, cb, cn, cc, q1, q2, q3, q4, q5, q6, q7, q8, q9, q10, q11⟩ := e5 _ _ hm
      have lJ2 := lJ.trans lK
      haveI := e1.mono lJ2
      haveI := q5.mono lJ2
      have hc0 : mvals[((k : Nat) : Int).toNat * 4]? = some (.slice pb pn pc) := q1
      have hc1 : mvals[((k : Nat) : Int).toNat * 4 + 1]? = some (i64 m.lo) := q2
      have hc2 : mvals[((k : Nat) : Int).toNat * 4 + 2]? = some (i64 m.st) := q3
      have hc3 : mvals[((k : Nat) : Int).toNat * 4 + 3]? = some (.slice cb cn cc) := q4
      have hcl : ((k : Nat) : Int).toNat * 4 < mvals.length := by simp; omega
      have slT : Sl K2 cb (flatI (m.code.take 20)) := by
        rw [flatI_take]; exact (q8.mono lJ2).take _
      haveI := slT
      have htl : (m.code.take 20).length = (min (cn : Int) 20).toNat := by simp; omega
      have hfl : (flatI (m.code.take 20)).length = (min (cn : Int) 20).toNat * 3 := by rw [flatI_length, htl]
      repeat' (first
        | refine swp_seq ?_
        | (refine gk 0 rfl ?_; first | refine sl_op rfl rfl rfl (by first | exact opv_move rfl rfl | exact opv_assign rfl rfl | exact opv_pick_t rfl rfl rfl ) ?_ )
        | (refine gk 1 rfl ?_; first | refine sl_op rfl rfl rfl (by first | exact opv_add64 rfl rfl rfl (by omega) (by omega) ) ?_ )
        | (refine gk 2 rfl ?_; first | refine sl_yes rfl rfl rfl (by first | exact opv_lss rfl rfl rfl ) (by first | omega ) ?_ )
        | (refine gk 3 rfl ?_; first | refine sl_op rfl rfl rfl (by first | exact opv_load rfl (by exact rfl) rfl (by exact rfl) | exact opv_fieldAddr rfl rfl | exact opv_loadA rfl (by exact rfl) rfl (by exact rfl) (by exact rfl) | exact opv_indexAddrI rfl rfl rfl (by omega) (by omega) (by first | omega ) | exact opv_load4 rfl (by exact rfl) (by infer_instance) (by assumption) (by assumption) (by assumption) (by assumption)) ?_ )
        | (refine gk 4 rfl ?_; first | refine sl_op rfl rfl rfl (by first | exact opv_len rfl rfl rfl rfl rfl | exact opv_min rfl rfl rfl rfl rfl ) ?_ | (refine sl_callW rfl rfl rfl rfl rfl rfl rfl rfl (few_W _ _ _ _ m.params q6 q7) ?_; rintro _ _ ⟨hN, bN, nN, cN, rfl, rfl, rfl, osN⟩; refine ⟨_, _, rfl, rfl, ?_⟩) | refine sl_appendG rfl rfl rfl rfl rfl rfl rfl rfl rfl (OS.blk (len := 0) (sz := 3) (cs := []) rfl) hfl (by decide) (flatI_one _) (by omega) (by omega) (fun hD bD cD osD _ => ?_) | refine sl_append rfl rfl rfl rfl rfl rfl rfl rfl rfl osM (by decide) rfl (by decide) rfl (by omega) (by omega) (fun hY bY cY osY => ?_))
        | (refine gk 5 rfl ?_; first | refine sl_op rfl rfl rfl (by first | exact opv_sliceHi rfl rfl rfl (by omega) (by omega) ) ?_ | refine sl_buildSlice rfl rfl rfl rfl rfl (by exact rfl) (by exact rfl) (by exact rfl) (by exact rfl) rfl (fun b => ?_) | refine sl_alloc rfl rfl rfl rfl (by exact rfl) (fun β => ?_) | refine sl_store rfl rfl rfl rfl rfl rfl (by exact rfl) rfl (by exact rfl) ?_)
        | refine sl_region rfl ?_
        | refine sl_nil ?_
        | refine thn_k ?_
        | refine swp_true rfl ?_
        | refine swp_block ?_
        | refine swp_skip ?_
        )
      intro hdj
      have f12 := few_len m.params
      have htl2 : (m.code.take 20).length = 0 + (min (cn : Int) 20).toNat := by rw [htl, Nat.zero_add]
      by_cases hkm : k = mi
      · have dj := disj_of (h := hN) (k := K2) hdj
        have l1 : hle hN (join hN K2) := join_left
        have l2 : hle K2 (join hN K2) := join_right dj
        exact ⟨rfl, ⟨k + 1, hY, bY, cY, hD, join hN K2, ms' ++ [⟨few m.params, m.lo, m.st, m.code.take 20⟩], _⟩, next_join (by repeat first | exact Sub.nil _ | refine Sub.cons rfl ?_), ⟨by dsimp only; omega, by dsimp only; omega, lK.trans l2, osY, (hX.mono l2).snoc (m := ⟨few m.params, m.lo, m.st, m.code.take 20⟩) (osN.sl.mono l1) rfl (by dsimp only; omega) htl2 (by omega) (fun e => absurd (hml.trans hkm) e) (fun _ => osD), by simp [hml]⟩, by dsimp only; omega⟩
      · obtain ⟨d1, d2, d3⟩ := disj3 (h := hD) (g := hN) (k := K2) hdj
        have l0 : hle hD (join hD (join hN K2)) := join_left
        have l3 : hle (join hN K2) (join hD (join hN K2)) := join_right (disj_join_mk d1 d2)
        have l1 : hle hN (join hD (join hN K2)) := hle.trans join_left l3
        have l2 : hle K2 (join hD (join hN K2)) := (join_right d3).trans l3
        exact ⟨rfl, ⟨k + 1, hY, bY, cY, hC, join hD (join hN K2), ms' ++ [⟨few m.params, m.lo, m.st, m.code.take 20⟩], _⟩, next_join3 (by repeat first | exact Sub.nil _ | refine Sub.cons rfl ?_), ⟨by dsimp only; omega, by dsimp only; omega, lK.trans l2, osY, (hX.mono l2).snoc (m := ⟨few m.params, m.lo, m.st, m.code.take 20⟩) (osN.sl.mono l1) rfl (by dsimp only; omega) htl2 (by omega) (fun _ => ⟨osD.sl.mono l0, rfl⟩) (fun e => absurd (hml.symm.trans e) hkm), by simp [hml]⟩, by dsimp only; omega⟩
    · repeat' (first
        | refine swp_seq ?_
        | (refine gk 0 rfl ?_; first | refine sl_op rfl rfl rfl (by first | exact opv_move rfl rfl | exact opv_pick_t rfl rfl rfl | exact opv_pick_f rfl rfl rfl ) ?_ | refine sl_pass rfl rfl rfl rfl ?_)
        | (refine gk 2 rfl ?_; first | refine sl_pass rfl rfl rfl rfl ?_ | refine sl_no rfl rfl rfl (by first | exact opv_lss rfl rfl rfl ) (by first | omega ) ?_ | refine sl_if rfl rfl rfl (by first | exact opv_lss rfl rfl rfl ) (fun h => ?_) (fun h => ?_) )
        | (refine gk 3 rfl ?_; first | refine sl_op rfl rfl rfl (by first | exact opv_load rfl (by exact rfl) rfl (by exact rfl) | exact opv_fieldAddr rfl rfl ) ?_ )
        | (refine gk 4 rfl ?_; first | refine sl_op rfl rfl rfl (by first | exact opv_len rfl rfl rfl rfl rfl ) ?_)
        | refine sl_region rfl ?_
        | refine sl_nil ?_
        | refine thn_k ?_
        | refine swp_false rfl ?_
        | refine swp_exit ?_
        | refine thn_exit ?_
        | refine inb_exit ?_
        )
      all_goals exact ⟨rfl, ⟨HM, bM, k, cM, hC, K2, ms', mv⟩, next_ok (by repeat first | exact Sub.nil _ | refine Sub.cons rfl ?_), lK, osM, hX, hml, by dsimp only; omega⟩
  rintro ⟨HM, bM, n, cM, hC, K2, ms', mv⟩ ⟨lK, osM, hX, hml, hn⟩
  dsimp only at lK osM hX hml hn ⊢
  haveI := osM.sl
  repeat' ((fail_if_success (refine stop_at 13 ?_)); (first
    | refine swp_seq ?_
    ))
  refine swp_seq ?_
  refine swp_joinS (S := S3) (fun s => [(1, .pointer (some ⟨β1, 0, none⟩)), (2, .pointer (some ⟨β2, 0, none⟩)), (5, .pointer (some ⟨β, 0, none⟩))])
      (fun s => [s.K, s.hM, s.hc, H, blk β1 (.cells ⟨[.slice clb cln clc, .slice mb mn mc, .int .u8 M, .int .u8 A, .slice ab an ac, .slice bb bn bc, .slice sb sn sc, i64 op, i64 a, i64 b]⟩ 41 (0, 0)), blk β2 (.cells ⟨[.slice none 0 0, .slice none 0 0]⟩ 37 (0, 0)), blk β (.cells ⟨[.slice hb j hc, .slice s.b s.n s.c]⟩ 37 (0, 0))])
      (fun s => hle K s.K ∧ OS s.hM s.b s.n s.c 49 4 s.vals ∧ MsX s.K s.hc mi s.ms s.vals ∧ s.ms.length = s.n ∧ mi < s.n ∧ s.n ≤ 5 ∧ M.toNat % s.n = mi) ?_ ?_
  · by_cases hn0 : n = 0
    · obtain rfl : hC = emp := hX.2.1 (by omega)
      have hmn : mn = 0 := by omega
      have hmi0 : mi = 0 := by rw [hmi, if_pos hmn, Nat.mod_one]
      subst hn0
      repeat' (first
        | refine swp_seq ?_
        | (refine gk 2 rfl ?_; first | refine sl_yes rfl rfl rfl (by first | exact opv_eql rfl rfl rfl ) (by first | omega ) ?_ )
        | (refine gk 3 rfl ?_; first | refine sl_op rfl rfl rfl (by first | exact opv_load rfl (by exact rfl) rfl (by exact rfl) | exact opv_fieldAddr rfl rfl ) ?_ )
        | (refine gk 4 rfl ?_; first | refine sl_op rfl rfl rfl (by first | exact opv_len rfl rfl rfl rfl rfl ) ?_)
        | (refine gk 5 rfl ?_; first | refine sl_op rfl rfl rfl (by first | exact opv_build rfl rfl (by exact rfl) ) ?_ | refine sl_buildSlice rfl rfl rfl rfl rfl (by exact rfl) (by exact rfl) (by exact rfl) (by exact rfl) rfl (fun b => ?_) | refine sl_store rfl rfl rfl rfl rfl rfl (by exact rfl) rfl (by exact rfl) ?_)
        | refine sl_region rfl ?_
        | refine sl_nil ?_
        | refine thn_k ?_
        | refine swp_true rfl ?_
        )
      exact ⟨rfl, ⟨blk b (.cells ⟨[.slice none 0 0, i64 (an : Int), i64 3, .slice none 0 0]⟩ 49 (0, 0)), some ⟨b, 0, none⟩, 1, 1, emp, K2, [⟨[], (an : Int), 3, []⟩], _⟩, next_ok (by repeat first | exact Sub.nil _ | refine Sub.cons rfl ?_), lK, OS.blk (len := 1) (sz := 4) rfl, ⟨rfl, fun _ => rfl, fun i m hm => by
        have hi : i = 0 := by have := (List.getElem?_eq_some_iff.1 hm).1; simpa using this
        subst hi
        simp at hm; subst hm
        exact ⟨none, 0, 0, none, 0, 0, rfl, rfl, rfl, rfl, Sl.none, rfl, by omega, rfl, by omega, fun _ => Sl.none, fun _ => OS.nil⟩⟩, rfl, by rw [hmi0]; exact Nat.succ_pos 0, by dsimp only; omega, by rw [hmi0]; exact Nat.mod_one _⟩
    · repeat' (first
        | refine swp_seq ?_
        | (refine gk 2 rfl ?_; first | refine sl_no rfl rfl rfl (by first | exact opv_eql rfl rfl rfl ) (by first | omega ) ?_ )
        | (refine gk 3 rfl ?_; first | refine sl_op rfl rfl rfl (by first | exact opv_load rfl (by exact rfl) rfl (by exact rfl) | exact opv_fieldAddr rfl rfl ) ?_ )
        | (refine gk 4 rfl ?_; first | refine sl_op rfl rfl rfl (by first | exact opv_len rfl rfl rfl rfl rfl ) ?_)
        | refine sl_region rfl ?_
        | refine sl_nil ?_
        | refine thn_k ?_
        | refine swp_false rfl ?_
        | refine swp_skip ?_
        )
      exact ⟨rfl, ⟨HM, bM, n, cM, hC, K2, ms', mv⟩, next_ok (by repeat first | exact Sub.nil _ | refine Sub.cons rfl ?_), lK, osM, hX, hml, by
        dsimp only
        rw [hmi, if_neg (by omega), hn]
        exact Nat.mod_lt _ (by omega), by dsimp only; omega, by
        dsimp only
        rw [hmi, if_neg (by omega), hn]⟩
  clear osM hX hml hn
  rintro ⟨HM, bM, n, cM, hC, K2, ms', mv⟩ ⟨lK, osM, hX, hml, hmn, hn5, hmm⟩
  dsimp only at lK osM hX hml hmn hn5 hmm ⊢
  haveI := osM.sl
  repeat' ((fail_if_success (refine stop_at 16 ?_)); (first
    | refine swp_seq ?_
    | (refine gk 0 rfl ?_; first | refine sl_op rfl rfl rfl (by first | exact opv_assign rfl rfl ) ?_ )
    | (refine gk 1 rfl ?_; first | refine sl_op rfl rfl rfl (by first | exact opv_rem rfl rfl rfl (by omega) ) ?_ )
    | (refine gk 3 rfl ?_; first | refine sl_op rfl rfl rfl (by first | exact opv_load rfl (by exact rfl) rfl (by exact rfl) | exact opv_fieldAddr rfl rfl ) ?_ )
    | (refine gk 4 rfl ?_; first | refine sl_op rfl rfl rfl (by first | exact opv_len rfl rfl rfl rfl rfl ) ?_)
    | (refine gk 5 rfl ?_; first | refine sl_op rfl rfl rfl (by first | exact opv_convert rfl rfl ) ?_ )
    | refine sl_region rfl ?_
    | refine sl_nil ?_
    ))
  have hrem : (IntKind.i64.wrap M).tmod (n : Int) = (mi : Int) := by rw [tmod_nat hM, hmm]
  rw [hrem]
  obtain ⟨m0, hm0⟩ : ∃ z, ms'[mi]? = some z := ⟨_, List.getElem?_eq_getElem (by omega)⟩
  obtain ⟨pb, pn, pc, cb, cn, cc, g1, g2, g3, g4, g5, g6, g7, g8, g9, g10, g11⟩ := hX.2.2 _ _ hm0
  have hml4 := hX.1
  have hcm : mv[((mi : Nat) : Int).toNat * 4 + 3]? = some (.slice cb cn cc) := g4
  have hlm : ((mi : Nat) : Int).toNat * 4 < mv.length := by simp; omega
  refine thn_k ?_
  repeat' ((fail_if_success (refine stop_at 16 ?_)); (first
    | refine swp_seq ?_
    ))
  refine swp_seq ?_
  refine swp_joinS (S := S5) (fun s => [(1, .pointer (some ⟨β1, 0, none⟩)), (2, .pointer (some ⟨β2, 0, none⟩)), (5, .pointer (some ⟨β, 0, none⟩)), (9, i64 (mi : Int))])
      (fun s => [K2, s.hM, s.hc, H, blk β1 (.cells ⟨[.slice clb cln clc, .slice mb mn mc, .int .u8 M, .int .u8 A, .slice ab an ac, .slice bb bn bc, .slice sb sn sc, i64 op, i64 a, i64 b]⟩ 41 (0, 0)), blk β2 (.cells ⟨[.slice none 0 0, .slice none 0 0]⟩ 37 (0, 0)), blk β (.cells ⟨[.slice hb j hc, .slice bM n cM]⟩ 37 (0, 0))])
      (fun s => OS s.hM bM n cM 49 4 s.vals ∧ s.vals[((mi : Nat) : Int).toNat * 4 + 3]? = some (.slice s.cb s.cn s.cc) ∧ (∀ k, k ≠ mi * 4 + 3 → s.vals[k]? = mv[k]?) ∧ OS s.hc s.cb s.cn s.cc 39 3 (flatI s.code) ∧ s.code.length = s.cn ∧ 0 < s.cn ∧ s.cn ≤ 20) ?_ ?_
  · by_cases hc0 : cn = 0
    · repeat' (first
        | refine sl_storeE rfl rfl rfl rfl rfl osM rfl rfl rfl (Nat.succ_pos _) (by simp; omega) (set_val (j := mi * 4 + 3) (by simp) (by omega)) (fun hM' osM' => ?_)
        | refine swp_seq ?_
        | (refine gk 0 rfl ?_; first | refine sl_op rfl rfl rfl (by first | exact opv_move rfl rfl ) ?_ )
        | (refine gk 2 rfl ?_; first | refine sl_yes rfl rfl rfl (by first | exact opv_eql rfl rfl rfl ) (by first | omega ) ?_ )
        | (refine gk 3 rfl ?_; first | refine sl_op rfl rfl rfl (by first | exact opv_load rfl (by exact rfl) rfl (by exact rfl) | exact opv_fieldAddr rfl rfl | exact opv_indexAddrI rfl rfl rfl (by omega) (by omega) (by first | omega ) | exact opv_fieldAddrE rfl rfl (by first | assumption ) | exact opv_loadEx rfl (by exact rfl) (by infer_instance) (by first | assumption ) ) ?_ )
        | (refine gk 4 rfl ?_; first | refine sl_op rfl rfl rfl (by first | exact opv_len rfl rfl rfl rfl rfl ) ?_)
        | (refine gk 5 rfl ?_; first | refine sl_op rfl rfl rfl (by first | exact opv_build rfl rfl (by exact rfl) ) ?_ | refine sl_buildSlice rfl rfl rfl rfl rfl (by exact rfl) (by exact rfl) (by exact rfl) (by exact rfl) rfl (fun b => ?_) )
        | refine sl_region rfl ?_
        | refine sl_nil ?_
        | refine thn_k ?_
        | refine swp_true rfl ?_
        )
      exact ⟨rfl, ⟨hM', blk b (.cells ⟨[i64 0, i64 0, i64 0]⟩ 39 (0, 0)), some ⟨b, 0, none⟩, 1, 1, [⟨0, 0, 0⟩], _⟩, next_ok (by repeat first | exact Sub.nil _ | refine Sub.cons rfl ?_), osM', List.getElem?_set_self (l := mv) (i := mi * 4 + 3) (by omega), fun k hk => by rw [List.getElem?_set_ne (Ne.symm hk)], OS.blk (len := 1) (sz := 3) rfl, rfl, Nat.succ_pos 0, by dsimp only; omega⟩
    · repeat' (first
        | refine swp_seq ?_
        | (refine gk 0 rfl ?_; first | refine sl_op rfl rfl rfl (by first | exact opv_move rfl rfl ) ?_ )
        | (refine gk 2 rfl ?_; first | refine sl_no rfl rfl rfl (by first | exact opv_eql rfl rfl rfl ) (by first | omega ) ?_ )
        | (refine gk 3 rfl ?_; first | refine sl_op rfl rfl rfl (by first | exact opv_load rfl (by exact rfl) rfl (by exact rfl) | exact opv_fieldAddr rfl rfl | exact opv_indexAddrI rfl rfl rfl (by omega) (by omega) (by first | omega ) | exact opv_fieldAddrE rfl rfl (by first | assumption ) | exact opv_loadEx rfl (by exact rfl) (by infer_instance) (by first | assumption ) ) ?_ )
        | (refine gk 4 rfl ?_; first | refine sl_op rfl rfl rfl (by first | exact opv_len rfl rfl rfl rfl rfl ) ?_)
        | refine sl_region rfl ?_
        | refine sl_nil ?_
        | refine thn_k ?_
        | refine swp_false rfl ?_
        | refine swp_skip ?_
        )
      exact ⟨rfl, ⟨HM, hC, cb, cn, cc, m0.code, mv⟩, next_ok (by repeat first | exact Sub.nil _ | refine Sub.cons rfl ?_), osM, hcm, fun k _ => rfl, g11 rfl, g8, by dsimp only; omega, g9⟩
  clear hcm hlm this osM
  rintro ⟨HM2, hC2, cb2, cn2, cc2, code2, mv2⟩ ⟨osM, hcm, hsame, osC, hcl2, hcp, hc20⟩
  dsimp only at osM hcm hsame osC hcl2 hcp hc20 ⊢
  haveI := osM.sl
  haveI slC := osC.sl
  have hml5 : mv2.length = n * 4 := osM.hlen
  have hlm : ((mi : Nat) : Int).toNat * 4 < mv2.length := by simp; omega
  have hrem2 : (IntKind.i64.wrap A).tmod (cn2 : Int) = ((A.toNat % cn2 : Nat) : Int) := tmod_nat hA
  obtain ⟨at_, hat⟩ : ∃ x, A.toNat % cn2 = x := ⟨_, rfl⟩
  have hat2 : at_ < cn2 := by rw [← hat]; exact Nat.mod_lt _ hcp
  rw [hat] at hrem2
  have hfl := flatI_length code2
  have hla : ((at_ : Nat) : Int).toNat * 3 < (flatI code2).length := by simp; omega
  refine swp_seq ?_
  refine sl_draw (by kernel_rfl) (by kernel_rfl) rfl ?_
  repeat' (first
    | refine sl_op rfl rfl rfl ((opv_rem rfl rfl rfl (by omega)).to (congrArg (Value.int .i64) hrem2)) ?_
    | refine swp_seq ?_
    | (refine gk 0 rfl ?_; first | refine sl_op rfl rfl rfl (by first | exact opv_move rfl rfl | exact opv_assign rfl rfl ) ?_ )
    | (refine gk 1 rfl ?_; first | refine sl_op rfl rfl rfl (by first | exact opv_rem rfl rfl rfl (by omega) ) ?_ )
    | (refine gk 3 rfl ?_; first | refine sl_op rfl rfl rfl (by first | exact opv_load rfl (by exact rfl) rfl (by exact rfl) | exact opv_fieldAddr rfl rfl | exact opv_loadA rfl (by exact rfl) rfl (by exact rfl) (by exact rfl) | exact opv_indexAddrI rfl rfl rfl (by omega) (by omega) (by first | omega ) | exact opv_fieldAddrE rfl rfl (by first | assumption ) | exact opv_loadEx rfl (by exact rfl) (by infer_instance) (by first | assumption ) ) ?_ )
    | (refine gk 4 rfl ?_; first | refine sl_op rfl rfl rfl (by first | exact opv_len rfl rfl rfl rfl rfl ) ?_)
    | (refine gk 5 rfl ?_; first | refine sl_op rfl rfl rfl (by first | exact opv_convert rfl rfl ) ?_ | refine sl_alloc rfl rfl rfl rfl (by exact rfl) (fun β => ?_) | refine sl_store rfl rfl rfl rfl rfl rfl (by exact rfl) rfl (by exact rfl) ?_)
    | refine sl_region rfl ?_
    | refine sl_nil ?_
    )
  refine sl_drawC [.q [0, 1, 2, 3, 4, 5, 6, 7, 8], .h true 9] [] (by kernel_rfl) (by kernel_rfl) (by kernel_rfl) (by kernel_rfl) ?_
  repeat' (first
    | refine swp_seq ?_
    | (refine gk 0 rfl ?_; first | refine sl_op rfl rfl rfl (by first | exact opv_move rfl rfl | exact opv_assign rfl rfl ) ?_ )
    | (refine gk 3 rfl ?_; first | refine sl_op rfl rfl rfl (by first | exact opv_load rfl (by exact rfl) rfl (by exact rfl) | exact opv_fieldAddr rfl rfl | exact opv_loadA rfl (by exact rfl) rfl (by exact rfl) (by exact rfl) | exact opv_indexAddrI rfl rfl rfl (by omega) (by omega) (by first | omega ) | exact opv_fieldAddrE rfl rfl (by first | assumption ) | exact opv_loadEx rfl (by exact rfl) (by infer_instance) (by first | assumption ) ) ?_ )
    | (refine gk 5 rfl ?_; first | refine sl_store rfl rfl rfl rfl rfl rfl (by exact rfl) rfl (by exact rfl) ?_)
    | refine sl_region rfl ?_
    | refine chu_nil ?_
    | refine chu_q rfl ?_
    | refine chu_storeE rfl rfl rfl rfl rfl rfl osC rfl rfl rfl (Nat.succ_pos _) (by simp; omega) (flatI_setK (j := at_) (by simp) (by omega)) (fun hC3 osC3 => ?_)
    | refine sl_nil ?_
    | refine thn_k ?_
    | refine swp_ret ?_
    )
  refine end_retL [K2, H, HM2, hC3] (resOk_three (resV_cellA rfl rfl rfl rfl) (resV_tmp rfl) (resV_tmp rfl)) ⟨mi, n, K2, H, HM2, hC3, rfl, lJ.trans lK, hb, j, hc, bM, cM, at_, cls', vals, mv2, ms', code2.set at_ ⟨IntKind.i64.wrap ((IntKind.u64.wrap op).tmod 22), a, b⟩, cb2, cn2, cc2, rfl, os, hP.mono lK, hlen, hj9, osM, hml, hmn, hn5, osC3, by simp [hcl2], hat2, hc20, hcm, fun i m hm => ?_⟩
  obtain ⟨pb', pn', pc', cb', cn', cc', q1, q2, q3, q4, q5, q6, q7, q8, q9, q10, q11⟩ := hX.2.2 i m hm
  exact ⟨pb', pn', pc', cb', cn', cc', by rw [hsame _ (by omega)]; exact q1, by rw [hsame _ (by omega)]; exact q2, by rw [hsame _ (by omega)]; exact q3, q5, q6, q7, fun hi => ⟨by rw [hsame _ (by omega)]; exact q4, q8, q9, q10 hi⟩⟩
def ImgQ (J : Heap) (e : Ending) (o : List Heap) : Prop :=
  ∃ K, o = [K] ∧ hle J K ∧ ∃ (im : Im) (clb mb : Option Addr) (cln clc mn mc mi at_ : Nat) (m : Me), e = .returned (.tuple #[.agg ⟨[.slice clb cln clc, .slice mb mn mc]⟩, i64 (mi : Int), i64 (at_ : Int)]) ∧ ClsOk K im.cls clb cln ∧ MsOk K im.ms mb mn ∧ mi < mn ∧ im.ms[mi]? = some m ∧ at_ < m.code.length
theorem image_calls (J : Heap) (clb mb ab bb sb : Option Addr) (cln clc mn mc an ac bn bc sn sc : Nat) (M A op a b : Int) (cls : List (List Int)) (ms : List Me) (hcls : ClsIn J cls clb cln) (hms : MsIn J ms mb mn) (hM : 0 ≤ M ∧ M ≤ 255) (hA : 0 ≤ A ∧ A ≤ 255) (han : an ≤ 9223372036854775807) :
    SL.T Try.prog 10 [.agg ⟨[.slice clb cln clc, .slice mb mn mc, .int .u8 M, .int .u8 A, .slice ab an ac, .slice bb bn bc, .slice sb sn sc, i64 op, i64 a, i64 b]⟩] [J] (ImgQ J) := by
  refine (T_joinP (R := fun e A N => A = [] ∧ ∃ mi n, ImgP J mi n e N) ((image_walk J clb mb ab bb sb cln clc mn mc an ac bn bc sn sc M A op a b cls ms hcls hms hM hA han).mono fun e o h => ⟨[], o, by simp, rfl, h⟩)).mono ?_
  rintro e o ⟨A, N, K', rfl, hK, rfl, mi, n, K, H, HM, hc, rfl, hJ, clb', cln', clc', mb', mc', at_, cls', vals, mv, ms', code, cb, cn, cc, rfl, os, hP, hcl, hc9, osM, hml, hmn, hn5, osC, hcn, hat, hc20, hcm, hall⟩
  have lK := hK K (by simp)
  have lH := hK H (by simp)
  have lM := hK HM (by simp)
  have lC := hK hc (by simp)
  obtain ⟨m0, hm0⟩ : ∃ z, ms'[mi]? = some z := ⟨_, List.getElem?_eq_getElem (by omega)⟩
  refine ⟨K', rfl, hJ.trans lK, ⟨cls', ms'.set mi { m0 with code := code }⟩, clb', mb', cln', clc', n, mc', mi, at_, { m0 with code := code }, rfl, ⟨vals, os.sl.mono lH, by rw [hP.1, hcl], hcl, by omega, fun i f hf => ?_⟩, ⟨mv, osM.sl.mono lM, osM.hlen, by simp [hml], by omega, fun i m hm => ?_⟩, hmn, List.getElem?_set_self (by omega), (show at_ < code.length by omega)⟩
  · obtain ⟨fb, fn, fc, g1, g2, g3⟩ := hP.2 i f hf
    exact ⟨fb, fn, fc, g1, g2.mono lK, g3⟩
  · by_cases hi : i = mi
    · subst hi
      simp only [List.getElem?_set_self (show i < ms'.length by omega), Option.some.injEq] at hm
      subst hm
      obtain ⟨pb', pn', pc', cb', cn', cc', q1, q2, q3, q5, q6, q7, q8⟩ := hall i m0 hm0
      exact ⟨pb', pn', pc', cb, cn, cc, q1, q2, q3, hcm, q5.mono lK, q6, q7, osC.sl.mono lC, hcn, by omega⟩
    · rw [List.getElem?_set_ne (Ne.symm hi)] at hm
      obtain ⟨pb', pn', pc', cb', cn', cc', q1, q2, q3, q5, q6, q7, q8⟩ := hall i m hm
      obtain ⟨q4, r1, r2, r3⟩ := q8 hi
      exact ⟨pb', pn', pc', cb', cn', cc', q1, q2, q3, q4, q5.mono lK, q6, q7, r3.mono lK, r1, by omega⟩
end Go.Proofs.Ytnfepffmlhmmhaa
