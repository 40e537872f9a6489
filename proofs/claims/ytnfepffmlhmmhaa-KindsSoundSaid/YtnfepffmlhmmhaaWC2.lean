/- What an instruction does: its place, and the rows of kinds that it takes and puts. -/
import Derived.Test.YtnfepffmlhmmhaaWC
namespace Go.Proofs.Ytnfepffmlhmmhaa
open Go.SL
set_option maxRecDepth 100000
set_option maxHeartbeats 16000000
attribute [local irreducible] SL.T PFn OpV SOL SWP HOp ChU
-- USE_L4
-- USE_IE
/-- A method. -/
structure Me where
  params : List Int
  lo : Int
  st : Int
  code : List Ins
/-- An image. -/
structure Im where
  cls : List (List Int)
  ms : List Me
def ClsOk (K : Heap) (cls : List (List Int)) (b : Option Addr) (n : Nat) : Prop :=
  ∃ vals : List Value, Sl K b vals ∧ vals.length = n ∧ cls.length = n ∧ n ≤ 4000000 ∧ ∀ (i : Nat) (f : List Int), cls[i]? = some f → ∃ fb fn fc, vals[i]? = some (.slice fb fn fc) ∧ Sl K fb (f.map i64) ∧ f.length = fn ∧ fn ≤ 4000000
def MsOk (K : Heap) (ms : List Me) (b : Option Addr) (n : Nat) : Prop :=
  ∃ vals : List Value, Sl K b vals ∧ vals.length = n * 4 ∧ ms.length = n ∧ n ≤ 4000000 ∧ ∀ (i : Nat) (m : Me), ms[i]? = some m → ∃ pb pn pc cb cn cc, vals[i * 4]? = some (.slice pb pn pc) ∧ vals[i * 4 + 1]? = some (i64 m.lo) ∧ vals[i * 4 + 2]? = some (i64 m.st) ∧ vals[i * 4 + 3]? = some (.slice cb cn cc) ∧
    Sl K pb (m.params.map i64) ∧ m.params.length = pn ∧ pn ≤ 4000000 ∧ Sl K cb (flatI m.code) ∧ m.code.length = cn ∧ cn ≤ 4000000
theorem ClsOk.mono {K K' : Heap} {cls : List (List Int)} {b : Option Addr} {n : Nat} (h : ClsOk K cls b n) (l : hle K K') : ClsOk K' cls b n := by
  obtain ⟨vals, h1, h2, h3, h4, h5⟩ := h
  refine ⟨vals, h1.mono l, h2, h3, h4, fun i f hf => ?_⟩
  obtain ⟨fb, fn, fc, g1, g2, g3⟩ := h5 i f hf
  exact ⟨fb, fn, fc, g1, g2.mono l, g3⟩
theorem MsOk.mono {K K' : Heap} {ms : List Me} {b : Option Addr} {n : Nat} (h : MsOk K ms b n) (l : hle K K') : MsOk K' ms b n := by
  obtain ⟨vals, h1, h2, h3, h4, h5⟩ := h
  refine ⟨vals, h1.mono l, h2, h3, h4, fun i f hf => ?_⟩
  obtain ⟨pb, pn, pc, cb, cn, cc, g1, g2, g3, g4, g5, g6, g7, g8, g9⟩ := h5 i f hf
  exact ⟨pb, pn, pc, cb, cn, cc, g1, g2, g3, g4, g5.mono l, g6, g7, g8.mono l, g9⟩
/-- A place, as it is laid. -/
structure Pl where
  op : Int
  a : Int
  b : Int
  clb : Option Addr
  cln : Nat
  clc : Nat
  mb : Option Addr
  mn : Nat
  mc : Nat
  pb : Option Addr
  pn : Nat
  pc : Nat
  lo : Int
  st : Int
  cb : Option Addr
  cn : Nat
  cc : Nat
  lb : Option Addr
  ln : Nat
  lc : Nat
  sb : Option Addr
  sn : Nat
  sc : Nat
abbrev Pl.cells (p : Pl) : List Value := [i64 p.op, i64 p.a, i64 p.b, .slice p.clb p.cln p.clc, .slice p.mb p.mn p.mc, .slice p.pb p.pn p.pc, i64 p.lo, i64 p.st, .slice p.cb p.cn p.cc, .slice p.lb p.ln p.lc, .slice p.sb p.sn p.sc]
/-- What it speaks of. -/
structure PlOk (K : Heap) (p : Pl) (im : Im) (m : Me) (loc : List Int) : Prop where
  cls : ClsOk K im.cls p.clb p.cln
  ms : MsOk K im.ms p.mb p.mn
  code : Sl K p.cb (flatI m.code)
  cn : m.code.length = p.cn
  csm : p.cn ≤ 4000000
  lcl : Sl K p.lb (loc.map i64)
  ln : loc.length = p.ln
  lsm : p.ln ≤ 4000000
theorem PlOk.mono {K K' : Heap} {p : Pl} {im : Im} {m : Me} {loc : List Int} (h : PlOk K p im m loc) (l : hle K K') : PlOk K' p im m loc :=
  ⟨h.cls.mono l, h.ms.mono l, h.code.mono l, h.cn, h.csm, h.lcl.mono l, h.ln, h.lsm⟩
/-- A number one greater, as it goes round. -/
abbrev up (a : Int) : Int := IntKind.i64.wrap (a + 1)
def inL {α : Type} (l : List α) (i : Int) : Bool := decide (0 ≤ i ∧ i < l.length)
def fieldOf (im : Im) (a b : Int) : Option Int := if inL im.cls b then match im.cls[b.toNat]? with
  | some f => if inL f a then f[a.toNat]? else none
  | none => none else none
/-- What an instruction takes, and puts; whether it is one. -/
structure Row where
  is : Bool
  take : List Int
  put : List Int
abbrev rowV (r : Bool) (tb : Option Addr) (tn tc : Nat) (pb : Option Addr) (pn pc : Nat) : Value := .agg ⟨[.bool r, .slice tb tn tc, .slice pb pn pc]⟩
def RowQ (r : Row) (K : Heap) (e : Ending) (o : List Heap) : Prop :=
  ∃ K', o = [K'] ∧ hle K K' ∧ ∃ tb tn tc pb pn pc, e = .returned (rowV r.is tb tn tc pb pn pc) ∧ Sl K' tb (r.take.map i64) ∧ Sl K' pb (r.put.map i64) ∧ r.take.length = tn ∧ r.put.length = pn
def RowC (f : FuncId) (args : List Value) (K : Heap) (r : Row) : Prop := SL.T Try.prog f args [K] (RowQ r K)
/-- What is new goes together with what was. -/
theorem row_of {f : FuncId} {args : List Value} {K : Heap} {r : Row} (h : SL.T Try.prog f args [K] fun e o => ∃ N, o = K :: N ∧ ∃ tb tn tc pb pn pc, e = .returned (rowV r.is tb tn tc pb pn pc) ∧ SlIn (K :: N) tb (r.take.map i64) ∧ SlIn (K :: N) pb (r.put.map i64) ∧ r.take.length = tn ∧ r.put.length = pn) : RowC f args K r := by
  refine (T_joinP (R := fun e A N => A = [] ∧ ∃ N0, N = K :: N0 ∧ ∃ tb tn tc pb pn pc, e = .returned (rowV r.is tb tn tc pb pn pc) ∧ SlIn (K :: N0) tb (r.take.map i64) ∧ SlIn (K :: N0) pb (r.put.map i64) ∧ r.take.length = tn ∧ r.put.length = pn) (h.mono ?_)).mono ?_
  · rintro e o ⟨N, rfl, h⟩
    exact ⟨[], K :: N, by simp, rfl, N, rfl, h⟩
  · rintro e o ⟨A, N, K', rfl, hK, rfl, N0, rfl, tb, tn, tc, pb, pn, pc, h1, h2, h3, h4, h5⟩
    exact ⟨K', rfl, hK K (by simp), tb, tn, tc, pb, pn, pc, h1, h2.allK hK, h3.allK hK, h4, h5⟩
theorem row_pure {f : FuncId} {args : List Value} {K : Heap} {r : Row} {tb : Option Addr} {tn tc : Nat} {pb : Option Addr} {pn pc : Nat} (h : PFn Try.prog f args [K] (rowV r.is tb tn tc pb pn pc)) (h2 : Sl K tb (r.take.map i64)) (h3 : Sl K pb (r.put.map i64)) (h4 : r.take.length = tn) (h5 : r.put.length = pn) : RowC f args K r := by
  refine h.T.mono ?_
  rintro e o ⟨rfl, rfl⟩
  exact ⟨K, rfl, hle.refl _, tb, tn, tc, pb, pn, pc, rfl, h2, h3, h4, h5⟩
theorem sl_new {K : Heap} {β : Nat} {l : List Value} {tt : TypeId} : SlIn [K, blk β (.cells ⟨l⟩ tt (0, 0))] (some ⟨β, 0, none⟩) l := ⟨_, List.mem_cons_of_mem _ (List.mem_cons_self ..), Sl.blk⟩
theorem sl_nil0 {K : Heap} {N : List Heap} : SlIn (K :: N) none [] := ⟨K, List.mem_cons_self .., Sl.none⟩
theorem always_calls (K : Heap) (β1 β2 : Nat) (tb : Option Addr) (tn tc : Nat) (pb : Option Addr) (pn pc : Nat) (take put : List Int) [i1 : InH K β1 (.cells ⟨[.slice tb tn tc]⟩ 23 (0, 0))] [i2 : InH K β2 (.cells ⟨[.slice pb pn pc]⟩ 23 (0, 0))]
    (h2 : Sl K tb (take.map i64)) (h3 : Sl K pb (put.map i64)) (h4 : take.length = tn) (h5 : put.length = pn) :
    RowC 27 [.pointer (some ⟨β1, 0, none⟩), .pointer (some ⟨β2, 0, none⟩)] K ⟨true, take, put⟩ := by
  refine row_pure (r := ⟨true, take, put⟩) (tb := tb) (tn := tn) (tc := tc) (pb := pb) (pn := pn) (pc := pc) ?_ h2 h3 h4 h5
  refine pure_of_body Try.func27 rfl (Nat.le_of_ble_eq_true rfl) fun F => ?_
  repeat' (first
    | refine swp_seq ?_
    | (refine gk 3 rfl ?_; first | refine sl_op rfl rfl rfl (by first | exact opv_load rfl (by exact rfl) rfl (by exact rfl) ) ?_ )
    | (refine gk 5 rfl ?_; first | refine sl_op rfl rfl rfl (by first | exact opv_build rfl rfl (by exact rfl) ) ?_ | refine sl_alloc rfl rfl rfl rfl (by exact rfl) (fun β => ?_) | refine sl_store rfl rfl rfl rfl rfl rfl (by exact rfl) rfl (by exact rfl) ?_)
    | refine sl_region rfl ?_
    | refine sl_nil ?_
    | refine thn_k ?_
    | refine swp_ret ?_
    )
  exact end_pure (resOk_one (resV_cellA rfl rfl rfl rfl)) rfl
theorem jumps_calls (K : Heap) (βp β1 : Nat) (p : Pl) (im : Im) (m : Me) (loc : List Int) (tb : Option Addr) (tn tc : Nat) (take : List Int) [i1 : InH K βp (.cells ⟨p.cells⟩ 68 (0, 0))] [i2 : InH K β1 (.cells ⟨[.slice tb tn tc]⟩ 23 (0, 0))] (ok : PlOk K p im m loc)
    (h2 : Sl K tb (take.map i64)) (h4 : take.length = tn) :
    RowC 29 [.pointer (some ⟨βp, 0, none⟩), .pointer (some ⟨β1, 0, none⟩)] K ⟨inL m.code p.a, take, []⟩ := by
  refine row_pure (r := ⟨inL m.code p.a, take, []⟩) (tb := tb) (tn := tn) (tc := tc) (pb := none) (pn := 0) (pc := 0) ?_ h2 Sl.none h4 rfl
  haveI := ok.code
  have hcn := ok.cn
  have hcs := ok.csm
  by_cases h : 0 ≤ p.a ∧ p.a < p.cn
  · obtain ⟨x, hx⟩ : ∃ z, m.code[p.a.toNat]? = some z := ⟨_, List.getElem?_eq_getElem (by omega)⟩
    have e : inL m.code p.a = true := decide_eq_true (by omega)
    rw [e]
    refine pure_of_body Try.func29 rfl (Nat.le_of_ble_eq_true rfl) fun F => ?_
    repeat' (first
      | refine swp_seq ?_
      | (refine gk 0 rfl ?_; first | refine sl_op rfl rfl rfl (by first | exact opv_move rfl rfl | exact opv_assign rfl rfl | exact opv_extract rfl rfl rfl ) ?_ )
      | (refine gk 3 rfl ?_; first | refine sl_op rfl rfl rfl (by first | exact opv_load rfl (by exact rfl) rfl (by exact rfl) | exact opv_fieldAddr rfl rfl ) ?_ )
      | (refine gk 4 rfl ?_; first | refine sl_op rfl rfl rfl (opv_call rfl rfl rfl rfl rfl (am18_yes [K] _ _ _ m.code _ x ok.cn ok.csm h hx)) ?_)
      | (refine gk 5 rfl ?_; first | refine sl_op rfl rfl rfl (by first | exact opv_build rfl rfl (by exact rfl) ) ?_ | refine sl_alloc rfl rfl rfl rfl (by exact rfl) (fun β => ?_) | refine sl_store rfl rfl rfl rfl rfl rfl (by exact rfl) rfl (by exact rfl) ?_)
      | refine sl_region rfl ?_
      | refine sl_nil ?_
      | refine thn_k ?_
      | refine swp_ret ?_
      )
    exact end_pure (resOk_one (resV_cellA rfl rfl rfl rfl)) rfl
  · have e : inL m.code p.a = false := decide_eq_false (by omega)
    rw [e]
    refine pure_of_body Try.func29 rfl (Nat.le_of_ble_eq_true rfl) fun F => ?_
    repeat' (first
      | refine swp_seq ?_
      | (refine gk 0 rfl ?_; first | refine sl_op rfl rfl rfl (by first | exact opv_move rfl rfl | exact opv_assign rfl rfl | exact opv_extract rfl rfl rfl ) ?_ )
      | (refine gk 3 rfl ?_; first | refine sl_op rfl rfl rfl (by first | exact opv_load rfl (by exact rfl) rfl (by exact rfl) | exact opv_fieldAddr rfl rfl ) ?_ )
      | (refine gk 4 rfl ?_; first | refine sl_op rfl rfl rfl (opv_call rfl rfl rfl rfl rfl (am18_no [K] _ _ _ _ ok.csm h)) ?_)
      | (refine gk 5 rfl ?_; first | refine sl_op rfl rfl rfl (by first | exact opv_build rfl rfl (by exact rfl) ) ?_ | refine sl_alloc rfl rfl rfl rfl (by exact rfl) (fun β => ?_) | refine sl_store rfl rfl rfl rfl rfl rfl (by exact rfl) rfl (by exact rfl) ?_)
      | refine sl_region rfl ?_
      | refine sl_nil ?_
      | refine thn_k ?_
      | refine swp_ret ?_
      )
    exact end_pure (resOk_one (resV_cellA rfl rfl rfl rfl)) rfl
theorem class_calls (K : Heap) (p : Pl) (im : Im) (m : Me) (loc : List Int) (c : Int) (ok : PlOk K p im m loc) : PFn Try.prog 31 [.agg ⟨p.cells⟩, i64 c] [K] (.bool (inL im.cls c)) := by
  obtain ⟨vals, h1, h2, h3, h4, h5⟩ := ok.cls
  haveI := h1
  by_cases h : 0 ≤ c ∧ c < p.cln
  · obtain ⟨x, hx⟩ : ∃ z, im.cls[c.toNat]? = some z := ⟨_, List.getElem?_eq_getElem (by omega)⟩
    obtain ⟨fb, fn, fc, g1, g2, g3⟩ := h5 _ _ hx
    have e : inL im.cls c = true := decide_eq_true (by omega)
    rw [e]
    refine pure_of_body Try.func31 rfl (Nat.le_of_ble_eq_true rfl) fun F => ?_
    repeat' (first
      | refine swp_seq ?_
      | (refine gk 0 rfl ?_; first | refine sl_op rfl rfl rfl (by first | exact opv_move rfl rfl | exact opv_assign rfl rfl | exact opv_extract rfl rfl rfl ) ?_ )
      | (refine gk 3 rfl ?_; first | refine sl_op rfl rfl rfl (by first | exact opv_load rfl (by exact rfl) rfl (by exact rfl) | exact opv_fieldAddr rfl rfl ) ?_ )
      | (refine gk 4 rfl ?_; first | refine sl_op rfl rfl rfl (opv_call rfl rfl rfl rfl rfl (am39_yes [K] _ _ _ vals _ _ h2 h4 h g1 rfl)) ?_)
      | (refine gk 5 rfl ?_; first | refine sl_box rfl rfl rfl rfl rfl rfl (fun β => ?_) | refine sl_alloc rfl rfl rfl rfl (by exact rfl) (fun β => ?_) | refine sl_store rfl rfl rfl rfl rfl rfl (by exact rfl) rfl (by exact rfl) ?_)
      | refine sl_region rfl ?_
      | refine sl_nil ?_
      | refine thn_k ?_
      | refine swp_ret ?_
      )
    refine end_pure (resOk_one (resV_tmp rfl)) ?_
    rfl
  · have e : inL im.cls c = false := decide_eq_false (by omega)
    rw [e]
    refine pure_of_body Try.func31 rfl (Nat.le_of_ble_eq_true rfl) fun F => ?_
    repeat' (first
      | refine swp_seq ?_
      | (refine gk 0 rfl ?_; first | refine sl_op rfl rfl rfl (by first | exact opv_move rfl rfl | exact opv_assign rfl rfl | exact opv_extract rfl rfl rfl ) ?_ )
      | (refine gk 3 rfl ?_; first | refine sl_op rfl rfl rfl (by first | exact opv_load rfl (by exact rfl) rfl (by exact rfl) | exact opv_fieldAddr rfl rfl ) ?_ )
      | (refine gk 4 rfl ?_; first | refine sl_op rfl rfl rfl (opv_call rfl rfl rfl rfl rfl (am39_no [K] _ _ _ _ h4 h)) ?_)
      | (refine gk 5 rfl ?_; first | refine sl_box rfl rfl rfl rfl rfl rfl (fun β => ?_) | refine sl_alloc rfl rfl rfl rfl (by exact rfl) (fun β => ?_) | refine sl_store rfl rfl rfl rfl rfl rfl (by exact rfl) rfl (by exact rfl) ?_)
      | refine sl_region rfl ?_
      | refine sl_nil ?_
      | refine thn_k ?_
      | refine swp_ret ?_
      )
    refine end_pure (resOk_one (resV_tmp rfl)) ?_
    rfl
theorem field_calls (K : Heap) (p : Pl) (im : Im) (m : Me) (loc : List Int) (ok : PlOk K p im m loc) : PFn Try.prog 41 [.agg ⟨p.cells⟩] [K] (.tuple #[i64 ((fieldOf im p.a p.b).getD 0), .bool (fieldOf im p.a p.b).isSome]) := by
  obtain ⟨vals, h1, h2, h3, h4, h5⟩ := ok.cls
  haveI := h1
  by_cases h : 0 ≤ p.b ∧ p.b < p.cln
  · obtain ⟨x, hx⟩ : ∃ z, im.cls[p.b.toNat]? = some z := ⟨_, List.getElem?_eq_getElem (by omega)⟩
    obtain ⟨fb, fn, fc, g1, g2, g3, g4⟩ := h5 _ _ hx
    have e : inL im.cls p.b = true := decide_eq_true (by omega)
    haveI := g2
    by_cases ha : 0 ≤ p.a ∧ p.a < fn
    · obtain ⟨v, hv⟩ : ∃ z, x[p.a.toNat]? = some z := ⟨_, List.getElem?_eq_getElem (by omega)⟩
      have e2 : inL x p.a = true := decide_eq_true (by omega)
      have e3 : fieldOf im p.a p.b = some v := by simp [fieldOf, e, hx, e2, hv]
      rw [e3]
      refine pure_of_body Try.func41 rfl (Nat.le_of_ble_eq_true rfl) fun F => ?_
      repeat' (first
        | refine swp_seq ?_
        | (refine gk 0 rfl ?_; first | refine sl_op rfl rfl rfl (by first | exact opv_move rfl rfl | exact opv_assign rfl rfl | exact opv_extract rfl rfl rfl ) ?_ )
        | (refine gk 3 rfl ?_; first | refine sl_op rfl rfl rfl (by first | exact opv_load rfl (by exact rfl) rfl (by exact rfl) | exact opv_fieldAddr rfl rfl ) ?_ )
        | (refine gk 4 rfl ?_; first | refine sl_op rfl rfl rfl (opv_call rfl rfl rfl rfl rfl (am39_yes [K] _ _ _ vals _ _ h2 h4 h g1 rfl)) ?_ | refine sl_op rfl rfl rfl (opv_call rfl rfl rfl rfl rfl (am40_yes [K] _ _ _ x _ _ g3 g4 ha hv)) ?_)
        | (refine gk 5 rfl ?_; first | refine sl_box rfl rfl rfl rfl rfl rfl (fun β => ?_) | refine sl_alloc rfl rfl rfl rfl (by exact rfl) (fun β => ?_) | refine sl_store rfl rfl rfl rfl rfl rfl (by exact rfl) rfl (by exact rfl) ?_)
        | refine sl_region rfl ?_
        | refine sl_nil ?_
        | refine thn_k ?_
        | refine swp_ret ?_
        )
      refine end_pure (resOk_two (resV_tmp rfl) (resV_tmp rfl)) ?_
      rfl
    · have e2 : inL x p.a = false := decide_eq_false (by omega)
      have e3 : fieldOf im p.a p.b = none := by simp [fieldOf, e, hx, e2]
      rw [e3]
      refine pure_of_body Try.func41 rfl (Nat.le_of_ble_eq_true rfl) fun F => ?_
      repeat' (first
        | refine swp_seq ?_
        | (refine gk 0 rfl ?_; first | refine sl_op rfl rfl rfl (by first | exact opv_move rfl rfl | exact opv_assign rfl rfl | exact opv_extract rfl rfl rfl ) ?_ )
        | (refine gk 3 rfl ?_; first | refine sl_op rfl rfl rfl (by first | exact opv_load rfl (by exact rfl) rfl (by exact rfl) | exact opv_fieldAddr rfl rfl ) ?_ )
        | (refine gk 4 rfl ?_; first | refine sl_op rfl rfl rfl (opv_call rfl rfl rfl rfl rfl (am39_yes [K] _ _ _ vals _ _ h2 h4 h g1 rfl)) ?_ | refine sl_op rfl rfl rfl (opv_call rfl rfl rfl rfl rfl (am40_no [K] _ _ _ _ g4 ha)) ?_)
        | (refine gk 5 rfl ?_; first | refine sl_box rfl rfl rfl rfl rfl rfl (fun β => ?_) | refine sl_alloc rfl rfl rfl rfl (by exact rfl) (fun β => ?_) | refine sl_store rfl rfl rfl rfl rfl rfl (by exact rfl) rfl (by exact rfl) ?_)
        | refine sl_region rfl ?_
        | refine sl_nil ?_
        | refine thn_k ?_
        | refine swp_ret ?_
        )
      refine end_pure (resOk_two (resV_tmp rfl) (resV_tmp rfl)) ?_
      rfl
  · have e : inL im.cls p.b = false := decide_eq_false (by omega)
    have e3 : fieldOf im p.a p.b = none := by simp [fieldOf, e]
    rw [e3]
    have h0 : ¬ (0 ≤ p.a ∧ p.a < ((0 : Nat) : Int)) := by omega
    refine pure_of_body Try.func41 rfl (Nat.le_of_ble_eq_true rfl) fun F => ?_
    repeat' (first
      | refine swp_seq ?_
      | (refine gk 0 rfl ?_; first | refine sl_op rfl rfl rfl (by first | exact opv_move rfl rfl | exact opv_assign rfl rfl | exact opv_extract rfl rfl rfl ) ?_ )
      | (refine gk 3 rfl ?_; first | refine sl_op rfl rfl rfl (by first | exact opv_load rfl (by exact rfl) rfl (by exact rfl) | exact opv_fieldAddr rfl rfl ) ?_ )
      | (refine gk 4 rfl ?_; first | refine sl_op rfl rfl rfl (opv_call rfl rfl rfl rfl rfl (am39_no [K] _ _ _ _ h4 h)) ?_ | refine sl_op rfl rfl rfl (opv_call rfl rfl rfl rfl rfl (am40_no [K] _ 0 _ _ (by omega) h0)) ?_)
      | (refine gk 5 rfl ?_; first | refine sl_box rfl rfl rfl rfl rfl rfl (fun β => ?_) | refine sl_alloc rfl rfl rfl rfl (by exact rfl) (fun β => ?_) | refine sl_store rfl rfl rfl rfl rfl rfl (by exact rfl) rfl (by exact rfl) ?_)
      | refine sl_region rfl ?_
      | refine sl_nil ?_
      | refine thn_k ?_
      | refine swp_ret ?_
      )
    refine end_pure (resOk_two (resV_tmp rfl) (resV_tmp rfl)) ?_
    rfl
theorem made_calls (K : Heap) (βp : Nat) (p : Pl) (im : Im) (m : Me) (loc : List Int) [i1 : InH K βp (.cells ⟨p.cells⟩ 68 (0, 0))] (ok : PlOk K p im m loc) :
    RowC 30 [.pointer (some ⟨βp, 0, none⟩)] K ⟨inL im.cls p.a, [], [up p.a]⟩ := by
  refine row_of ?_
  refine t_of_body Try.func30 rfl (Nat.le_of_ble_eq_true rfl) fun F => ?_
  repeat' (first
    | refine swp_seq ?_
    | (refine gk 5 rfl ?_; first | refine sl_alloc rfl rfl rfl rfl (by exact rfl) (fun β => ?_) )
    | refine sl_region rfl ?_
    | refine sl_nil ?_
    )
  refine sl_drawC [.q [0, 1, 2, 3, 5, 6, 7, 8], .an 9, .h false 4, .rv 9, .h false 10, .q [11], .h true 12] [] (by kernel_rfl) (by kernel_rfl) (by kernel_rfl) (by kernel_rfl) ?_
  repeat' (first
    | (refine gk 1 rfl ?_; first | refine sl_op rfl rfl rfl (by first | exact opv_add rfl rfl rfl ) ?_ )
    | (refine gk 3 rfl ?_; first | refine sl_op rfl rfl rfl (by first | exact opv_load rfl (by exact rfl) rfl (by exact rfl) | exact opv_fieldAddr rfl rfl | exact opv_loadA rfl (by exact rfl) rfl (by exact rfl) (by exact rfl) ) ?_ )
    | (refine gk 5 rfl ?_; first | refine sl_op rfl rfl rfl (by first | exact opv_build rfl rfl (by exact rfl) ) ?_ )
    | refine chu_nil ?_
    | refine chu_q rfl ?_
    | refine chu_new rfl rfl (by first | exact new_buildSlice rfl rfl (by exact rfl) (by exact rfl) (by exact rfl) (by exact rfl) (by exact rfl)) ?_
    | refine chu_rv rfl rfl rfl (fun β => ?_)
    | refine chu_store rfl rfl rfl rfl rfl rfl (by exact rfl) rfl (by exact rfl) (by exact rfl) ?_
    | refine chu_P rfl rfl rfl rfl rfl rfl rfl rfl (class_calls K p im m loc _ ok) rfl ?_
    | refine chu_P rfl rfl rfl rfl rfl rfl rfl rfl (list_calls [K] _) rfl ?_
    | refine sl_nil ?_
    | refine thn_k ?_
    | refine swp_ret ?_
    )
  exact end_retL [K, blk β (.cells ⟨[i64 (up p.a)]⟩ 27 (0, 0))] (resOk_one (resV_cellA rfl rfl rfl rfl)) ⟨[blk β (.cells ⟨[i64 (up p.a)]⟩ 27 (0, 0))], rfl, none, 0, 0, some ⟨β, 0, none⟩, 1, 1, rfl, sl_nil0, sl_new, rfl, rfl⟩
theorem load_calls (K : Heap) (p : Pl) (im : Im) (m : Me) (loc : List Int) (ok : PlOk K p im m loc) :
    RowC 32 [.agg ⟨p.cells⟩] K ⟨inL loc p.a, [], [if inL loc p.a then loc.getD p.a.toNat 0 else 0]⟩ := by
  have hln := ok.ln
  haveI := ok.lcl
  refine row_of ?_
  by_cases h : 0 ≤ p.a ∧ p.a < p.ln
  · obtain ⟨v, hv⟩ : ∃ z, loc[p.a.toNat]? = some z := ⟨_, List.getElem?_eq_getElem (by omega)⟩
    have e : inL loc p.a = true := decide_eq_true (by omega)
    have e2 : loc.getD p.a.toNat 0 = v := by simp [List.getD, hv]
    simp only [e, e2, if_true]
    refine t_of_body Try.func32 rfl (Nat.le_of_ble_eq_true rfl) fun F => ?_
    repeat' (first
      | refine swp_seq ?_
      | (refine gk 0 rfl ?_; first | refine sl_op rfl rfl rfl (by first | exact opv_move rfl rfl | exact opv_assign rfl rfl | exact opv_extract rfl rfl rfl ) ?_ )
      | (refine gk 3 rfl ?_; first | refine sl_op rfl rfl rfl (by first | exact opv_load rfl (by exact rfl) rfl (by exact rfl) | exact opv_fieldAddr rfl rfl ) ?_ )
      | (refine gk 4 rfl ?_; first | refine sl_op rfl rfl rfl (opv_call rfl rfl rfl rfl rfl (am40_yes [K] _ _ _ loc _ _ ok.ln ok.lsm h hv)) ?_ | refine sl_op rfl rfl rfl (opv_call rfl rfl rfl rfl rfl (list_calls [K] _)) ?_)
      | (refine gk 5 rfl ?_; first | refine sl_op rfl rfl rfl (by first | exact opv_build rfl rfl (by exact rfl) ) ?_ | refine sl_buildSlice rfl rfl rfl rfl rfl (by exact rfl) (by exact rfl) (by exact rfl) (by exact rfl) rfl (fun b => ?_) | refine sl_box rfl rfl rfl rfl rfl rfl (fun β => ?_) | refine sl_alloc rfl rfl rfl rfl (by exact rfl) (fun β => ?_) | refine sl_store rfl rfl rfl rfl rfl rfl (by exact rfl) rfl (by exact rfl) ?_)
      | refine sl_region rfl ?_
      | refine sl_nil ?_
      | refine thn_k ?_
      | refine swp_ret ?_
      )
    exact end_retL [K, blk b (.cells ⟨[i64 v]⟩ 27 (0, 0))] (resOk_one (resV_cellA rfl rfl rfl rfl)) ⟨[blk b (.cells ⟨[i64 v]⟩ 27 (0, 0))], rfl, none, 0, 0, some ⟨b, 0, none⟩, 1, 1, rfl, sl_nil0, sl_new, rfl, rfl⟩
  · have e : inL loc p.a = false := decide_eq_false (by omega)
    simp only [e]
    refine t_of_body Try.func32 rfl (Nat.le_of_ble_eq_true rfl) fun F => ?_
    repeat' (first
      | refine swp_seq ?_
      | (refine gk 0 rfl ?_; first | refine sl_op rfl rfl rfl (by first | exact opv_move rfl rfl | exact opv_assign rfl rfl | exact opv_extract rfl rfl rfl ) ?_ )
      | (refine gk 3 rfl ?_; first | refine sl_op rfl rfl rfl (by first | exact opv_load rfl (by exact rfl) rfl (by exact rfl) | exact opv_fieldAddr rfl rfl ) ?_ )
      | (refine gk 4 rfl ?_; first | refine sl_op rfl rfl rfl (opv_call rfl rfl rfl rfl rfl (am40_no [K] _ _ _ _ ok.lsm h)) ?_ | refine sl_op rfl rfl rfl (opv_call rfl rfl rfl rfl rfl (list_calls [K] _)) ?_)
      | (refine gk 5 rfl ?_; first | refine sl_op rfl rfl rfl (by first | exact opv_build rfl rfl (by exact rfl) ) ?_ | refine sl_buildSlice rfl rfl rfl rfl rfl (by exact rfl) (by exact rfl) (by exact rfl) (by exact rfl) rfl (fun b => ?_) | refine sl_box rfl rfl rfl rfl rfl rfl (fun β => ?_) | refine sl_alloc rfl rfl rfl rfl (by exact rfl) (fun β => ?_) | refine sl_store rfl rfl rfl rfl rfl rfl (by exact rfl) rfl (by exact rfl) ?_)
      | refine sl_region rfl ?_
      | refine sl_nil ?_
      | refine thn_k ?_
      | refine swp_ret ?_
      )
    exact end_retL [K, blk b (.cells ⟨[i64 0]⟩ 27 (0, 0))] (resOk_one (resV_cellA rfl rfl rfl rfl)) ⟨[blk b (.cells ⟨[i64 0]⟩ 27 (0, 0))], rfl, none, 0, 0, some ⟨b, 0, none⟩, 1, 1, rfl, sl_nil0, sl_new, rfl, rfl⟩
theorem store_calls (K : Heap) (p : Pl) (im : Im) (m : Me) (loc : List Int) (ok : PlOk K p im m loc) :
    RowC 33 [.agg ⟨p.cells⟩] K ⟨inL loc p.a, [-2], []⟩ := by
  have hln := ok.ln
  haveI := ok.lcl
  refine row_of ?_
  by_cases h : 0 ≤ p.a ∧ p.a < p.ln
  · obtain ⟨v, hv⟩ : ∃ z, loc[p.a.toNat]? = some z := ⟨_, List.getElem?_eq_getElem (by omega)⟩
    have e : inL loc p.a = true := decide_eq_true (by omega)
    simp only [e]
    refine t_of_body Try.func33 rfl (Nat.le_of_ble_eq_true rfl) fun F => ?_
    repeat' (first
      | refine swp_seq ?_
      | (refine gk 0 rfl ?_; first | refine sl_op rfl rfl rfl (by first | exact opv_move rfl rfl | exact opv_assign rfl rfl | exact opv_extract rfl rfl rfl ) ?_ )
      | (refine gk 3 rfl ?_; first | refine sl_op rfl rfl rfl (by first | exact opv_load rfl (by exact rfl) rfl (by exact rfl) | exact opv_fieldAddr rfl rfl ) ?_ )
      | (refine gk 4 rfl ?_; first | refine sl_op rfl rfl rfl (opv_call rfl rfl rfl rfl rfl (am40_yes [K] _ _ _ loc _ _ ok.ln ok.lsm h hv)) ?_ | refine sl_op rfl rfl rfl (opv_call rfl rfl rfl rfl rfl (list_calls [K] _)) ?_)
      | (refine gk 5 rfl ?_; first | refine sl_op rfl rfl rfl (by first | exact opv_build rfl rfl (by exact rfl) ) ?_ | refine sl_buildSlice rfl rfl rfl rfl rfl (by exact rfl) (by exact rfl) (by exact rfl) (by exact rfl) rfl (fun b => ?_) | refine sl_box rfl rfl rfl rfl rfl rfl (fun β => ?_) | refine sl_alloc rfl rfl rfl rfl (by exact rfl) (fun β => ?_) | refine sl_store rfl rfl rfl rfl rfl rfl (by exact rfl) rfl (by exact rfl) ?_)
      | refine sl_region rfl ?_
      | refine sl_nil ?_
      | refine thn_k ?_
      | refine swp_ret ?_
      )
    exact end_retL [K, blk b (.cells ⟨[i64 (-2)]⟩ 27 (0, 0))] (resOk_one (resV_cellA rfl rfl rfl rfl)) ⟨[blk b (.cells ⟨[i64 (-2)]⟩ 27 (0, 0))], rfl, some ⟨b, 0, none⟩, 1, 1, none, 0, 0, rfl, sl_new, sl_nil0, rfl, rfl⟩
  · have e : inL loc p.a = false := decide_eq_false (by omega)
    simp only [e]
    refine t_of_body Try.func33 rfl (Nat.le_of_ble_eq_true rfl) fun F => ?_
    repeat' (first
      | refine swp_seq ?_
      | (refine gk 0 rfl ?_; first | refine sl_op rfl rfl rfl (by first | exact opv_move rfl rfl | exact opv_assign rfl rfl | exact opv_extract rfl rfl rfl ) ?_ )
      | (refine gk 3 rfl ?_; first | refine sl_op rfl rfl rfl (by first | exact opv_load rfl (by exact rfl) rfl (by exact rfl) | exact opv_fieldAddr rfl rfl ) ?_ )
      | (refine gk 4 rfl ?_; first | refine sl_op rfl rfl rfl (opv_call rfl rfl rfl rfl rfl (am40_no [K] _ _ _ _ ok.lsm h)) ?_ | refine sl_op rfl rfl rfl (opv_call rfl rfl rfl rfl rfl (list_calls [K] _)) ?_)
      | (refine gk 5 rfl ?_; first | refine sl_op rfl rfl rfl (by first | exact opv_build rfl rfl (by exact rfl) ) ?_ | refine sl_buildSlice rfl rfl rfl rfl rfl (by exact rfl) (by exact rfl) (by exact rfl) (by exact rfl) rfl (fun b => ?_) | refine sl_box rfl rfl rfl rfl rfl rfl (fun β => ?_) | refine sl_alloc rfl rfl rfl rfl (by exact rfl) (fun β => ?_) | refine sl_store rfl rfl rfl rfl rfl rfl (by exact rfl) rfl (by exact rfl) ?_)
      | refine sl_region rfl ?_
      | refine sl_nil ?_
      | refine thn_k ?_
      | refine swp_ret ?_
      )
    exact end_retL [K, blk b (.cells ⟨[i64 (-2)]⟩ 27 (0, 0))] (resOk_one (resV_cellA rfl rfl rfl rfl)) ⟨[blk b (.cells ⟨[i64 (-2)]⟩ 27 (0, 0))], rfl, some ⟨b, 0, none⟩, 1, 1, none, 0, 0, rfl, sl_new, sl_nil0, rfl, rfl⟩
theorem get_calls (K : Heap) (p : Pl) (im : Im) (m : Me) (loc : List Int) (ok : PlOk K p im m loc) :
    RowC 34 [.agg ⟨p.cells⟩] K ⟨(fieldOf im p.a p.b).isSome, [up p.b], [(fieldOf im p.a p.b).getD 0]⟩ := by
  refine row_of ?_
  refine t_of_body Try.func34 rfl (Nat.le_of_ble_eq_true rfl) fun F => ?_
  repeat' (first
    | refine swp_seq ?_
    | (refine gk 0 rfl ?_; first | refine sl_op rfl rfl rfl (by first | exact opv_move rfl rfl | exact opv_assign rfl rfl | exact opv_extract rfl rfl rfl ) ?_ )
    | (refine gk 1 rfl ?_; first | refine sl_op rfl rfl rfl (by first | exact opv_add rfl rfl rfl ) ?_ )
    | (refine gk 3 rfl ?_; first | refine sl_op rfl rfl rfl (by first | exact opv_load rfl (by exact rfl) rfl (by exact rfl) | exact opv_fieldAddr rfl rfl | exact opv_loadA rfl (by exact rfl) rfl (by exact rfl) (by exact rfl) ) ?_ )
    | (refine gk 4 rfl ?_; first | refine sl_op rfl rfl rfl (opv_call rfl rfl rfl rfl rfl (field_calls K p im m loc ok)) ?_ | refine sl_op rfl rfl rfl (opv_call rfl rfl rfl rfl rfl (list_calls [K] _)) ?_)
    | (refine gk 5 rfl ?_; first | refine sl_op rfl rfl rfl (by first | exact opv_build rfl rfl (by exact rfl) ) ?_ | refine sl_buildSlice rfl rfl rfl rfl rfl (by exact rfl) (by exact rfl) (by exact rfl) (by exact rfl) rfl (fun b => ?_) | refine sl_box rfl rfl rfl rfl rfl rfl (fun β => ?_) | refine sl_alloc rfl rfl rfl rfl (by exact rfl) (fun β => ?_) | refine sl_store rfl rfl rfl rfl rfl rfl (by exact rfl) rfl (by exact rfl) ?_)
    | refine sl_region rfl ?_
    | refine sl_nil ?_
    | refine thn_k ?_
    | refine swp_ret ?_
    )
  rename_i b1
  exact end_retL [K, blk b1 (.cells ⟨[i64 (up p.b)]⟩ 27 (0, 0)), blk b (.cells ⟨[i64 ((fieldOf im p.a p.b).getD 0)]⟩ 27 (0, 0))] (resOk_one (resV_cellA rfl rfl rfl rfl)) ⟨[_, _], rfl, some ⟨b1, 0, none⟩, 1, 1, some ⟨b, 0, none⟩, 1, 1, rfl, SlIn.tail (t := SlIn.head), SlIn.tail (t := SlIn.tail (t := SlIn.head)), rfl, rfl⟩
theorem put_calls (K : Heap) (p : Pl) (im : Im) (m : Me) (loc : List Int) (ok : PlOk K p im m loc) :
    RowC 35 [.agg ⟨p.cells⟩] K ⟨(fieldOf im p.a p.b).isSome, [up p.b, (fieldOf im p.a p.b).getD 0], []⟩ := by
  refine row_of ?_
  refine t_of_body Try.func35 rfl (Nat.le_of_ble_eq_true rfl) fun F => ?_
  repeat' (first
    | refine swp_seq ?_
    | (refine gk 0 rfl ?_; first | refine sl_op rfl rfl rfl (by first | exact opv_move rfl rfl | exact opv_assign rfl rfl | exact opv_extract rfl rfl rfl ) ?_ )
    | (refine gk 1 rfl ?_; first | refine sl_op rfl rfl rfl (by first | exact opv_add rfl rfl rfl ) ?_ )
    | (refine gk 3 rfl ?_; first | refine sl_op rfl rfl rfl (by first | exact opv_load rfl (by exact rfl) rfl (by exact rfl) | exact opv_fieldAddr rfl rfl | exact opv_loadA rfl (by exact rfl) rfl (by exact rfl) (by exact rfl) ) ?_ )
    | (refine gk 4 rfl ?_; first | refine sl_op rfl rfl rfl (opv_call rfl rfl rfl rfl rfl (field_calls K p im m loc ok)) ?_ | refine sl_op rfl rfl rfl (opv_call rfl rfl rfl rfl rfl (list_calls [K] _)) ?_)
    | (refine gk 5 rfl ?_; first | refine sl_op rfl rfl rfl (by first | exact opv_build rfl rfl (by exact rfl) ) ?_ | refine sl_buildSlice rfl rfl rfl rfl rfl (by exact rfl) (by exact rfl) (by exact rfl) (by exact rfl) rfl (fun b => ?_) | refine sl_box rfl rfl rfl rfl rfl rfl (fun β => ?_) | refine sl_alloc rfl rfl rfl rfl (by exact rfl) (fun β => ?_) | refine sl_store rfl rfl rfl rfl rfl rfl (by exact rfl) rfl (by exact rfl) ?_)
    | refine sl_region rfl ?_
    | refine sl_nil ?_
    | refine thn_k ?_
    | refine swp_ret ?_
    )
  exact end_retL [K, blk b (.cells ⟨[i64 (up p.b), i64 ((fieldOf im p.a p.b).getD 0)]⟩ 27 (0, 0))] (resOk_one (resV_cellA rfl rfl rfl rfl)) ⟨[_], rfl, some ⟨b, 0, none⟩, 2, 2, none, 0, 0, rfl, sl_new, sl_nil0, rfl, rfl⟩
def callOf (im : Im) (a : Int) : Option (List Int) := if inL im.ms a then (im.ms[a.toNat]?).map (·.params) else none
theorem call_calls (K : Heap) (p : Pl) (im : Im) (m : Me) (loc : List Int) (ok : PlOk K p im m loc) :
    RowC 36 [.agg ⟨p.cells⟩] K ⟨(callOf im p.a).isSome, (callOf im p.a).getD [], [0]⟩ := by
  obtain ⟨vals, h1, h2, h3, h4, h5⟩ := ok.ms
  haveI := h1
  refine row_of ?_
  by_cases h : 0 ≤ p.a ∧ p.a < p.mn
  · obtain ⟨x, hx⟩ : ∃ z, im.ms[p.a.toNat]? = some z := ⟨_, List.getElem?_eq_getElem (by omega)⟩
    obtain ⟨pb, pn, pc, cb, cn, cc, g1, g2, g3, g4, g5, g6, g7, g8, g9⟩ := h5 _ _ hx
    have e : callOf im p.a = some x.params := by simp [callOf, inL, hx]; omega
    simp only [e]
    refine t_of_body Try.func36 rfl (Nat.le_of_ble_eq_true rfl) fun F => ?_
    repeat' (first
      | refine swp_seq ?_
      | (refine gk 0 rfl ?_; first | refine sl_op rfl rfl rfl (by first | exact opv_move rfl rfl | exact opv_assign rfl rfl | exact opv_extract rfl rfl rfl ) ?_ )
      | (refine gk 3 rfl ?_; first | refine sl_op rfl rfl rfl (by first | exact opv_load rfl (by exact rfl) rfl (by exact rfl) | exact opv_fieldAddr rfl rfl ) ?_ )
      | (refine gk 4 rfl ?_; first | refine sl_op rfl rfl rfl (opv_call rfl rfl rfl rfl rfl (am17_yes [K] _ _ _ vals _ _ _ _ _ h2 h4 h ⟨g1, g2, g3, g4⟩ rfl)) ?_ )
      | (refine gk 5 rfl ?_; first | refine sl_box rfl rfl rfl rfl rfl rfl (fun β => ?_) | refine sl_alloc rfl rfl rfl rfl (by exact rfl) (fun β => ?_) | refine sl_store rfl rfl rfl rfl rfl rfl (by exact rfl) rfl (by exact rfl) ?_)
      | refine sl_region rfl ?_
      | refine sl_nil ?_
      )
    refine sl_drawC [.q [0, 1, 2], .an 3, .rv 3, .h false 4, .q [5], .h true 6] [] (by kernel_rfl) (by kernel_rfl) (by kernel_rfl) (by kernel_rfl) ?_
    repeat' (first
      | (refine gk 0 rfl ?_; first | refine sl_op rfl rfl rfl (by first | exact opv_move rfl rfl ) ?_ )
      | (refine gk 3 rfl ?_; first | refine sl_op rfl rfl rfl (by first | exact opv_load rfl (by exact rfl) rfl (by exact rfl) | exact opv_fieldAddr rfl rfl ) ?_ )
      | (refine gk 5 rfl ?_; first | refine sl_op rfl rfl rfl (by first | exact opv_build rfl rfl (by exact rfl) ) ?_ )
      | refine chu_nil ?_
      | refine chu_q rfl ?_
      | refine chu_new rfl rfl (by first | exact new_buildSlice rfl rfl (by exact rfl) (by exact rfl) (by exact rfl) (by exact rfl) (by exact rfl)) ?_
      | refine chu_rv rfl rfl rfl (fun β => ?_)
      | refine chu_store rfl rfl rfl rfl rfl rfl (by exact rfl) rfl (by exact rfl) (by exact rfl) ?_
      | refine chu_P rfl rfl rfl rfl rfl rfl rfl rfl (list_calls [K] _) rfl ?_
      | refine sl_nil ?_
      | refine thn_k ?_
      | refine swp_ret ?_
      )
    exact end_retL [K, blk β (.cells ⟨[i64 0]⟩ 27 (0, 0))] (resOk_one (resV_cellA rfl rfl rfl rfl)) ⟨[_], rfl, pb, pn, pc, some ⟨β, 0, none⟩, 1, 1, rfl, ⟨K, List.mem_cons_self .., g5⟩, sl_new, g6, rfl⟩
  · have e : callOf im p.a = none := by simp [callOf, inL]; omega
    simp only [e]
    refine t_of_body Try.func36 rfl (Nat.le_of_ble_eq_true rfl) fun F => ?_
    repeat' (first
      | refine swp_seq ?_
      | (refine gk 0 rfl ?_; first | refine sl_op rfl rfl rfl (by first | exact opv_move rfl rfl | exact opv_assign rfl rfl | exact opv_extract rfl rfl rfl ) ?_ )
      | (refine gk 3 rfl ?_; first | refine sl_op rfl rfl rfl (by first | exact opv_load rfl (by exact rfl) rfl (by exact rfl) | exact opv_fieldAddr rfl rfl ) ?_ )
      | (refine gk 4 rfl ?_; first | refine sl_op rfl rfl rfl (opv_call rfl rfl rfl rfl rfl (am17_no [K] _ _ _ _ h4 h)) ?_ )
      | (refine gk 5 rfl ?_; first | refine sl_box rfl rfl rfl rfl rfl rfl (fun β => ?_) | refine sl_alloc rfl rfl rfl rfl (by exact rfl) (fun β => ?_) | refine sl_store rfl rfl rfl rfl rfl rfl (by exact rfl) rfl (by exact rfl) ?_)
      | refine sl_region rfl ?_
      | refine sl_nil ?_
      )
    refine sl_drawC [.q [0, 1, 2], .an 3, .rv 3, .h false 4, .q [5], .h true 6] [] (by kernel_rfl) (by kernel_rfl) (by kernel_rfl) (by kernel_rfl) ?_
    repeat' (first
      | (refine gk 0 rfl ?_; first | refine sl_op rfl rfl rfl (by first | exact opv_move rfl rfl ) ?_ )
      | (refine gk 3 rfl ?_; first | refine sl_op rfl rfl rfl (by first | exact opv_load rfl (by exact rfl) rfl (by exact rfl) | exact opv_fieldAddr rfl rfl ) ?_ )
      | (refine gk 5 rfl ?_; first | refine sl_op rfl rfl rfl (by first | exact opv_build rfl rfl (by exact rfl) ) ?_ )
      | refine chu_nil ?_
      | refine chu_q rfl ?_
      | refine chu_new rfl rfl (by first | exact new_buildSlice rfl rfl (by exact rfl) (by exact rfl) (by exact rfl) (by exact rfl) (by exact rfl)) ?_
      | refine chu_rv rfl rfl rfl (fun β => ?_)
      | refine chu_store rfl rfl rfl rfl rfl rfl (by exact rfl) rfl (by exact rfl) (by exact rfl) ?_
      | refine chu_P rfl rfl rfl rfl rfl rfl rfl rfl (list_calls [K] _) rfl ?_
      | refine sl_nil ?_
      | refine thn_k ?_
      | refine swp_ret ?_
      )
    exact end_retL [K, blk β (.cells ⟨[i64 0]⟩ 27 (0, 0))] (resOk_one (resV_cellA rfl rfl rfl rfl)) ⟨[_], rfl, none, 0, 0, some ⟨β, 0, none⟩, 1, 1, rfl, sl_nil0, sl_new, rfl, rfl⟩
end Go.Proofs.Ytnfepffmlhmmhaa
