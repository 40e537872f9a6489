/- What an instruction makes of a frame, walked. -/
import Derived.Test.YtnfepffmlhmmhaaWC4
namespace Go.Proofs.Ytnfepffmlhmmhaa
open Go.SL
set_option maxRecDepth 100000
set_option maxHeartbeats 16000000
attribute [local irreducible] SL.T PFn OpV SOL SWP HOp ChU RowC
open Classical in
noncomputable def stepF (im : Im) (mi at_ : Int) (loc stk : List Int) : Int ⊕ (List Int × List Int) :=
  if inL im.ms mi then match im.ms[mi.toNat]? with
  | none => .inl 8
  | some m => if inL m.code at_ then match m.code[at_.toNat]? with
    | none => .inl 8
    | some y => match rowOf im m loc y.op y.a y.b with
      | none => .inl 8
      | some r => if r.is = false then .inl 8
        else if stk.length < r.take.length ∨ ¬ fitsB (stk.drop (stk.length - r.take.length)) r.take ∨ -1 ∈ r.put then .inl 9
        else if m.st < ((stk.length - r.take.length + r.put.length : Nat) : Int) then .inl 9
        else .inr (if y.op = 3 then loc.set y.a.toNat (stk.getD (stk.length - r.take.length) 0) else loc, stk.take (stk.length - r.take.length) ++ r.put)
    else .inl 8
  else .inl 8
def StepQ (K : Heap) (res : Int ⊕ (List Int × List Int)) (e : Ending) (o : List Heap) : Prop :=
  ∃ K', o = [K'] ∧ hle K K' ∧ match res with
  | .inl c => e = .returned (.tuple #[nilFr, i64 c])
  | .inr (l, s) => ∃ b1 c1 b2 c2, e = .returned (.tuple #[fr b1 b2 l.length s.length c1 c2, i64 0]) ∧ Sl K' b1 (l.map i64) ∧ Sl K' b2 (s.map i64)
theorem step_pure {args : List Value} {K : Heap} {c : Int} (h : PFn Try.prog 11 args [K] (.tuple #[nilFr, i64 c])) : SL.T Try.prog 11 args [K] (StepQ K (.inl c)) :=
  h.T.mono fun e o ⟨h1, h2⟩ => ⟨K, h2, hle.refl _, h1⟩
theorem Step_m (K : Heap) (im : Im) (clb mb lb sb : Option Addr) (cln clc mn mc ln lc sn sc : Nat) (mi at_ : Int) (loc stk : List Int) (hcls : ClsOk K im.cls clb cln) (hms : MsOk K im.ms mb mn)
    (h : ¬ (0 ≤ mi ∧ mi < mn)) : PFn Try.prog 11 [.agg ⟨[.slice clb cln clc, .slice mb mn mc]⟩, i64 mi, fr lb sb ln sn lc sc, i64 at_] [K] (.tuple #[nilFr, i64 8]) := by
  obtain ⟨vals, h1, h2, h3, h4, h5⟩ := hms
  have h0 : ¬ (0 ≤ at_ ∧ at_ < ((0 : Nat) : Int)) := by omega
  refine pure_of_body Try.func11 rfl (Nat.le_of_ble_eq_true rfl) fun F => ?_
  repeat' (first
    | refine swp_seq ?_
    | (refine gk 0 rfl ?_; first | refine sl_op rfl rfl rfl (by first | exact opv_move rfl rfl | exact opv_assign rfl rfl | exact opv_not_f rfl rfl | exact opv_extract rfl rfl rfl ) ?_ )
    | (refine gk 3 rfl ?_; first | refine sl_op rfl rfl rfl (by first | exact opv_load rfl (by exact rfl) rfl (by exact rfl) | exact opv_fieldAddr rfl rfl ) ?_ )
    | (refine gk 4 rfl ?_; first | refine sl_op rfl rfl rfl (opv_call rfl rfl rfl rfl rfl (am17_no [K] _ _ _ _ h4 h)) ?_ | refine sl_op rfl rfl rfl (opv_call rfl rfl rfl rfl rfl (am18_no [K] _ 0 _ _ (by omega) h0)) ?_)
    | (refine gk 5 rfl ?_; first | refine sl_op rfl rfl rfl (by first | exact opv_build rfl rfl (by exact rfl) ) ?_ | refine sl_box rfl rfl rfl rfl rfl rfl (fun β => ?_) | refine sl_alloc rfl rfl rfl rfl (by exact rfl) (fun β => ?_) | refine sl_store rfl rfl rfl rfl rfl rfl (by exact rfl) rfl (by exact rfl) ?_)
    | refine sl_region rfl ?_
    | refine sl_nil ?_
    | refine thn_k ?_
    | refine swp_true rfl ?_
    | refine swp_ret ?_
    | refine thn_ret ?_
    )
  exact end_pure (resOk_two (resV_cellA rfl rfl rfl rfl) (resV_tmp rfl)) rfl
theorem Step_y (K : Heap) (im : Im) (clb mb lb sb : Option Addr) (cln clc mn mc ln lc sn sc : Nat) (mi at_ : Int) (loc stk : List Int) (hcls : ClsOk K im.cls clb cln) (hms : MsOk K im.ms mb mn) (m : Me)
    (h : 0 ≤ mi ∧ mi < mn) (hm : im.ms[mi.toNat]? = some m) (ha : ¬ (0 ≤ at_ ∧ at_ < m.code.length)) : PFn Try.prog 11 [.agg ⟨[.slice clb cln clc, .slice mb mn mc]⟩, i64 mi, fr lb sb ln sn lc sc, i64 at_] [K] (.tuple #[nilFr, i64 8]) := by
  obtain ⟨vals, h1, h2, h3, h4, h5⟩ := hms
  obtain ⟨pb, pn, pc, cb, cn, cc, g1, g2, g3, g4, g5, g6, g7, g8, g9, g10⟩ := h5 _ _ hm
  haveI := h1
  haveI := g8
  rw [g9] at ha
  refine pure_of_body Try.func11 rfl (Nat.le_of_ble_eq_true rfl) fun F => ?_
  repeat' (first
    | refine swp_seq ?_
    | (refine gk 0 rfl ?_; first | refine sl_op rfl rfl rfl (by first | exact opv_move rfl rfl | exact opv_assign rfl rfl | exact opv_not_f rfl rfl | exact opv_extract rfl rfl rfl ) ?_ )
    | (refine gk 3 rfl ?_; first | refine sl_op rfl rfl rfl (by first | exact opv_load rfl (by exact rfl) rfl (by exact rfl) | exact opv_fieldAddr rfl rfl ) ?_ )
    | (refine gk 4 rfl ?_; first | refine sl_op rfl rfl rfl (opv_call rfl rfl rfl rfl rfl (am17_yes [K] _ _ _ vals _ _ _ _ _ h2 h4 h ⟨g1, g2, g3, g4⟩ rfl)) ?_ | refine sl_op rfl rfl rfl (opv_call rfl rfl rfl rfl rfl (am18_no [K] _ _ _ _ g10 ha)) ?_)
    | (refine gk 5 rfl ?_; first | refine sl_op rfl rfl rfl (by first | exact opv_build rfl rfl (by exact rfl) ) ?_ | refine sl_box rfl rfl rfl rfl rfl rfl (fun β => ?_) | refine sl_alloc rfl rfl rfl rfl (by exact rfl) (fun β => ?_) | refine sl_store rfl rfl rfl rfl rfl rfl (by exact rfl) rfl (by exact rfl) ?_)
    | refine sl_region rfl ?_
    | refine sl_nil ?_
    | refine thn_k ?_
    | refine swp_true rfl ?_
    | refine swp_ret ?_
    | refine thn_ret ?_
    )
  exact end_pure (resOk_two (resV_cellA rfl rfl rfl rfl) (resV_tmp rfl)) rfl
theorem Step_o (K : Heap) (im : Im) (clb mb lb sb : Option Addr) (cln clc mn mc ln lc sn sc : Nat) (mi at_ : Int) (loc stk : List Int) (hcls : ClsOk K im.cls clb cln) (hms : MsOk K im.ms mb mn) [sl1 : Sl K lb (loc.map i64)] [sl2 : Sl K sb (stk.map i64)] (hl : loc.length = ln) (hs : stk.length = sn) (hln : ln ≤ 4000000) (hsn : sn ≤ 4000000) (m : Me) (y : Ins)
    (h : 0 ≤ mi ∧ mi < mn) (hm : im.ms[mi.toNat]? = some m) (ha : 0 ≤ at_ ∧ at_ < m.code.length) (hy : m.code[at_.toNat]? = some y) (hr : rowOf im m loc y.op y.a y.b = none) :
    SL.T Try.prog 11 [.agg ⟨[.slice clb cln clc, .slice mb mn mc]⟩, i64 mi, fr lb sb ln sn lc sc, i64 at_] [K] (StepQ K (.inl 8)) := by
  have hms' := hms
  obtain ⟨vals, h1, h2, h3, h4, h5⟩ := hms
  obtain ⟨pb, pn, pc, cb, cn, cc, g1, g2, g3, g4, g5, g6, g7, g8, g9, g10⟩ := h5 _ _ hm
  haveI := h1
  haveI := g8
  rw [g9] at ha
  have ok : PlOk K ⟨y.op, y.a, y.b, clb, cln, clc, mb, mn, mc, pb, pn, pc, m.lo, m.st, cb, cn, cc, lb, ln, lc, sb, sn, sc⟩ im m loc := ⟨hcls, hms', g8, g9, g10, sl1, hl, hln⟩
  refine t_of_body Try.func11 rfl (Nat.le_of_ble_eq_true rfl) fun F => ?_
  repeat' (first
    | refine swp_seq ?_
    | (refine gk 0 rfl ?_; first | refine sl_op rfl rfl rfl (by first | exact opv_move rfl rfl | exact opv_assign rfl rfl | exact opv_not_t rfl rfl | exact opv_extract rfl rfl rfl ) ?_ )
    | (refine gk 3 rfl ?_; first | refine sl_op rfl rfl rfl (by first | exact opv_load rfl (by exact rfl) rfl (by exact rfl) | exact opv_fieldAddr rfl rfl ) ?_ )
    | (refine gk 4 rfl ?_; first | refine sl_op rfl rfl rfl (opv_call rfl rfl rfl rfl rfl (am17_yes [K] _ _ _ vals _ _ _ _ _ h2 h4 h ⟨g1, g2, g3, g4⟩ rfl)) ?_ | refine sl_op rfl rfl rfl (opv_call rfl rfl rfl rfl rfl (am18_yes [K] _ _ _ m.code _ y g9 g10 ha hy)) ?_)
    | (refine gk 5 rfl ?_; first | refine sl_box rfl rfl rfl rfl rfl rfl (fun β => ?_) | refine sl_alloc rfl rfl rfl rfl (by exact rfl) (fun β => ?_) | refine sl_store rfl rfl rfl rfl rfl rfl (by exact rfl) rfl (by exact rfl) ?_)
    | refine sl_region rfl ?_
    | refine sl_nil ?_
    | refine thn_k ?_
    | refine swp_false rfl ?_
    | refine swp_skip ?_
    )
  refine sl_drawC [.q [0, 1, 2, 3, 4, 6, 7], .h false 5, .q [8, 9, 10, 11, 12, 13]] [] (by kernel_rfl) (by kernel_rfl) (by kernel_rfl) (by kernel_rfl) ?_
  repeat' (first
    | refine sl_op rfl rfl rfl (opv_lookN mp rfl rfl rfl hf) ?_
    | refine swp_seq ?_
    | (refine gk 0 rfl ?_; first | refine sl_op rfl rfl rfl (by first | exact opv_move rfl rfl | exact opv_assign rfl rfl | exact opv_not_f rfl rfl | exact opv_extract rfl rfl rfl ) ?_ )
    | (refine gk 3 rfl ?_; first | refine sl_op rfl rfl rfl (by first | exact opv_load rfl (by exact rfl) rfl (by exact rfl) | exact opv_fieldAddr rfl rfl | exact opv_loadA rfl (by exact rfl) rfl (by exact rfl) (by exact rfl) ) ?_ )
    | (refine gk 5 rfl ?_; first | refine sl_op rfl rfl rfl (by first | exact opv_build rfl rfl (by exact rfl) ) ?_ | refine sl_store rfl rfl rfl rfl rfl rfl (by exact rfl) rfl (by exact rfl) ?_)
    | refine sl_region rfl ?_
    | refine chu_nil ?_
    | refine chu_q rfl ?_
    | (refine chu_T rfl rfl rfl rfl rfl rfl rfl rfl (fixed_D K _ im m loc ok) (by rintro _ _ ⟨Kn, hM, bm, f, K', rfl, hKn, rfl, mp, tab⟩; exact ⟨_, rfl⟩) ?_; rintro _ _ ⟨Kn, hM, bm, f, K', rfl, hKn, rfl, mp, tab⟩; have hf := tab y.op; simp only [hr] at hf; refine ⟨_, _, rfl, rfl, ?_⟩)
    | refine sl_nil ?_
    | refine thn_k ?_
    | refine swp_true rfl ?_
    | refine swp_ret ?_
    | refine thn_ret ?_
    )
  exact end_retL [K] (resOk_two (resV_cellA rfl rfl rfl rfl) (resV_tmp rfl)) ⟨K, rfl, hle.refl _, rfl⟩
def StepR (K : Heap) (res : Int ⊕ (List Int × List Int)) (e : Ending) (N : List Heap) : Prop := (∃ k ∈ N, hle K k) ∧ match res with
  | .inl c => e = .returned (.tuple #[nilFr, i64 c])
  | .inr (l, s) => ∃ b1 c1 b2 c2, e = .returned (.tuple #[fr b1 b2 l.length s.length c1 c2, i64 0]) ∧ SlIn N b1 (l.map i64) ∧ SlIn N b2 (s.map i64)
theorem step_join {args : List Value} {K : Heap} {res : Int ⊕ (List Int × List Int)} (h : SL.T Try.prog 11 args [K] (StepR K res)) : SL.T Try.prog 11 args [K] (StepQ K res) := by
  refine (T_joinP (R := fun e A N => A = [] ∧ StepR K res e N) (h.mono fun e o hR => ⟨[], o, by simp, rfl, hR⟩)).mono ?_
  rintro e o ⟨A, N, K', rfl, hK, rfl, ⟨k, hk, hle0⟩, hR⟩
  refine ⟨K', rfl, hle0.trans (hK k hk), ?_⟩
  cases res with
  | inl c => exact hR
  | inr p =>
    obtain ⟨l, s⟩ := p
    obtain ⟨b1, c1, b2, c2, h1, h2, h3⟩ := hR
    exact ⟨b1, c1, b2, c2, h1, h2.allK hK, h3.allK hK⟩
open Classical in
noncomputable def afterF (m : Me) (y : Ins) (loc stk : List Int) (r : Row) : Int ⊕ (List Int × List Int) :=
  if r.is = false then .inl 8
  else if stk.length < r.take.length ∨ ¬ fitsB (stk.drop (stk.length - r.take.length)) r.take ∨ -1 ∈ r.put then .inl 9
  else if m.st < ((stk.length - r.take.length + r.put.length : Nat) : Int) then .inl 9
  else .inr (if y.op = 3 then loc.set y.a.toNat (stk.getD (stk.length - r.take.length) 0) else loc, stk.take (stk.length - r.take.length) ++ r.put)
section
variable {m : Me} {y : Ins} {loc stk take put : List Int} {lf : Nat}
theorem afterF_a (h : stk.length < take.length) : afterF m y loc stk ⟨true, take, put⟩ = .inl 9 := by
  simp only [afterF]; rw [if_neg (by simp), if_pos (.inl h)]
theorem afterF_b (e : stk.length - take.length = lf) (h : ¬ fitsB (stk.drop lf) take) : afterF m y loc stk ⟨true, take, put⟩ = .inl 9 := by
  subst e; simp only [afterF]; rw [if_neg (by simp), if_pos (.inr (.inl h))]
theorem afterF_c (h : -1 ∈ put) : afterF m y loc stk ⟨true, take, put⟩ = .inl 9 := by
  simp only [afterF]; rw [if_neg (by simp), if_pos (.inr (.inr h))]
theorem afterF_d (e : stk.length - take.length = lf) (h0 : ¬ stk.length < take.length) (h1 : fitsB (stk.drop lf) take) (h2 : -1 ∉ put) (h3 : m.st < ((lf + put.length : Nat) : Int)) : afterF m y loc stk ⟨true, take, put⟩ = .inl 9 := by
  subst e; simp only [afterF]; rw [if_neg (by simp), if_neg (by rintro (h | h | h) <;> contradiction), if_pos h3]
theorem afterF_e (e : stk.length - take.length = lf) (h0 : ¬ stk.length < take.length) (h1 : fitsB (stk.drop lf) take) (h2 : -1 ∉ put) (h3 : ¬ m.st < ((lf + put.length : Nat) : Int)) :
    afterF m y loc stk ⟨true, take, put⟩ = .inr (if y.op = 3 then loc.set y.a.toNat (stk.getD lf 0) else loc, stk.take lf ++ put) := by
  subst e; simp only [afterF]; rw [if_neg (by simp), if_neg (by rintro (h | h | h) <;> contradiction), if_neg h3]
end
theorem Step_r (K : Heap) (im : Im) (clb mb lb sb : Option Addr) (cln clc mn mc ln lc sn sc : Nat) (mi at_ : Int) (loc stk : List Int) (hcls : ClsOk K im.cls clb cln) (hms : MsOk K im.ms mb mn) [sl1 : Sl K lb (loc.map i64)] [sl2 : Sl K sb (stk.map i64)] (hl : loc.length = ln) (hs : stk.length = sn) (hln : ln ≤ 4000000) (hsn : sn ≤ 2000000) (hsc : sn ≤ sc) (m : Me) (y : Ins)
    (h : 0 ≤ mi ∧ mi < mn) (hm : im.ms[mi.toNat]? = some m) (ha : 0 ≤ at_ ∧ at_ < m.code.length) (hy : m.code[at_.toNat]? = some y) (r : Row) (hr : rowOf im m loc y.op y.a y.b = some r) (hrl : r.take.length ≤ 4000000 ∧ r.put.length ≤ 2000000) :
    SL.T Try.prog 11 [.agg ⟨[.slice clb cln clc, .slice mb mn mc]⟩, i64 mi, fr lb sb ln sn lc sc, i64 at_] [K] (StepR K (afterF m y loc stk r)) := by
  obtain ⟨is, take, put⟩ := r
  have hms' := hms
  obtain ⟨vals, h1, h2, h3, h4, h5⟩ := hms
  obtain ⟨pb, pn, pc, cb, cn, cc, g1, g2, g3, g4, g5, g6, g7, g8, g9, g10⟩ := h5 _ _ hm
  haveI := h1
  haveI := g8
  rw [g9] at ha
  have ok : PlOk K ⟨y.op, y.a, y.b, clb, cln, clc, mb, mn, mc, pb, pn, pc, m.lo, m.st, cb, cn, cc, lb, ln, lc, sb, sn, sc⟩ im m loc := ⟨hcls, hms', g8, g9, g10, sl1, hl, hln⟩
  refine t_of_body Try.func11 rfl (Nat.le_of_ble_eq_true rfl) fun F => ?_
  repeat' (first
    | refine swp_seq ?_
    | (refine gk 0 rfl ?_; first | refine sl_op rfl rfl rfl (by first | exact opv_move rfl rfl | exact opv_assign rfl rfl | exact opv_not_t rfl rfl | exact opv_extract rfl rfl rfl ) ?_ )
    | (refine gk 3 rfl ?_; first | refine sl_op rfl rfl rfl (by first | exact opv_load rfl (by exact rfl) rfl (by exact rfl) | exact opv_fieldAddr rfl rfl ) ?_ )
    | (refine gk 4 rfl ?_; first | refine sl_op rfl rfl rfl (opv_call rfl rfl rfl rfl rfl (am17_yes [K] _ _ _ vals _ _ _ _ _ h2 h4 h ⟨g1, g2, g3, g4⟩ rfl)) ?_ | refine sl_op rfl rfl rfl (opv_call rfl rfl rfl rfl rfl (am18_yes [K] _ _ _ m.code _ y g9 g10 ha hy)) ?_)
    | (refine gk 5 rfl ?_; first | refine sl_box rfl rfl rfl rfl rfl rfl (fun β => ?_) | refine sl_alloc rfl rfl rfl rfl (by exact rfl) (fun β => ?_) | refine sl_store rfl rfl rfl rfl rfl rfl (by exact rfl) rfl (by exact rfl) ?_)
    | refine sl_region rfl ?_
    | refine sl_nil ?_
    | refine thn_k ?_
    | refine swp_false rfl ?_
    | refine swp_skip ?_
    )
  refine sl_drawC [.q [0, 1, 2, 3, 4, 6, 7], .h false 5, .q [8, 9, 10, 11, 12, 13]] [] (by kernel_rfl) (by kernel_rfl) (by kernel_rfl) (by kernel_rfl) ?_
  repeat' ((fail_if_success (refine stop_at 6 ?_)); (first
    | refine sl_op rfl rfl rfl (opv_lookS mp rfl rfl rfl hf) ?_
    | (refine gk 0 rfl ?_; first | refine sl_op rfl rfl rfl (by first | exact opv_move rfl rfl | exact opv_assign rfl rfl | exact opv_extract rfl rfl rfl ) ?_ )
    | (refine gk 3 rfl ?_; first | refine sl_op rfl rfl rfl (by first | exact opv_load rfl (by exact rfl) rfl (by exact rfl) | exact opv_fieldAddr rfl rfl | exact opv_loadA rfl (by exact rfl) rfl (by exact rfl) (by exact rfl) ) ?_ )
    | (refine gk 5 rfl ?_; first | refine sl_op rfl rfl rfl (by first | exact opv_build rfl rfl (by exact rfl) ) ?_ )
    | refine chu_nil ?_
    | refine chu_q rfl ?_
    | (refine chu_T rfl rfl rfl rfl rfl rfl rfl rfl (fixed_D K _ im m loc ok) (by rintro _ _ ⟨Kn, hM, bm, f, K', rfl, hKn, rfl, mp, tab⟩; exact ⟨_, rfl⟩) ?_; rintro _ _ ⟨Kn, hM, bm, f, K', rfl, hKn, rfl, mp, tab⟩; have hf := tab y.op; simp only [hr] at hf; obtain ⟨g, first, cap, all, hent, hf, happ, hrow⟩ := hf; have hrow2 := fun K2 (q1 : hle K K2) (q2 : hle Kn K2) => hrow.more (hKn K2 q1 q2); refine ⟨_, _, rfl, rfl, ?_⟩)
    | refine sl_nil ?_
    ))
  refine swp_merge [K, Kn] fun K2 hK2 => ?_
  have hr2 := hrow2 K2 (hK2 K (by simp)) (hK2 Kn (by simp))
  have lK2 : hle K K2 := hK2 K (by simp)
  clear hrow2 hrow hKn tab ok
  repeat' ((fail_if_success (refine stop_at 10 ?_)); (first
    | refine swp_seq ?_
    | (refine gk 0 rfl ?_; first | refine sl_op rfl rfl rfl (by first | exact opv_move rfl rfl | exact opv_assign rfl rfl | exact opv_not_t rfl rfl | exact opv_not rfl rfl ) ?_ )
    | (refine gk 1 rfl ?_; first | refine sl_op rfl rfl rfl (by first | exact opv_sub64 rfl rfl rfl (by omega) (by omega) ) ?_ )
    | (refine gk 3 rfl ?_; first | refine sl_op rfl rfl rfl (by first | exact opv_load rfl (by exact rfl) rfl (by exact rfl) | exact opv_fieldAddr rfl rfl ) ?_ )
    | (refine gk 4 rfl ?_; first | refine sl_op rfl rfl rfl (by first | exact opv_len rfl rfl rfl rfl rfl ) ?_ | (refine sl_callT rfl rfl rfl rfl rfl rfl rfl happ hr2 ?_; rintro _ _ ⟨K3, rfl, lK3, tb, tn, tc, qb, qn, qc, rfl, slt, slq, hlt, hlq⟩; refine ⟨_, _, rfl, rfl, ?_⟩))
    | (refine gk 5 rfl ?_; first | refine sl_alloc rfl rfl rfl rfl (by exact rfl) (fun β => ?_) | refine sl_store rfl rfl rfl rfl rfl rfl (by exact rfl) rfl (by exact rfl) ?_)
    | refine sl_region rfl ?_
    | refine sl_nil ?_
    | refine thn_k ?_
    | refine swp_false rfl ?_
    | refine swp_block ?_
    | refine swp_skip ?_
    ))
  have lK : hle K K3 := lK2.trans lK3
  haveI := slt
  haveI := slq
  dsimp only at slt slq hlt hlq hrl
  obtain ⟨hrt, hrp⟩ := hrl
  cases is with
  | false =>
    rw [show afterF m y loc stk ⟨false, take, put⟩ = .inl 8 from by simp [afterF]]
    repeat' (first
      | refine swp_seq ?_
      | (refine gk 0 rfl ?_; first | refine sl_op rfl rfl rfl (by first | exact opv_assign rfl rfl ) ?_ )
      | (refine gk 5 rfl ?_; first | refine sl_op rfl rfl rfl (by first | exact opv_build rfl rfl (by exact rfl) ) ?_ | refine sl_store rfl rfl rfl rfl rfl rfl (by exact rfl) rfl (by exact rfl) ?_)
      | refine sl_region rfl ?_
      | refine sl_nil ?_
      | refine thn_k ?_
      | refine swp_true rfl ?_
      | refine swp_ret ?_
      | refine thn_ret ?_
      | refine inb_ret ?_
      )
    exact end_retL [K3] (resOk_two (resV_cellA rfl rfl rfl rfl) (resV_tmp rfl)) ⟨⟨K3, by simp, lK⟩, rfl⟩
  | true =>
    by_cases hB : sn < tn
    · rw [afterF_a (by omega)]
      repeat' (first
        | refine swp_seq ?_
        | refine swp_false rfl ?_
        )
      refine sl_draw (by kernel_rfl) (by kernel_rfl) rfl ?_
      repeat' (first
        | refine swp_seq ?_
        | (refine gk 0 rfl ?_; first | refine sl_op rfl rfl rfl (by first | exact opv_move rfl rfl | exact opv_assign rfl rfl | exact opv_pick_t rfl rfl rfl ) ?_ | refine sl_pass rfl rfl rfl rfl ?_)
        | (refine gk 2 rfl ?_; first | refine sl_yes rfl rfl rfl (by first | exact opv_lss rfl rfl rfl ) (by first | omega ) ?_ )
        | (refine gk 3 rfl ?_; first | refine sl_pass rfl rfl rfl rfl ?_)
        | (refine gk 4 rfl ?_; first | refine sl_pass rfl rfl rfl rfl ?_ )
        | (refine gk 5 rfl ?_; first | refine sl_op rfl rfl rfl (by first | exact opv_build rfl rfl (by exact rfl) ) ?_ | refine sl_pass rfl rfl rfl rfl ?_ | refine sl_store rfl rfl rfl rfl rfl rfl (by exact rfl) rfl (by exact rfl) ?_)
        | refine sl_region rfl ?_
        | refine sl_nil ?_
        | refine thn_k ?_
        | refine swp_true rfl ?_
        | refine swp_ret ?_
        | refine thn_ret ?_
        | refine inb_ret ?_
        )
      exact end_retL [K3] (resOk_two (resV_cellA rfl rfl rfl rfl) (resV_tmp rfl)) ⟨⟨K3, by simp, lK⟩, rfl⟩
    · obtain ⟨lf, hlf⟩ : ∃ lf : Nat, (sn : Int) - (tn : Int) = (lf : Int) := ⟨sn - tn, by omega⟩
      haveI slS : Sl K3 (sub sb ((lf : Nat) : Int).toNat sc 1) ((stk.drop lf).map i64) := by
        have := (sl2.mono lK).drop lf sc 1 (by simp; omega)
        rw [Nat.mul_one, ← List.map_drop] at this
        exact this
      have hdl : (stk.drop lf).length = sn - ((lf : Nat) : Int).toNat := by rw [List.length_drop, hs]; rfl
      obtain ⟨b, hb, hE⟩ := EqualFunc_calls [K3] (sub sb ((lf : Nat) : Int).toNat sc 1) tb (sn - ((lf : Nat) : Int).toNat) tn (sc - ((lf : Nat) : Int).toNat) tc (stk.drop lf) take hdl hlt (by omega)
      have hC := Contains_calls [K3] qb qn qc put (-1) hlq (by omega)
      have elf : stk.length - take.length = lf := by omega
      cases b with
      | false =>
        rw [afterF_b elf (fun q => by have := hb.2 q; cases this)]
        rw [hlf]
        repeat' (first
          | refine swp_seq ?_
          | refine swp_false rfl ?_
          )
        refine sl_draw (by kernel_rfl) (by kernel_rfl) rfl ?_
        repeat' (first
          | refine swp_seq ?_
          | (refine gk 0 rfl ?_; first | refine sl_op rfl rfl rfl (by first | exact opv_move rfl rfl | exact opv_assign rfl rfl | exact opv_pick_t rfl rfl rfl | exact opv_pick_f rfl rfl rfl | exact opv_not_f rfl rfl ) ?_ )
          | (refine gk 2 rfl ?_; first | refine sl_no rfl rfl rfl (by first | exact opv_lss rfl rfl rfl ) (by first | omega ) ?_ )
          | (refine gk 3 rfl ?_; first | refine sl_op rfl rfl rfl (by first | exact opv_load rfl (by exact rfl) rfl (by exact rfl) | exact opv_fieldAddr rfl rfl ) ?_ | refine sl_pass rfl rfl rfl rfl ?_)
          | (refine gk 4 rfl ?_; first | refine sl_pass rfl rfl rfl rfl ?_ | refine sl_op rfl rfl rfl (opv_call rfl rfl rfl rfl rfl (hE)) ?_)
          | (refine gk 5 rfl ?_; first | refine sl_op rfl rfl rfl (by first | exact opv_build rfl rfl (by exact rfl) | exact opv_sliceLo rfl rfl rfl (by omega) (by omega) ) ?_ | refine sl_store rfl rfl rfl rfl rfl rfl (by exact rfl) rfl (by exact rfl) ?_)
          | refine sl_region rfl ?_
          | refine sl_nil ?_
          | refine thn_k ?_
          | refine swp_true rfl ?_
          | refine swp_ret ?_
          | refine thn_ret ?_
          | refine inb_ret ?_
          )
        exact end_retL [K3] (resOk_two (resV_cellA rfl rfl rfl rfl) (resV_tmp rfl)) ⟨⟨K3, by simp, lK⟩, rfl⟩
      | true =>
        by_cases hD : -1 ∈ put
        · rw [afterF_c hD]
          rw [decide_eq_true hD] at hC
          rw [hlf]
          repeat' (first
            | refine swp_seq ?_
            | refine swp_false rfl ?_
            )
          refine sl_draw (by kernel_rfl) (by kernel_rfl) rfl ?_
          repeat' (first
            | refine swp_seq ?_
            | (refine gk 0 rfl ?_; first | refine sl_op rfl rfl rfl (by first | exact opv_move rfl rfl | exact opv_assign rfl rfl | exact opv_pick_f rfl rfl rfl | exact opv_not_t rfl rfl ) ?_ )
            | (refine gk 2 rfl ?_; first | refine sl_no rfl rfl rfl (by first | exact opv_lss rfl rfl rfl ) (by first | omega ) ?_ )
            | (refine gk 3 rfl ?_; first | refine sl_op rfl rfl rfl (by first | exact opv_load rfl (by exact rfl) rfl (by exact rfl) | exact opv_fieldAddr rfl rfl ) ?_ )
            | (refine gk 4 rfl ?_; first | refine sl_op rfl rfl rfl (opv_call rfl rfl rfl rfl rfl (hE)) ?_ | refine sl_op rfl rfl rfl (opv_call rfl rfl rfl rfl rfl (hC)) ?_)
            | (refine gk 5 rfl ?_; first | refine sl_op rfl rfl rfl (by first | exact opv_build rfl rfl (by exact rfl) | exact opv_sliceLo rfl rfl rfl (by omega) (by omega) ) ?_ | refine sl_store rfl rfl rfl rfl rfl rfl (by exact rfl) rfl (by exact rfl) ?_)
            | refine sl_region rfl ?_
            | refine sl_nil ?_
            | refine thn_k ?_
            | refine swp_true rfl ?_
            | refine swp_ret ?_
            | refine thn_ret ?_
            | refine inb_ret ?_
            )
          exact end_retL [K3] (resOk_two (resV_cellA rfl rfl rfl rfl) (resV_tmp rfl)) ⟨⟨K3, by simp, lK⟩, rfl⟩
        · rw [decide_eq_false hD] at hC
          by_cases hx : m.st < ((lf + put.length : Nat) : Int)
          · rw [afterF_d elf (by omega) (hb.1 rfl) hD hx]
            rw [hlf]
            repeat' (first
              | refine swp_seq ?_
              | refine swp_false rfl ?_
              )
            refine sl_draw (by kernel_rfl) (by kernel_rfl) rfl ?_
            repeat' (first
              | refine swp_seq ?_
              | (refine gk 0 rfl ?_; first | refine sl_op rfl rfl rfl (by first | exact opv_move rfl rfl | exact opv_assign rfl rfl | exact opv_pick_f rfl rfl rfl | exact opv_not_t rfl rfl ) ?_ )
              | (refine gk 1 rfl ?_; first | refine sl_op rfl rfl rfl (by first | exact opv_add64 rfl rfl rfl (by omega) (by omega) ) ?_ )
              | (refine gk 2 rfl ?_; first | refine sl_yes rfl rfl rfl (by first | exact opv_lss rfl rfl rfl | exact opv_gtr rfl rfl rfl ) (by first | omega ) ?_ | refine sl_no rfl rfl rfl (by first | exact opv_lss rfl rfl rfl ) (by first | omega ) ?_ )
              | (refine gk 3 rfl ?_; first | refine sl_op rfl rfl rfl (by first | exact opv_load rfl (by exact rfl) rfl (by exact rfl) | exact opv_fieldAddr rfl rfl ) ?_ )
              | (refine gk 4 rfl ?_; first | refine sl_op rfl rfl rfl (by first | exact opv_len rfl rfl rfl rfl rfl ) ?_ | refine sl_op rfl rfl rfl (opv_call rfl rfl rfl rfl rfl (hE)) ?_ | refine sl_op rfl rfl rfl (opv_call rfl rfl rfl rfl rfl (hC)) ?_)
              | (refine gk 5 rfl ?_; first | refine sl_op rfl rfl rfl (by first | exact opv_build rfl rfl (by exact rfl) | exact opv_sliceLo rfl rfl rfl (by omega) (by omega) ) ?_ | refine sl_store rfl rfl rfl rfl rfl rfl (by exact rfl) rfl (by exact rfl) ?_)
              | refine sl_region rfl ?_
              | refine sl_nil ?_
              | refine thn_k ?_
              | refine swp_true rfl ?_
              | refine swp_false rfl ?_
              | refine swp_ret ?_
              | refine thn_ret ?_
              | refine inb_ret ?_
              )
            exact end_retL [K3] (resOk_two (resV_cellA rfl rfl rfl rfl) (resV_tmp rfl)) ⟨⟨K3, by simp, lK⟩, rfl⟩
          · rw [afterF_e elf (by omega) (hb.1 rfl) hD hx]
            haveI slL := sl1.mono lK
            rw [hlf]
            repeat' (first
              | refine swp_seq ?_
              | refine swp_false rfl ?_
              )
            refine sl_draw (by kernel_rfl) (by kernel_rfl) rfl ?_
            repeat' (first
              | refine swp_seq ?_
              | (refine gk 0 rfl ?_; first | refine sl_op rfl rfl rfl (by first | exact opv_move rfl rfl | exact opv_assign rfl rfl | exact opv_pick_f rfl rfl rfl | exact opv_not_t rfl rfl ) ?_ )
              | (refine gk 1 rfl ?_; first | refine sl_op rfl rfl rfl (by first | exact opv_add64 rfl rfl rfl (by omega) (by omega) ) ?_ )
              | (refine gk 2 rfl ?_; first | refine sl_no rfl rfl rfl (by first | exact opv_lss rfl rfl rfl | exact opv_gtr rfl rfl rfl ) (by first | omega ) ?_ )
              | (refine gk 3 rfl ?_; first | refine sl_op rfl rfl rfl (by first | exact opv_load rfl (by exact rfl) rfl (by exact rfl) | exact opv_fieldAddr rfl rfl ) ?_ )
              | (refine gk 4 rfl ?_; first | refine sl_op rfl rfl rfl (by first | exact opv_len rfl rfl rfl rfl rfl ) ?_ | refine sl_op rfl rfl rfl (opv_call rfl rfl rfl rfl rfl (hE)) ?_ | refine sl_op rfl rfl rfl (opv_call rfl rfl rfl rfl rfl (hC)) ?_)
              | (refine gk 5 rfl ?_; first | refine sl_op rfl rfl rfl (by first | exact opv_sliceLo rfl rfl rfl (by omega) (by omega) ) ?_ )
              | refine sl_region rfl ?_
              | refine sl_nil ?_
              | refine thn_k ?_
              | refine swp_false rfl ?_
              | refine swp_skip ?_
              )
            refine sl_drawC [.q [0, 1, 3, 4, 5, 6, 7, 8, 9], .an 12, .h false 2, .h true 10, .q [11], .rv 12, .h true 13] [] (by kernel_rfl) (by kernel_rfl) (by kernel_rfl) (by kernel_rfl) ?_
            repeat' (first
              | refine swp_seq ?_
              | (refine gk 0 rfl ?_; first | refine sl_op rfl rfl rfl (by first | exact opv_move rfl rfl ) ?_ )
              | (refine gk 3 rfl ?_; first | refine sl_op rfl rfl rfl (by first | exact opv_load rfl (by exact rfl) rfl (by exact rfl) | exact opv_fieldAddr rfl rfl ) ?_ )
              | (refine gk 5 rfl ?_; first | refine sl_op rfl rfl rfl (by first | exact opv_build rfl rfl (by exact rfl) | exact opv_slice3 rfl rfl rfl rfl (by omega) (by omega) (by omega) ) ?_ )
              | refine sl_region rfl ?_
              | refine chu_nil ?_
              | refine chu_q rfl ?_
              | refine chu_new rfl rfl (by first | exact new_alloc rfl (by exact rfl) ) ?_
              | refine chu_rv rfl rfl rfl (fun β => ?_)
              | refine chu_store rfl rfl rfl rfl rfl rfl (by exact rfl) rfl (by exact rfl) (by exact rfl) ?_
              | (refine chu_callW rfl rfl rfl rfl rfl rfl rfl rfl (Clone_W _ _ _ _ loc hl hln) ?_; rintro _ _ ⟨hA, bA, cA, rfl, rfl, osA⟩; refine ⟨_, _, rfl, rfl, ?_⟩)
              | refine chu_appendK (K := K3) rfl rfl rfl rfl rfl rfl rfl rfl rfl (by have := (sl2.mono lK).take lf; rwa [← List.map_take] at this) slq (by simp; omega) (by simp [hlq]) (by decide) (by omega) (by omega) (fun hB bB cB slB => ?_)
              | refine sl_nil ?_
              )
            have htl : (stk.take lf ++ put).length = ((lf : Nat) : Int).toNat + qn := by rw [List.length_append, List.length_take, hlq, Nat.min_eq_left (by omega)]; rfl
            rw [← List.map_append] at slB
            have hal : (loc.map i64).length = ln := by simp [hl]
            have hgl : (loc.map i64).length = loc.length := by simp
            obtain ⟨hX, hXm, slX⟩ := slB
            have hXm2 : hX = hB ∨ hX = K3 := by simpa using hXm
            by_cases hop : y.op = 3
            · have hr3 : rowOf im m loc 3 y.a y.b = some ⟨inL loc y.a, [-2], []⟩ := rfl
              rw [hop, hr3] at hr
              simp only [Option.some.injEq, Row.mk.injEq] at hr
              obtain ⟨hin, rfl, rfl⟩ := hr
              have hin2 : 0 ≤ y.a ∧ y.a < loc.length := of_decide_eq_true hin
              obtain ⟨v, hv⟩ : ∃ z, stk[lf]? = some z := ⟨_, List.getElem?_eq_getElem (by simp at hlt; omega)⟩
              have hcv : (stk.map i64)[((lf : Nat) : Int).toNat * 1]? = some (i64 v) := by simp [hv]
              have hgd : stk.getD lf 0 = v := by simp [List.getD, hv]
              have hlf2 : lf < sn := by simp at hlt; omega
              rw [if_pos hop, hgd]
              haveI slS2 := sl2.mono lK
              haveI slA := osA.sl
              rcases hXm2 with e | e
              all_goals
                rw [e] at slX
                haveI := slX
                repeat' (first
                  | refine swp_seq ?_
                  | (refine gk 2 rfl ?_; first | refine sl_yes rfl rfl rfl (by first | exact opv_eql rfl rfl rfl ) (by first | omega ) ?_ )
                  | (refine gk 3 rfl ?_; first | refine sl_op rfl rfl rfl (by first | exact opv_load rfl (by exact rfl) rfl (by exact rfl) | exact opv_fieldAddr rfl rfl ) ?_ )
                  | (refine gk 4 rfl ?_; first | (refine sl_callW rfl rfl rfl rfl rfl rfl rfl rfl (Clone_W _ _ _ _ _ htl (by omega)) ?_; rintro _ _ ⟨hC, bC, cC, rfl, rfl, osC⟩; refine ⟨_, _, rfl, rfl, ?_⟩))
                  | (refine gk 5 rfl ?_; first | refine sl_store rfl rfl rfl rfl rfl rfl (by exact rfl) rfl (by exact rfl) ?_)
                  | refine sl_region rfl ?_
                  | refine sl_nil ?_
                  | refine thn_k ?_
                  | refine swp_true rfl ?_
                  )
                refine sl_drawC [.q [0, 1, 2, 3, 4, 5, 6, 7, 8, 9], .h true 10] [] (by kernel_rfl) (by kernel_rfl) (by kernel_rfl) (by kernel_rfl) ?_
                repeat' (first
                  | refine swp_seq ?_
                  | (refine gk 0 rfl ?_; first | refine sl_op rfl rfl rfl (by first | exact opv_move rfl rfl | exact opv_assign rfl rfl ) ?_ )
                  | (refine gk 3 rfl ?_; first | refine sl_op rfl rfl rfl (by first | exact opv_load rfl (by exact rfl) rfl (by exact rfl) | exact opv_fieldAddr rfl rfl | exact opv_loadA rfl (by exact rfl) rfl (by exact rfl) (by exact rfl) | exact opv_indexAddrI rfl rfl rfl (by omega) (by omega) (by first | omega | (simp only [List.length_map]; omega) ) | exact opv_loadEx rfl (by exact rfl) (by infer_instance) (by first | assumption ) ) ?_ )
                  | (refine gk 5 rfl ?_; first | refine sl_store rfl rfl rfl rfl rfl rfl (by exact rfl) rfl (by exact rfl) ?_)
                  | refine sl_region rfl ?_
                  | refine chu_nil ?_
                  | refine chu_q rfl ?_
                  | refine chu_storeE rfl rfl rfl rfl rfl rfl osA rfl rfl rfl (Nat.succ_pos _) (by simp; omega) (set_cellsK (j := y.a.toNat) (by omega) (by omega)) (fun hA2 osA2 => ?_)
                  | refine sl_nil ?_
                  | refine thn_k ?_
                  | refine swp_ret ?_
                  )
                refine end_retL [K3, hA2, hC] (resOk_two (resV_cellA rfl rfl rfl rfl) (resV_tmp rfl)) ⟨⟨K3, by simp, lK⟩, bA, cA, bC, cC, ?_, ⟨hA2, by simp, osA2.sl⟩, ⟨hC, by simp, osC.sl⟩⟩
                rw [List.length_set, hl, htl]
            · rw [if_neg hop]
              rcases hXm2 with e | e
              all_goals
                rw [e] at slX
                haveI := slX
                repeat' (first
                  | refine swp_seq ?_
                  | (refine gk 0 rfl ?_; first | refine sl_op rfl rfl rfl (by first | exact opv_assign rfl rfl ) ?_ )
                  | (refine gk 2 rfl ?_; first | refine sl_no rfl rfl rfl (by first | exact opv_eql rfl rfl rfl ) (by first | omega ) ?_ )
                  | (refine gk 3 rfl ?_; first | refine sl_op rfl rfl rfl (by first | exact opv_load rfl (by exact rfl) rfl (by exact rfl) | exact opv_fieldAddr rfl rfl | exact opv_loadA rfl (by exact rfl) rfl (by exact rfl) (by exact rfl) ) ?_ )
                  | (refine gk 4 rfl ?_; first | (refine sl_callW rfl rfl rfl rfl rfl rfl rfl rfl (Clone_W _ _ _ _ _ htl (by omega)) ?_; rintro _ _ ⟨hC, bC, cC, rfl, rfl, osC⟩; refine ⟨_, _, rfl, rfl, ?_⟩))
                  | (refine gk 5 rfl ?_; first | refine sl_store rfl rfl rfl rfl rfl rfl (by exact rfl) rfl (by exact rfl) ?_)
                  | refine sl_region rfl ?_
                  | refine sl_nil ?_
                  | refine thn_k ?_
                  | refine swp_false rfl ?_
                  | refine swp_ret ?_
                  | refine swp_skip ?_
                  )
                refine end_retL [K3, hA, hC] (resOk_two (resV_cellA rfl rfl rfl rfl) (resV_tmp rfl)) ⟨⟨K3, by simp, lK⟩, bA, cA, bC, cC, ?_, ⟨hA, by simp, osA.sl⟩, ⟨hC, by simp, osC.sl⟩⟩
                rw [hl, htl]
end Go.Proofs.Ytnfepffmlhmmhaa
