/- Near: an image that can be laid, of what is drawn: walked (printed by n2.py). -/
import Derived.Test.YtjdjkcebflablaaDoorWN1
set_option linter.unusedVariables false
set_option linter.unusedSimpArgs false
set_option linter.unusedSectionVars false
namespace Go.Proofs.YtjdjkcebflablaaDoor
open Go.SL
set_option maxRecDepth 100000
set_option maxHeartbeats 16000000
abbrev zMe : Me := ⟨[], 0, 0, []⟩
def insN (y : Ins) : Ins := ⟨md y.op 256, y.a, y.b⟩
def codeN (c : List Ins) : List Ins := if c.length = 0 then [⟨20, 0, 0⟩] else (c.take 9).map insN
def parN (cl i : Nat) (m : Me) : List Int := if i = 0 then [] else kF 4 cl m.params
def nearM (cl i : Nat) (m : Me) : Me := ⟨parN cl i m, ((parN cl i m).length : Int) + md m.lo (17 - (parN cl i m).length), md m.st 33, codeN m.code⟩
def nearC (x : Im) : Nat := min x.cls.length 5
def nearN (x : Im) : Nat := max 1 (min x.ms.length 4)
def nearMs (x : Im) (i : Nat) : Me := nearM (nearC x) i (x.ms[i]?.getD zMe)
def nearI (x : Im) : Im := ⟨(x.cls.take 5).map (kF 4 (nearC x)), (List.range (nearN x)).map (nearMs x)⟩
theorem parN_le (cl i : Nat) (m : Me) : (parN cl i m).length ≤ 4 := by
  unfold parN; split
  · decide
  · rw [kF_len]; omega
theorem codeN_le (c : List Ins) : (codeN c).length ≤ 9 := by
  unfold codeN; split
  · decide
  · simp; omega
theorem MsP.snocN {K : Heap} {ms : List Me} {vals : List Value} {m : Me} {pb cb : Option Addr} {pc cc pl cl : Nat} {lo st : Int} (h : MsP K ms vals) (e1 : m.params.length = pl) (e2 : m.lo = lo) (e3 : m.st = st) (e4 : m.code.length = cl)
    (h1 : Sl K pb (m.params.map i64)) (h2 : pl ≤ 1000) (h3 : Sl K cb (flatI m.code)) (h4 : cl ≤ cc) (h5 : cl ≤ 1000) : MsP K (ms ++ [m]) (vals ++ [.slice pb pl pc, i64 lo, i64 st, .slice cb cl cc]) := by
  subst e1 e2 e3 e4
  exact h.snoc h1 h2 h3 h4 h5
theorem T.permH {P : Program} {f : FuncId} {args : List Value} {hs : List Heap} {Q Q' : Ending → List Heap → Prop} (h : SL.T P f args hs Q) (hq : ∀ e o, Q e o → ∃ o', o.Perm o' ∧ Q' e o') : SL.T P f args hs Q' :=
  fun w X s => (h w X s).mono fun _ _ ⟨own, h1, h2⟩ => by
    obtain ⟨o', p, h3⟩ := hq _ _ h2
    exact ⟨o', h1.perm (p.append_right X), h3⟩
attribute [local irreducible] SL.T PFn OpV SOL SWP HOp ChU
-- ALIAS Tryd
-- USE_L4
-- USE_L1
structure N1S where
  j : Nat
  h : Heap
  b : Option Addr
  c : Nat
  K : Heap
  vals : List Value
structure N2S where
  pb : Option Addr
  pn : Nat
  pc : Nat
  lo : Int
  st : Int
  cb : Option Addr
  cn : Nat
  cc : Nat
structure N3S where
  h : Heap
  b : Option Addr
  l : Nat
  c : Nat
structure N4S where
  k : Nat
  h : Heap
  b : Option Addr
  c : Nat
theorem near_pre (J : Heap) (x : Im) (v : Value) (hx : ImIn J x v) :
    SL.T Tryd.prog 7 [v] [J] fun e o => ∃ K hC K2 hM clb cc mb mc cv mv, e = .returned (.agg ⟨[.slice clb (nearC x) cc, .slice mb (nearN x) mc]⟩) ∧ OS hC clb (nearC x) cc 53 1 cv ∧ ClsP K ((x.cls.take 5).map (kF 4 (nearC x))) cv ∧ OS hM mb (nearN x) mc 56 4 mv ∧ MsP K2 ((List.range (nearN x)).map (nearMs x)) mv ∧ o = [K, hC, K2, hM, J] := by
  have hc1 : ∀ n, Value.int .u64 (IntKind.u64.wrap n) = .int .u64 ((md.w64N n : Nat) : Int) := fun n => by rw [u64_nat]
  have hr33 : ∀ n, Value.int .u64 (((md.w64N n : Nat) : Int).tmod 33) = .int .u64 (md n 33) := fun n => congrArg _ (md_rem n 33)
  have hb33 : ∀ n, Value.int .i64 (IntKind.i64.wrap (md n 33)) = i64 (md n 33) := fun n => by rw [md_back n (by decide) (by decide)]
  have hr256 : ∀ n, Value.int .u64 (((md.w64N n : Nat) : Int).tmod 256) = .int .u64 (md n 256) := fun n => congrArg _ (md_rem n 256)
  have hb256 : ∀ n, Value.int .i64 (IntKind.i64.wrap (md n 256)) = i64 (md n 256) := fun n => by rw [md_back n (by decide) (by decide)]
  obtain ⟨clb, cln, clc, mb, mn, mc, rfl, hc, hm, hl1, hl2⟩ := hx
  obtain ⟨cv, scv, hcv, hcl, hcln, hcf⟩ := hc
  obtain ⟨mv, smv, hmv, hml, hmn, hmf⟩ := hm
  haveI := scv
  haveI := smv
  obtain ⟨q, hq, hq2, hqx⟩ : ∃ q : Nat, min (cln : Int) 5 = (q : Int) ∧ q = min cln 5 ∧ nearC x = q := ⟨min cln 5, by omega, rfl, by rw [nearC, hcl]⟩
  obtain ⟨r4, hr4, hr42⟩ : ∃ r : Nat, min (mn : Int) 4 = (r : Int) ∧ r = min mn 4 := ⟨min mn 4, by omega, rfl⟩
  obtain ⟨nm, hnm, hnm2, hnx⟩ : ∃ r : Nat, max 1 (r4 : Int) = (r : Int) ∧ r = max 1 r4 ∧ nearN x = r := ⟨max 1 r4, by omega, rfl, by rw [nearN, hml, hr42]⟩
  rw [hqx, hnx]
  refine t_of_body Tryd.func7 rfl (Nat.le_of_ble_eq_true rfl) fun F => ?_
  refine swp_emp ?_
  refine swp_emp ?_
  repeat' (first
    | refine sl_op rfl rfl rfl ((opv_min rfl rfl rfl rfl rfl).to (congrArg (Value.int .i64) hq)) ?_
    | refine swp_seq ?_
    | (refine gk 0 rfl ?_; first | refine sl_op rfl rfl rfl (by first | exact opv_assign rfl rfl ) ?_ )
    | (refine gk 3 rfl ?_; first | refine sl_op rfl rfl rfl (by first | exact opv_load rfl (by exact rfl) rfl (by exact rfl) | exact opv_fieldAddr rfl rfl ) ?_ )
    | (refine gk 4 rfl ?_; first | refine sl_op rfl rfl rfl (by first | exact opv_len rfl rfl rfl rfl rfl ) ?_)
    | (refine gk 5 rfl ?_; first | refine sl_box rfl rfl rfl rfl rfl rfl (fun β => ?_) | refine sl_alloc rfl rfl rfl rfl (by exact rfl) (fun β => ?_) )
    | refine sl_region rfl ?_
    | refine sl_nil ?_
    | refine thn_k ?_
    | refine swp_block ?_
    )
  rename_i βx βr
  rename Nat => βo
  refine swp_loopD (fun t : N1S => [(1, ptr βx), (2, ptr βr), (3, ptr βo), (4, i64 (q : Int)), (5, i64 (t.j : Int))])
    (fun t => [t.K, t.h, blk βo (.cells ⟨[.slice t.b t.j t.c, .slice none 0 0]⟩ 25 (0, 0)), blk βr (.cells ⟨[.slice none 0 0, .slice none 0 0]⟩ 25 (0, 0)), blk βx (.cells ⟨[.slice clb cln clc, .slice mb mn mc]⟩ 25 (0, 0)), J])
    (fun t => t.j ≤ q ∧ OS t.h t.b t.j t.c 53 1 t.vals ∧ ClsP t.K ((x.cls.take t.j).map (kF 4 q)) t.vals) (fun t => q - t.j) ⟨0, emp, none, 0, emp, []⟩ (by repeat first | exact Sub.nil _ | refine Sub.cons rfl ?_) ⟨Nat.zero_le _, OS.nil, ClsP.nil⟩ ?_
  rintro ⟨j, h, b, c, K, vals⟩ ⟨hj, os, hP⟩
  dsimp only at hj os hP ⊢
  by_cases hj2 : j < q
  · obtain ⟨f, hf⟩ : ∃ z, x.cls[j]? = some z := ⟨_, List.getElem?_eq_getElem (by omega)⟩
    obtain ⟨fb, fn, fc, g1, g2, g3, g4⟩ := hcf j f hf
    haveI := g2
    have hk : ((j : Nat) : Int).toNat * 1 < cv.length := by simp; omega
    have hcx : cv[((j : Nat) : Int).toNat * 1]? = some (.slice fb fn fc) := by simpa using g1
    have hcx0 : cv[((j : Nat) : Int).toNat * 1 + 0]? = some (.slice fb fn fc) := by simpa using g1
    have kk := nkinds_calls J fb fn fc q f g3 g4 (by omega)
    have kl : (kF 4 q f).length ≤ 1000 := by rw [kF_len]; omega
    repeat' (first
      | refine swp_seq ?_
      | (refine gk 0 rfl ?_; first | refine sl_op rfl rfl rfl (by first | exact opv_move rfl rfl ) ?_ )
      | (refine gk 2 rfl ?_; first | refine sl_yes rfl rfl rfl (by first | exact opv_lss rfl rfl rfl ) (by first | omega ) ?_ )
      | refine sl_region rfl ?_
      | refine sl_nil ?_
      | refine thn_k ?_
      | refine swp_true rfl ?_
      | refine swp_block ?_
      | refine swp_skip ?_
      )
    refine sl_drawC [.q [0, 1, 2, 3, 4, 5, 6, 7, 8], .h false 9, .q [10], .an 11, .rv 11, .h true 12, .q [13], .h true 14] [J, blk βo (.cells ⟨[.slice b j c, .slice none 0 0]⟩ 25 (0, 0)), blk βx (.cells ⟨[.slice clb cln clc, .slice mb mn mc]⟩ 25 (0, 0))] (by kernel_rfl) (by kernel_rfl) (by kernel_rfl) (by kernel_rfl) ?_
    repeat' (first
      | (refine gk 0 rfl ?_; first | refine sl_op rfl rfl rfl (by first | exact opv_move rfl rfl | exact opv_assign rfl rfl ) ?_ )
      | (refine gk 1 rfl ?_; first | refine sl_op rfl rfl rfl (by first | exact opv_add64 rfl rfl rfl (by omega) (by omega) ) ?_ )
      | (refine gk 3 rfl ?_; first | refine sl_op rfl rfl rfl (by first | exact opv_load rfl (by exact rfl) rfl (by exact rfl) | exact opv_fieldAddr rfl rfl | exact opv_indexAddrI rfl rfl rfl (by omega) (by omega) (by first | omega ) | exact opv_fieldAddrE rfl rfl (by first | assumption ) | exact opv_loadEx rfl (by exact rfl) (by infer_instance) (by first | assumption ) ) ?_ )
      | (refine gk 5 rfl ?_; first | refine sl_op rfl rfl rfl (by first | exact opv_build rfl rfl (by exact rfl) ) ?_ )
      | refine sl_region rfl ?_
      | refine chu_nil ?_
      | refine chu_q rfl ?_
      | refine chu_new rfl rfl (by first | exact new_buildSlice rfl rfl (by exact rfl) (by exact rfl) (by exact rfl) (by exact rfl) (by exact rfl)) ?_
      | refine chu_rv rfl rfl rfl (fun β => ?_)
      | refine chu_storeL rfl (by decide +kernel) rfl rfl rfl rfl rfl (by exact rfl) rfl (by exact rfl) (by exact rfl) ?_
      | (refine chu_T rfl rfl rfl rfl rfl rfl rfl rfl (kk) (by rintro _ _ ⟨hz, bz, cz, rfl, osz, rfl⟩; exact ⟨_, rfl⟩) ?_; rintro _ _ ⟨hz, bz, cz, rfl, osz, rfl⟩; refine ⟨_, _, rfl, rfl, ?_⟩)
      | refine chu_append rfl rfl rfl rfl rfl rfl rfl rfl rfl os (by decide) rfl (by decide) rfl (by omega) (by omega) (fun h' b' c' os' => ?_)
      | refine sl_nil ?_
      | refine thn_k ?_
      )
    intro hd
    have dj : Disj hz K := disj_of hd
    refine ⟨rfl, ⟨j + 1, h', b', c', join hz K, _⟩, next_join (h := hz) (k := K) (by repeat first | exact Sub.nil _ | refine Sub.cons rfl ?_), ⟨by dsimp only; omega, os', ?_⟩, by dsimp only; omega⟩
    dsimp only
    rw [List.take_add_one, hf, List.map_append]
    exact (hP.mono (join_right dj)).snoc (osz.sl.mono join_left) rfl kl
  · obtain rfl : j = q := by omega
    have htk : x.cls.take 5 = x.cls.take j := by
      by_cases h1 : cln ≤ 5
      · rw [List.take_of_length_le (by omega), List.take_of_length_le (by omega)]
      · rw [show j = 5 by omega]
    rw [htk]
    refine swp_emp ?_
    refine swp_emp ?_
    repeat' (first
      | refine swp_seq ?_
      | (refine gk 0 rfl ?_; first | refine sl_op rfl rfl rfl (by first | exact opv_move rfl rfl | exact opv_assign rfl rfl ) ?_ )
      | (refine gk 2 rfl ?_; first | refine sl_no rfl rfl rfl (by first | exact opv_lss rfl rfl rfl ) (by first | omega ) ?_ )
      | refine sl_region rfl ?_
      | refine sl_nil ?_
      | refine thn_k ?_
      | refine swp_false rfl ?_
      | refine swp_block ?_
      | refine swp_exit ?_
      )
    refine swp_loopD (fun t : N1S => [(1, ptr βx), (2, ptr βr), (3, ptr βo), (4, i64 (j : Int)), (6, i64 (t.j : Int))])
      (fun t => [t.K, t.h, blk βo (.cells ⟨[.slice b j c, .slice t.b t.j t.c]⟩ 25 (0, 0)), blk βr (.cells ⟨[.slice none 0 0, .slice none 0 0]⟩ 25 (0, 0)), blk βx (.cells ⟨[.slice clb cln clc, .slice mb mn mc]⟩ 25 (0, 0)), J, K, h])
      (fun t => t.j ≤ nm ∧ OS t.h t.b t.j t.c 56 4 t.vals ∧ MsP t.K ((List.range t.j).map (nearMs x)) t.vals) (fun t => nm - t.j) ⟨0, emp, none, 0, emp, []⟩ (by repeat first | exact Sub.nil _ | refine Sub.cons rfl ?_) ⟨Nat.zero_le _, OS.nil, MsP.nil⟩ ?_
    rintro ⟨i, h2, b2, c2, K2, vm⟩ ⟨hi, os2, hP2⟩
    dsimp only at hi os2 hP2 ⊢
    by_cases hi2 : i < nm
    · obtain ⟨m, hmd⟩ : ∃ m, m = x.ms[i]?.getD zMe := ⟨_, rfl⟩
      have hnear : nearMs x i = nearM j i m := by rw [nearMs, hqx, hmd]
      repeat' ((fail_if_success (refine stop_at 11 ?_)); (first
        | refine sl_op rfl rfl rfl ((opv_min rfl rfl rfl rfl rfl).to (congrArg (Value.int .i64) hr4)) ?_
        | refine sl_op rfl rfl rfl ((opv_max rfl rfl rfl rfl rfl).to (congrArg (Value.int .i64) hnm)) ?_
        | refine swp_seq ?_
        | (refine gk 0 rfl ?_; first | refine sl_op rfl rfl rfl (by first | exact opv_move rfl rfl ) ?_ )
        | (refine gk 2 rfl ?_; first | refine sl_yes rfl rfl rfl (by first | exact opv_lss rfl rfl rfl ) (by first | omega ) ?_ )
        | (refine gk 3 rfl ?_; first | refine sl_op rfl rfl rfl (by first | exact opv_load rfl (by exact rfl) rfl (by exact rfl) | exact opv_fieldAddr rfl rfl ) ?_ )
        | (refine gk 4 rfl ?_; first | refine sl_op rfl rfl rfl (by first | exact opv_len rfl rfl rfl rfl rfl ) ?_)
        | (refine gk 5 rfl ?_; first | refine sl_alloc rfl rfl rfl rfl (by exact rfl) (fun β => ?_) )
        | refine sl_region rfl ?_
        | refine sl_nil ?_
        | refine thn_k ?_
        | refine swp_true rfl ?_
        | refine swp_block ?_
        | refine swp_skip ?_
        ))
      obtain ⟨βm, hβm⟩ : ∃ y, y = β := ⟨_, rfl⟩
      rw [← hβm]
      clear hβm
      refine swp_seq ?_
      refine swp_joinS (fun s : N2S => [(1, ptr βx), (2, ptr βr), (3, ptr βo), (4, i64 (j : Int)), (6, i64 (i : Int)), (7, ptr βm)])
        (fun s => [blk βm (.cells ⟨[.slice s.pb s.pn s.pc, i64 s.lo, i64 s.st, .slice s.cb s.cn s.cc]⟩ 56 (0, 0)), K2, h2, blk βo (.cells ⟨[.slice b j c, .slice b2 i c2]⟩ 25 (0, 0)), blk βr (.cells ⟨[.slice none 0 0, .slice none 0 0]⟩ 25 (0, 0)), blk βx (.cells ⟨[.slice clb cln clc, .slice mb mn mc]⟩ 25 (0, 0)), J, K, h])
        (fun s => s.lo = m.lo ∧ s.st = m.st ∧ Sl J s.pb (m.params.map i64) ∧ m.params.length = s.pn ∧ s.pn ≤ 9223372036854775807 ∧ Sl J s.cb (flatI m.code) ∧ m.code.length = s.cn ∧ s.cn ≤ 9223372036854775807) ?_ ?_
      · by_cases him : i < mn
        · obtain ⟨z, hz⟩ : ∃ z, x.ms[i]? = some z := ⟨_, List.getElem?_eq_getElem (by omega)⟩
          obtain rfl : m = z := by rw [hmd, hz]; rfl
          obtain ⟨pb, pn, pc, cb, cn, cc, a1, a2, a3, a4, a5, a6, a7, a8, a9, a10, a11⟩ := hmf i m hz
          have hk : ((i : Nat) : Int).toNat * 4 < mv.length := by simp; omega
          have hx0 : mv[((i : Nat) : Int).toNat * 4]? = some (.slice pb pn pc) := by simpa using a1
          have hx1 : mv[((i : Nat) : Int).toNat * 4 + 1]? = some (i64 m.lo) := by simpa using a2
          have hx2 : mv[((i : Nat) : Int).toNat * 4 + 2]? = some (i64 m.st) := by simpa using a3
          have hx3 : mv[((i : Nat) : Int).toNat * 4 + 3]? = some (.slice cb cn cc) := by simpa using a4
          repeat' (first
            | refine swp_seq ?_
            | (refine gk 0 rfl ?_; first | refine sl_op rfl rfl rfl (by first | exact opv_move rfl rfl ) ?_ )
            | (refine gk 2 rfl ?_; first | refine sl_yes rfl rfl rfl (by first | exact opv_lss rfl rfl rfl ) (by first | omega ) ?_ )
            | (refine gk 3 rfl ?_; first | refine sl_op rfl rfl rfl (by first | exact opv_load rfl (by exact rfl) rfl (by exact rfl) | exact opv_fieldAddr rfl rfl | exact opv_indexAddrI rfl rfl rfl (by omega) (by omega) (by first | omega ) | exact opv_load4 rfl (by exact rfl) (by infer_instance) (by assumption) (by assumption) (by assumption) (by assumption) ) ?_ )
            | (refine gk 4 rfl ?_; first | refine sl_op rfl rfl rfl (by first | exact opv_len rfl rfl rfl rfl rfl ) ?_)
            | (refine gk 5 rfl ?_; first | refine sl_store rfl rfl rfl rfl rfl rfl (by exact rfl) rfl (by exact rfl) ?_)
            | refine sl_region rfl ?_
            | refine sl_nil ?_
            | refine thn_k ?_
            | refine swp_true rfl ?_
            )
          exact ⟨rfl, ⟨pb, pn, pc, m.lo, m.st, cb, cn, cc⟩, next_ok (by repeat first | exact Sub.nil _ | refine Sub.cons rfl ?_), rfl, rfl, a5, a6, a7, a8, a9, a11⟩
        · obtain rfl : m = zMe := by rw [hmd, List.getElem?_eq_none (by omega)]; rfl
          repeat' (first
            | refine swp_seq ?_
            | (refine gk 0 rfl ?_; first | refine sl_op rfl rfl rfl (by first | exact opv_move rfl rfl ) ?_ )
            | (refine gk 2 rfl ?_; first | refine sl_no rfl rfl rfl (by first | exact opv_lss rfl rfl rfl ) (by first | omega ) ?_ )
            | (refine gk 3 rfl ?_; first | refine sl_op rfl rfl rfl (by first | exact opv_load rfl (by exact rfl) rfl (by exact rfl) | exact opv_fieldAddr rfl rfl ) ?_ )
            | (refine gk 4 rfl ?_; first | refine sl_op rfl rfl rfl (by first | exact opv_len rfl rfl rfl rfl rfl ) ?_)
            | refine sl_region rfl ?_
            | refine sl_nil ?_
            | refine thn_k ?_
            | refine swp_false rfl ?_
            | refine swp_skip ?_
            )
          exact ⟨rfl, ⟨none, 0, 0, 0, 0, none, 0, 0⟩, next_ok (by repeat first | exact Sub.nil _ | refine Sub.cons rfl ?_), rfl, rfl, ⟨fun k v h => by simp at h⟩, rfl, by decide, ⟨fun k v h => by simp [flatI] at h⟩, rfl, by decide⟩
      rintro ⟨pb, pn, pc, lo0, st0, cb, cn, cc⟩ ⟨e1, e2, a5, a6, a7, a8, a9, a11⟩
      dsimp only at e1 e2 a5 a6 a7 a8 a9 a11 ⊢
      haveI := a5
      haveI := a8
      repeat' ((fail_if_success (refine stop_at 14 ?_)); (first
        | refine sl_op rfl rfl rfl ((opv_convert rfl rfl).to (hb33 _)) ?_
        | refine sl_op rfl rfl rfl ((opv_convert rfl rfl).to (hc1 _)) ?_
        | refine sl_op rfl rfl rfl ((opv_rem rfl rfl rfl (by decide)).to (hr33 _)) ?_
        | refine swp_seq ?_
        | (refine gk 3 rfl ?_; first | refine sl_op rfl rfl rfl (by first | exact opv_load rfl (by exact rfl) rfl (by exact rfl) | exact opv_fieldAddr rfl rfl ) ?_ )
        | (refine gk 5 rfl ?_; first | refine sl_op rfl rfl rfl (by first | exact opv_build rfl rfl (by exact rfl) ) ?_ | refine sl_alloc rfl rfl rfl rfl (by exact rfl) (fun β => ?_) | refine sl_store rfl rfl rfl rfl rfl rfl (by exact rfl) rfl (by exact rfl) ?_)
        | refine sl_region rfl ?_
        | refine sl_nil ?_
        ))
      obtain ⟨βn, hβn⟩ : ∃ y, y = β := ⟨_, rfl⟩
      rw [← hβn]
      clear hβn
      refine swp_emp ?_
      refine swp_seq ?_
      have hpl := parN_le j i m
      refine swp_joinS (fun s : N3S => [(1, ptr βx), (2, ptr βr), (3, ptr βo), (4, i64 (j : Int)), (6, i64 (i : Int)), (7, ptr βm), (8, ptr βn)])
        (fun s => [blk βn (.cells ⟨[.slice s.b s.l s.c, i64 0, i64 (md st0 33), .slice none 0 0]⟩ 56 (0, 0)), s.h, blk βm (.cells ⟨[.slice pb pn pc, i64 lo0, i64 st0, .slice cb cn cc]⟩ 56 (0, 0)), K2, h2, blk βo (.cells ⟨[.slice b j c, .slice b2 i c2]⟩ 25 (0, 0)), blk βr (.cells ⟨[.slice none 0 0, .slice none 0 0]⟩ 25 (0, 0)), blk βx (.cells ⟨[.slice clb cln clc, .slice mb mn mc]⟩ 25 (0, 0)), J, K, h])
        (fun s => OS s.h s.b s.l s.c 50 1 ((parN j i m).map i64) ∧ (parN j i m).length = s.l) ?_ ?_
      · by_cases hi0 : i = 0
        · have e : parN j i m = [] := by rw [parN, if_pos hi0]
          rw [e]
          repeat' (first
            | refine swp_seq ?_
            | (refine gk 0 rfl ?_; first | refine sl_op rfl rfl rfl (by first | exact opv_move rfl rfl ) ?_ )
            | (refine gk 2 rfl ?_; first | refine sl_no rfl rfl rfl (by first | exact opv_gtr rfl rfl rfl ) (by first | omega ) ?_ )
            | refine sl_region rfl ?_
            | refine sl_nil ?_
            | refine thn_k ?_
            | refine swp_false rfl ?_
            | refine swp_skip ?_
            )
          exact ⟨rfl, ⟨emp, none, 0, 0⟩, next_ok (by repeat first | exact Sub.nil _ | refine Sub.cons rfl ?_), OS.nil, rfl⟩
        · have e : parN j i m = kF 4 j m.params := by rw [parN, if_neg hi0]
          rw [e]
          have kk := nkinds_calls J pb pn pc j m.params a6 a7 (by omega)
          repeat' (first
            | refine swp_seq ?_
            | (refine gk 0 rfl ?_; first | refine sl_op rfl rfl rfl (by first | exact opv_move rfl rfl ) ?_ )
            | (refine gk 2 rfl ?_; first | refine sl_yes rfl rfl rfl (by first | exact opv_gtr rfl rfl rfl ) (by first | omega ) ?_ )
            | (refine gk 3 rfl ?_; first | refine sl_op rfl rfl rfl (by first | exact opv_load rfl (by exact rfl) rfl (by exact rfl) | exact opv_fieldAddr rfl rfl ) ?_ )
            | (refine gk 4 rfl ?_; first | (refine sl_callT rfl rfl rfl rfl rfl rfl rfl rfl (kk) ?_; rintro _ _ ⟨hz, bz, cz, rfl, osz, rfl⟩; refine ⟨_, _, rfl, rfl, ?_⟩))
            | (refine gk 5 rfl ?_; first | refine sl_store rfl rfl rfl rfl rfl rfl (by exact rfl) rfl (by exact rfl) ?_)
            | refine sl_region rfl ?_
            | refine sl_nil ?_
            | refine thn_k ?_
            | refine swp_true rfl ?_
            )
          exact ⟨rfl, ⟨hz, bz, _, cz⟩, next_ok (by repeat first | exact Sub.nil _ | refine Sub.cons rfl ?_), osz, rfl⟩
      rintro ⟨hp, bp, lp, cp⟩ ⟨osp, hlp⟩
      dsimp only at osp hlp ⊢
      have hd17 : (17 - (lp : Int)) = ((17 - lp : Nat) : Int) := by omega
      have hc3 : Value.int .u64 (IntKind.u64.wrap (17 - (lp : Int))) = .int .u64 ((17 - lp : Nat) : Int) := by rw [hd17, wrap_u64' (by omega)]
      have hr2 : ∀ n, Value.int .u64 (((md.w64N n : Nat) : Int).tmod ((17 - lp : Nat) : Int)) = .int .u64 (md n (17 - lp)) := fun n => by rw [md_rem]
      have hb2 : ∀ n, Value.int .i64 (IntKind.i64.wrap (md n (17 - lp))) = i64 (md n (17 - lp)) := fun n => by rw [md_back n (by omega) (by omega)]
      have hmd := md_lt lo0 (d := 17 - lp) (by omega)
      repeat' (first
        | refine swp_seq ?_
        )
      refine sl_drawC [.q [0, 1, 2, 3, 4, 5, 6, 7, 8, 9, 10, 11, 12, 13, 14], .h true 15] [blk βn (.cells ⟨[.slice bp lp cp, i64 0, i64 (md st0 33), .slice none 0 0]⟩ 56 (0, 0)), blk βm (.cells ⟨[.slice pb pn pc, i64 lo0, i64 st0, .slice cb cn cc]⟩ 56 (0, 0))] (by kernel_rfl) (by kernel_rfl) (by kernel_rfl) (by kernel_rfl) ?_
      repeat' (first
        | refine sl_op rfl rfl rfl ((opv_convert rfl rfl).to (hb2 _)) ?_
        | refine sl_op rfl rfl rfl ((opv_convert rfl rfl).to hc3) ?_
        | refine sl_op rfl rfl rfl ((opv_convert rfl rfl).to (hc1 _)) ?_
        | refine sl_op rfl rfl rfl ((opv_rem rfl rfl rfl (by omega)).to (hr2 _)) ?_
        | refine swp_seq ?_
        | (refine gk 0 rfl ?_; first | refine sl_op rfl rfl rfl (by first | exact opv_assign rfl rfl ) ?_ )
        | (refine gk 1 rfl ?_; first | refine sl_op rfl rfl rfl (by first | exact opv_add64 rfl rfl rfl (by omega) (by omega) | exact opv_sub64 rfl rfl rfl (by omega) (by omega) ) ?_ )
        | (refine gk 3 rfl ?_; first | refine sl_op rfl rfl rfl (by first | exact opv_load rfl (by exact rfl) rfl (by exact rfl) | exact opv_fieldAddr rfl rfl ) ?_ )
        | (refine gk 4 rfl ?_; first | refine sl_op rfl rfl rfl (by first | exact opv_len rfl rfl rfl rfl rfl ) ?_)
        | refine sl_region rfl ?_
        | refine chu_nil ?_
        | refine chu_q rfl ?_
        | refine chu_storeL rfl (by decide +kernel) rfl rfl rfl rfl rfl (by exact rfl) rfl (by exact rfl) (by exact rfl) ?_
        | refine sl_nil ?_
        | refine thn_k ?_
        | refine swp_block ?_
        )
      refine swp_emp ?_
      refine swp_loopS (fun t : N4S => [(1, ptr βx), (2, ptr βr), (3, ptr βo), (4, i64 (j : Int)), (6, i64 (i : Int)), (7, ptr βm), (8, ptr βn), (9, i64 (t.k : Int))])
        (fun t => [t.h, blk βn (.cells ⟨[.slice bp lp cp, i64 ((lp : Int) + md lo0 (17 - lp)), i64 (md st0 33), .slice t.b t.k t.c]⟩ 56 (0, 0)), hp, blk βm (.cells ⟨[.slice pb pn pc, i64 lo0, i64 st0, .slice cb cn cc]⟩ 56 (0, 0)), K2, h2, blk βo (.cells ⟨[.slice b j c, .slice b2 i c2]⟩ 25 (0, 0)), blk βr (.cells ⟨[.slice none 0 0, .slice none 0 0]⟩ 25 (0, 0)), blk βx (.cells ⟨[.slice clb cln clc, .slice mb mn mc]⟩ 25 (0, 0)), J, K, h])
        (fun t => t.k ≤ cn ∧ t.k ≤ 9 ∧ OS t.h t.b t.k t.c 58 3 (flatI ((m.code.take t.k).map insN))) (fun t => cn - t.k) ⟨0, emp, none, 0⟩ (by repeat first | exact Sub.nil _ | refine Sub.cons rfl ?_) ⟨Nat.zero_le _, Nat.zero_le _, OS.nil⟩ ?_
      rintro ⟨k, h3, b3, c3⟩ ⟨hk1, hk9, os3⟩
      dsimp only at hk1 hk9 os3 ⊢
      by_cases hgo : k < cn ∧ k < 9
      · obtain ⟨hk2, hk3⟩ := hgo
        obtain ⟨y, hy⟩ : ∃ z, m.code[k]? = some z := ⟨_, List.getElem?_eq_getElem (by omega)⟩
        obtain ⟨w0, w1, w2⟩ := flatI_at hy
        have hk : ((k : Nat) : Int).toNat * 3 < (flatI m.code).length := by rw [flatI_length]; omega
        have hw0 : (flatI m.code)[((k : Nat) : Int).toNat * 3]? = some (i64 y.op) := by simpa using w0
        have hw00 : (flatI m.code)[((k : Nat) : Int).toNat * 3 + 0]? = some (i64 y.op) := by simpa using w0
        have hw1 : (flatI m.code)[((k : Nat) : Int).toNat * 3 + 1]? = some (i64 y.a) := by simpa using w1
        have hw2 : (flatI m.code)[((k : Nat) : Int).toNat * 3 + 2]? = some (i64 y.b) := by simpa using w2
        repeat' (first
          | refine swp_seq ?_
          | (refine gk 0 rfl ?_; first | refine sl_op rfl rfl rfl (by first | exact opv_move rfl rfl | exact opv_pick_t rfl rfl rfl ) ?_ )
          | (refine gk 2 rfl ?_; first | refine sl_yes rfl rfl rfl (by first | exact opv_lss rfl rfl rfl ) (by first | omega ) ?_ )
          | (refine gk 3 rfl ?_; first | refine sl_op rfl rfl rfl (by first | exact opv_load rfl (by exact rfl) rfl (by exact rfl) | exact opv_fieldAddr rfl rfl ) ?_ )
          | (refine gk 4 rfl ?_; first | refine sl_op rfl rfl rfl (by first | exact opv_len rfl rfl rfl rfl rfl ) ?_)
          | refine sl_region rfl ?_
          | refine sl_nil ?_
          | refine thn_k ?_
          | refine swp_true rfl ?_
          | refine swp_block ?_
          | refine swp_skip ?_
          )
        refine sl_drawC [.q [0, 1, 2, 3, 4, 5, 6, 7, 8, 9, 10, 11, 12, 13, 14, 15, 16, 17, 18, 19, 20, 21, 22, 23], .an 24, .rv 24, .h true 25, .q [26], .h true 27] [J, blk βn (.cells ⟨[.slice bp lp cp, i64 ((lp : Int) + md lo0 (17 - lp)), i64 (md st0 33), .slice b3 k c3]⟩ 56 (0, 0)), blk βm (.cells ⟨[.slice pb pn pc, i64 lo0, i64 st0, .slice cb cn cc]⟩ 56 (0, 0))] (by kernel_rfl) (by kernel_rfl) (by kernel_rfl) (by kernel_rfl) ?_
        repeat' (first
          | refine sl_op rfl rfl rfl ((opv_convert rfl rfl).to (hb256 _)) ?_
          | refine sl_op rfl rfl rfl ((opv_convert rfl rfl).to (hc1 _)) ?_
          | refine sl_op rfl rfl rfl ((opv_rem rfl rfl rfl (by decide)).to (hr256 _)) ?_
          | (refine gk 0 rfl ?_; first | refine sl_op rfl rfl rfl (by first | exact opv_move rfl rfl | exact opv_assign rfl rfl ) ?_ )
          | (refine gk 1 rfl ?_; first | refine sl_op rfl rfl rfl (by first | exact opv_add64 rfl rfl rfl (by omega) (by omega) ) ?_ )
          | (refine gk 3 rfl ?_; first | refine sl_op rfl rfl rfl (by first | exact opv_load rfl (by exact rfl) rfl (by exact rfl) | exact opv_fieldAddr rfl rfl | exact opv_indexAddrI rfl rfl rfl (by omega) (by omega) (by first | omega ) | exact opv_fieldAddrE rfl rfl (by first | assumption ) | exact opv_loadEx rfl (by exact rfl) (by infer_instance) (by first | assumption ) ) ?_ )
          | (refine gk 5 rfl ?_; first | refine sl_op rfl rfl rfl (by first | exact opv_build rfl rfl (by exact rfl) ) ?_ )
          | refine sl_region rfl ?_
          | refine chu_nil ?_
          | refine chu_q rfl ?_
          | refine chu_new rfl rfl (by first | exact new_buildSlice rfl rfl (by exact rfl) (by exact rfl) (by exact rfl) (by exact rfl) (by exact rfl)) ?_
          | refine chu_rv rfl rfl rfl (fun β => ?_)
          | refine chu_storeL rfl (by decide +kernel) rfl rfl rfl rfl rfl (by exact rfl) rfl (by exact rfl) (by exact rfl) ?_
          | refine chu_append rfl rfl rfl rfl rfl rfl rfl rfl rfl os3 (by decide) rfl (by decide) rfl (by omega) (by omega) (fun h' b' c' os' => ?_)
          | refine sl_nil ?_
          | refine thn_k ?_
          )
        refine ⟨rfl, ⟨k + 1, h', b', c'⟩, next_ok (by repeat first | exact Sub.nil _ | refine Sub.cons rfl ?_), ⟨by dsimp only; omega, by dsimp only; omega, ?_⟩, by dsimp only; omega⟩
        dsimp only
        rw [List.take_add_one, hy, List.map_append, flatI_append]
        exact os'
      · have hcode : 0 < cn → codeN m.code = (m.code.take k).map insN := fun h0 => by
          unfold codeN
          rw [if_neg (by omega)]
          by_cases h1 : k < cn
          · rw [show k = 9 by omega]
          · rw [List.take_of_length_le (by omega), List.take_of_length_le (by omega)]
        by_cases hk2 : k < cn
        · have hc := hcode (by omega)
          have hcl : (codeN m.code).length = k := by rw [hc, List.length_map, List.length_take]; omega
          rw [← hc] at os3
          repeat' (first
            | refine swp_seq ?_
            | (refine gk 0 rfl ?_; first | refine sl_op rfl rfl rfl (by first | exact opv_move rfl rfl | exact opv_assign rfl rfl | exact opv_pick_t rfl rfl rfl ) ?_ )
            | (refine gk 1 rfl ?_; first | refine sl_op rfl rfl rfl (by first | exact opv_add64 rfl rfl rfl (by omega) (by omega) ) ?_ )
            | (refine gk 2 rfl ?_; first | refine sl_yes rfl rfl rfl (by first | exact opv_lss rfl rfl rfl | exact opv_eql rfl rfl rfl ) (by first | omega ) ?_ | refine sl_no rfl rfl rfl (by first | exact opv_lss rfl rfl rfl | exact opv_eql rfl rfl rfl ) (by first | omega ) ?_ )
            | (refine gk 3 rfl ?_; first | refine sl_op rfl rfl rfl (by first | exact opv_load rfl (by exact rfl) rfl (by exact rfl) | exact opv_fieldAddr rfl rfl | exact opv_loadA rfl (by exact rfl) rfl (by exact rfl) (by exact rfl) ) ?_ )
            | (refine gk 4 rfl ?_; first | refine sl_op rfl rfl rfl (by first | exact opv_len rfl rfl rfl rfl rfl ) ?_ | refine sl_appendG rfl rfl rfl rfl rfl rfl rfl rfl rfl (by assumption) (by first | rfl ) (by decide) (by first | rfl ) (by omega) (by omega) (fun h' b' c' os' hb' => ?_))
            | (refine gk 5 rfl ?_; first | refine sl_buildSlice rfl rfl rfl rfl rfl (by exact rfl) (by exact rfl) (by exact rfl) (by exact rfl) rfl (fun b => ?_) | refine sl_store rfl rfl rfl rfl rfl rfl (by exact rfl) rfl (by exact rfl) ?_)
            | refine sl_region rfl ?_
            | refine sl_nil ?_
            | refine thn_k ?_
            | refine swp_false rfl ?_
            | refine swp_exit ?_
            | refine swp_skip ?_
            )
          intro hd
          obtain ⟨d1, d2, d3⟩ := disj3 (h := hp) (g := h3) (k := K2) hd
          refine ⟨rfl, ⟨i + 1, h', b', c', join hp (join h3 K2), _⟩, next_join3 (h := hp) (g := h3) (k := K2) (by repeat first | exact Sub.nil _ | refine Sub.cons rfl ?_), ⟨by dsimp only; omega, os', ?_⟩, by dsimp only; omega⟩
          dsimp only
          rw [List.range_succ, List.map_append, List.map_singleton, hnear]
          have l1 : hle (join h3 K2) (join hp (join h3 K2)) := join_right (disj_join_mk d1 d2)
          refine (hP2.mono ((join_right d3).trans l1)).snocN (m := nearM j i m) hlp ?_ (by show md m.st 33 = _; rw [e2]) hcl (osp.sl.mono join_left) (by omega) (os3.sl.mono (join_left.trans l1)) os3.hle (by omega)
          show ((parN j i m).length : Int) + md m.lo (17 - (parN j i m).length) = _
          rw [hlp, e1]
        · by_cases hc0 : cn = 0
          · have hc : codeN m.code = [⟨20, 0, 0⟩] := by rw [codeN, if_pos (by omega)]
            obtain rfl : k = 0 := by omega
            repeat' (first
              | refine swp_seq ?_
              | (refine gk 0 rfl ?_; first | refine sl_op rfl rfl rfl (by first | exact opv_move rfl rfl | exact opv_assign rfl rfl | exact opv_pick_f rfl rfl rfl ) ?_ | refine sl_pass rfl rfl rfl rfl ?_)
              | (refine gk 1 rfl ?_; first | refine sl_op rfl rfl rfl (by first | exact opv_add64 rfl rfl rfl (by omega) (by omega) ) ?_ )
              | (refine gk 2 rfl ?_; first | refine sl_pass rfl rfl rfl rfl ?_ | refine sl_yes rfl rfl rfl (by first | exact opv_lss rfl rfl rfl | exact opv_eql rfl rfl rfl ) (by first | omega ) ?_ | refine sl_no rfl rfl rfl (by first | exact opv_lss rfl rfl rfl ) (by first | omega ) ?_ )
              | (refine gk 3 rfl ?_; first | refine sl_op rfl rfl rfl (by first | exact opv_load rfl (by exact rfl) rfl (by exact rfl) | exact opv_fieldAddr rfl rfl | exact opv_loadA rfl (by exact rfl) rfl (by exact rfl) (by exact rfl) ) ?_ )
              | (refine gk 4 rfl ?_; first | refine sl_op rfl rfl rfl (by first | exact opv_len rfl rfl rfl rfl rfl ) ?_ | refine sl_appendG rfl rfl rfl rfl rfl rfl rfl rfl rfl (by assumption) (by first | rfl ) (by decide) (by first | rfl ) (by omega) (by omega) (fun h' b' c' os' hb' => ?_))
              | (refine gk 5 rfl ?_; first | refine sl_op rfl rfl rfl (by first | exact opv_build rfl rfl (by exact rfl) ) ?_ | refine sl_buildSlice rfl rfl rfl rfl rfl (by exact rfl) (by exact rfl) (by exact rfl) (by exact rfl) rfl (fun b => ?_) | refine sl_store rfl rfl rfl rfl rfl rfl (by exact rfl) rfl (by exact rfl) ?_)
              | refine sl_region rfl ?_
              | refine sl_nil ?_
              | refine thn_k ?_
              | refine swp_true rfl ?_
              | refine swp_false rfl ?_
              | refine swp_exit ?_
              )
            rename_i bA bC
            intro hd
            obtain ⟨d1, d2, d3⟩ := disj3 (h := hp) (g := blk bC (.cells ⟨[i64 20, i64 0, i64 0]⟩ 58 (0, 0))) (k := K2) hd
            refine ⟨rfl, ⟨i + 1, h', b', c', join hp (join (blk bC (.cells ⟨[i64 20, i64 0, i64 0]⟩ 58 (0, 0))) K2), _⟩, next_join3 (h := hp) (g := blk bC (.cells ⟨[i64 20, i64 0, i64 0]⟩ 58 (0, 0))) (k := K2) (by repeat first | exact Sub.nil _ | refine Sub.cons rfl ?_), ⟨by dsimp only; omega, os', ?_⟩, by dsimp only; omega⟩
            dsimp only
            rw [List.range_succ, List.map_append, List.map_singleton, hnear]
            have l1 : hle (join (blk bC (.cells ⟨[i64 20, i64 0, i64 0]⟩ 58 (0, 0))) K2) (join hp (join (blk bC (.cells ⟨[i64 20, i64 0, i64 0]⟩ 58 (0, 0))) K2)) := join_right (disj_join_mk d1 d2)
            refine (hP2.mono ((join_right d3).trans l1)).snocN (m := nearM j i m) hlp ?_ (by show md m.st 33 = _; rw [e2]) (by show (codeN m.code).length = _; rw [hc]; rfl) (osp.sl.mono join_left) (by omega) ?_ (by decide) (by decide)
            · show ((parN j i m).length : Int) + md m.lo (17 - (parN j i m).length) = _
              rw [hlp, e1]
            · show Sl _ _ (flatI (codeN m.code))
              rw [hc]
              exact Sl.blk.mono (join_left.trans l1)
          · have hc := hcode (by omega)
            have hcl : (codeN m.code).length = k := by rw [hc, List.length_map, List.length_take]; omega
            rw [← hc] at os3
            repeat' (first
              | refine swp_seq ?_
              | (refine gk 0 rfl ?_; first | refine sl_op rfl rfl rfl (by first | exact opv_move rfl rfl | exact opv_assign rfl rfl | exact opv_pick_f rfl rfl rfl ) ?_ | refine sl_pass rfl rfl rfl rfl ?_)
              | (refine gk 1 rfl ?_; first | refine sl_op rfl rfl rfl (by first | exact opv_add64 rfl rfl rfl (by omega) (by omega) ) ?_ )
              | (refine gk 2 rfl ?_; first | refine sl_pass rfl rfl rfl rfl ?_ | refine sl_no rfl rfl rfl (by first | exact opv_lss rfl rfl rfl | exact opv_eql rfl rfl rfl ) (by first | omega ) ?_ )
              | (refine gk 3 rfl ?_; first | refine sl_op rfl rfl rfl (by first | exact opv_load rfl (by exact rfl) rfl (by exact rfl) | exact opv_fieldAddr rfl rfl | exact opv_loadA rfl (by exact rfl) rfl (by exact rfl) (by exact rfl) ) ?_ )
              | (refine gk 4 rfl ?_; first | refine sl_op rfl rfl rfl (by first | exact opv_len rfl rfl rfl rfl rfl ) ?_ | refine sl_appendG rfl rfl rfl rfl rfl rfl rfl rfl rfl (by assumption) (by first | rfl ) (by decide) (by first | rfl ) (by omega) (by omega) (fun h' b' c' os' hb' => ?_))
              | (refine gk 5 rfl ?_; first | refine sl_buildSlice rfl rfl rfl rfl rfl (by exact rfl) (by exact rfl) (by exact rfl) (by exact rfl) rfl (fun b => ?_) | refine sl_store rfl rfl rfl rfl rfl rfl (by exact rfl) rfl (by exact rfl) ?_)
              | refine sl_region rfl ?_
              | refine sl_nil ?_
              | refine thn_k ?_
              | refine swp_false rfl ?_
              | refine swp_exit ?_
              | refine swp_skip ?_
              )
            intro hd
            obtain ⟨d1, d2, d3⟩ := disj3 (h := hp) (g := h3) (k := K2) hd
            refine ⟨rfl, ⟨i + 1, h', b', c', join hp (join h3 K2), _⟩, next_join3 (h := hp) (g := h3) (k := K2) (by repeat first | exact Sub.nil _ | refine Sub.cons rfl ?_), ⟨by dsimp only; omega, os', ?_⟩, by dsimp only; omega⟩
            dsimp only
            rw [List.range_succ, List.map_append, List.map_singleton, hnear]
            have l1 : hle (join h3 K2) (join hp (join h3 K2)) := join_right (disj_join_mk d1 d2)
            refine (hP2.mono ((join_right d3).trans l1)).snocN (m := nearM j i m) hlp ?_ (by show md m.st 33 = _; rw [e2]) hcl (osp.sl.mono join_left) (by omega) (os3.sl.mono (join_left.trans l1)) os3.hle (by omega)
            show ((parN j i m).length : Int) + md m.lo (17 - (parN j i m).length) = _
            rw [hlp, e1]
    · obtain rfl : i = nm := by omega
      repeat' (first
        | refine sl_op rfl rfl rfl ((opv_min rfl rfl rfl rfl rfl).to (congrArg (Value.int .i64) hr4)) ?_
        | refine sl_op rfl rfl rfl ((opv_max rfl rfl rfl rfl rfl).to (congrArg (Value.int .i64) hnm)) ?_
        | refine swp_seq ?_
        | (refine gk 0 rfl ?_; first | refine sl_op rfl rfl rfl (by first | exact opv_move rfl rfl ) ?_ )
        | (refine gk 2 rfl ?_; first | refine sl_no rfl rfl rfl (by first | exact opv_lss rfl rfl rfl ) (by first | omega ) ?_ )
        | (refine gk 3 rfl ?_; first | refine sl_op rfl rfl rfl (by first | exact opv_load rfl (by exact rfl) rfl (by exact rfl) | exact opv_fieldAddr rfl rfl | exact opv_loadA rfl (by exact rfl) rfl (by exact rfl) (by exact rfl) ) ?_ )
        | (refine gk 4 rfl ?_; first | refine sl_op rfl rfl rfl (by first | exact opv_len rfl rfl rfl rfl rfl ) ?_)
        | (refine gk 5 rfl ?_; first | refine sl_store rfl rfl rfl rfl rfl rfl (by exact rfl) rfl (by exact rfl) ?_)
        | refine sl_region rfl ?_
        | refine sl_nil ?_
        | refine thn_k ?_
        | refine swp_false rfl ?_
        | refine swp_ret ?_
        | refine swp_exit ?_
        )
      exact end_retZ [K, h, K2, h2, J] (resOk_one (resV_cellA rfl rfl rfl rfl)) ⟨K, h, K2, h2, b, c, b2, c2, vals, vm, rfl, os, hP, os2, hP2, rfl⟩
theorem near_calls (J : Heap) (x : Im) (v : Value) (hx : ImIn J x v) :
    SL.T Tryd.prog 7 [v] [J] fun e o => ∃ (L : Heap) (w : Value), e = .returned w ∧ ImIn L (nearI x) w ∧ o = [J, L] := by
  refine T.permH (T_joinP (R := fun e A N => A = [J] ∧ ∃ K hC K2 hM clb cc mb mc cv mv, e = .returned (.agg ⟨[.slice clb (nearC x) cc, .slice mb (nearN x) mc]⟩) ∧ OS hC clb (nearC x) cc 53 1 cv ∧ ClsP K ((x.cls.take 5).map (kF 4 (nearC x))) cv ∧ OS hM mb (nearN x) mc 56 4 mv ∧ MsP K2 ((List.range (nearN x)).map (nearMs x)) mv ∧ N = [K, hC, K2, hM]) (T.mono (near_pre J x v hx) ?_)) ?_
  · rintro e o ⟨K, hC, K2, hM, clb, cc, mb, mc, cv, mv, h1, h2, h3, h4, h5, rfl⟩
    exact ⟨[J], [K, hC, K2, hM], by simp, rfl, K, hC, K2, hM, clb, cc, mb, mc, cv, mv, h1, h2, h3, h4, h5, rfl⟩
  · rintro e o ⟨A, N, L, rfl, hL, rfl, K, hC, K2, hM, clb, cc, mb, mc, cv, mv, rfl, h2, h3, h4, h5, rfl⟩
    have hn1 : nearC x ≤ 5 := by unfold nearC; omega
    have hn2 : nearN x ≤ 4 := by unfold nearN; omega
    refine ⟨[J, L], List.Perm.swap _ _ _, L, _, rfl, ⟨clb, nearC x, cc, mb, nearN x, mc, rfl, ⟨cv, h2.sl.mono (hL hC (by simp)), by have := h2.hlen; omega, by simp [nearI, nearC]; omega, by omega, fun i f hf => ?_⟩, ⟨mv, h4.sl.mono (hL hM (by simp)), h4.hlen, by simp [nearI], by omega, fun i m hm => ?_⟩, h2.hle, h4.hle⟩, rfl⟩
    · obtain ⟨fb, fn, fc, g1, g2, g3, g4⟩ := h3.2 i f hf
      exact ⟨fb, fn, fc, g1, g2.mono (hL K (by simp)), g3, by omega⟩
    · obtain ⟨pb, pc, cb, cc', g1, g2, g3, g4, g5, g6, g7, g8, g9⟩ := h5.2 i m hm
      exact ⟨pb, _, pc, cb, _, cc', g1, g2, g3, g4, g5.mono (hL K2 (by simp)), rfl, by omega, g7.mono (hL K2 (by simp)), rfl, g8, by omega⟩
end Go.Proofs.YtjdjkcebflablaaDoor
