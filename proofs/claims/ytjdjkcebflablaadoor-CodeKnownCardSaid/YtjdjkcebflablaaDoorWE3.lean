/- The bytes of an image, as the program lays them, walked. -/
import Derived.Test.YtjdjkcebflablaaDoorWE2
set_option linter.unusedVariables false
set_option linter.unusedSimpArgs false
set_option linter.unusedSectionVars false
namespace Go.Proofs.YtjdjkcebflablaaDoor
open Go.SL
set_option maxRecDepth 100000
set_option maxHeartbeats 16000000
attribute [local irreducible] SL.T PFn OpV SOL SWP HOp ChU
-- ALIAS Tryd
-- USE_L4
-- USE_L1
def iB (y : Ins) : List UInt8 := leB (w64 y.op) 1 ++ (leB (w64 y.a) 8 ++ leB (w64 y.b) 8)
def mB (m : Me) : List UInt8 := kB m.params ++ (leB (w64 m.lo) 1 ++ (leB (w64 m.st) 1 ++ (leB (w64 m.code.length) 2 ++ (m.code.map iB).flatten)))
def imB (x : Im) : List UInt8 := [68, 75, 1] ++ (leB (w64 x.cls.length) 1 ++ ((x.cls.map kB).flatten ++ (leB (w64 x.ms.length) 1 ++ (x.ms.map mB).flatten)))
theorem iB_length (y : Ins) : (iB y).length = 17 := by simp [iB, leB_length]
theorem kB_length (l : List Int) : (kB l).length = 1 + l.length := by
  have : ∀ l : List Int, (l.map fun k => leB (w64 k) 1).flatten.length = l.length := by
    intro l; induction l with
    | nil => rfl
    | cons a l ih => simp [leB_length] at ih ⊢; omega
  simp [kB, leB_length, this]
theorem codeB_length : ∀ l : List Ins, (l.map iB).flatten.length = l.length * 17
  | [] => rfl
  | y :: l => by simp [iB_length, codeB_length l]; omega
/-- What may be laid is small. -/
structure Small (x : Im) : Prop where
  cls : x.cls.length ≤ 16
  cl : ∀ f ∈ x.cls, f.length ≤ 8
  ms1 : 1 ≤ x.ms.length
  ms : x.ms.length ≤ 32
  me : ∀ m ∈ x.ms, m.params.length ≤ 16 ∧ 1 ≤ m.code.length ∧ m.code.length ≤ 256
theorem small_of {x : Im} (h : mayF x = true) : Small x := by
  unfold mayF at h
  simp only [Bool.and_eq_true, decide_eq_true_eq, Bool.not_eq_true'] at h
  obtain ⟨h1, h2, h3, h4, h5⟩ := h
  unfold wi at h2
  simp only [decide_eq_true_eq] at h2
  refine ⟨by omega, fun f hf => ?_, by omega, by omega, fun m hm => ?_⟩
  · have := List.any_eq_false.1 h4 f hf
    simp [clno, rightF] at this
    omega
  · have := List.any_eq_false.1 h5 m hm
    simp [meno, methodF, rightF, wi] at this
    omega
theorem Small.clsB {x : Im} (h : Small x) : ∀ j, ((x.cls.take j).map kB).flatten.length ≤ j * 9 := by
  have : ∀ l : List (List Int), (∀ f ∈ l, f.length ≤ 8) → (l.map kB).flatten.length ≤ l.length * 9 := by
    intro l
    induction l with
    | nil => intro _; simp
    | cons a l ih =>
      intro hl
      have := ih fun f hf => hl f (List.mem_cons_of_mem _ hf)
      have := hl a (List.mem_cons_self ..)
      simp [kB_length] at *
      omega
  intro j
  have h1 := this (x.cls.take j) fun f hf => h.cl f (List.mem_of_mem_take hf)
  have : (x.cls.take j).length * 9 ≤ j * 9 := Nat.mul_le_mul_right _ (by simp; omega)
  omega
theorem Small.msB {x : Im} (h : Small x) : ∀ j, ((x.ms.take j).map mB).flatten.length ≤ j * 5000 := by
  have : ∀ l : List Me, (∀ m ∈ l, m.params.length ≤ 16 ∧ 1 ≤ m.code.length ∧ m.code.length ≤ 256) → (l.map mB).flatten.length ≤ l.length * 5000 := by
    intro l
    induction l with
    | nil => intro _; simp
    | cons a l ih =>
      intro hl
      have := ih fun f hf => hl f (List.mem_cons_of_mem _ hf)
      obtain ⟨q1, q2, q3⟩ := hl a (List.mem_cons_self ..)
      have := codeB_length a.code
      simp [kB_length, mB, leB_length] at *
      omega
  intro j
  have h1 := this (x.ms.take j) fun f hf => h.me f (List.mem_of_mem_take hf)
  have : (x.ms.take j).length * 5000 ≤ j * 5000 := Nat.mul_le_mul_right _ (by simp; omega)
  omega
structure SQ where
  j : Nat
  len : Nat
  h : Heap
  b : Option Addr
  c : Nat
theorem Encode_calls (J : Heap) (x : Im) (v : Value) (h : ImIn J x v) : PFn Tryd.prog 8 [v] [J] (if mayF x then .tuple ⟨[str (imB x), i64 0]⟩ else .tuple ⟨[str [], i64 12]⟩) := by
  have hmay := may_calls J x v h
  obtain ⟨clb, cln, clc, mb, mn, mc, rfl, hc, hm, -, -⟩ := h
  cases hb : mayF x with
  | false =>
    rw [hb] at hmay
    refine pure_of_body Tryd.func8 rfl (Nat.le_of_ble_eq_true rfl) fun F => ?_
    repeat' (first
      | refine swp_seq ?_
      | (refine gk 0 rfl ?_; first | refine sl_op rfl rfl rfl (by first | exact opv_assign rfl rfl | exact opv_not_f rfl rfl ) ?_ )
      | (refine gk 3 rfl ?_; first | refine sl_op rfl rfl rfl (by first | exact opv_loadA rfl (by exact rfl) rfl (by exact rfl) (by exact rfl) ) ?_ )
      | (refine gk 4 rfl ?_; first | refine sl_op rfl rfl rfl (opv_call rfl rfl rfl rfl rfl (hmay)) ?_)
      | (refine gk 5 rfl ?_; first | refine sl_box rfl rfl rfl rfl rfl rfl (fun β => ?_) )
      | refine sl_region rfl ?_
      | refine sl_nil ?_
      | refine thn_k ?_
      | refine swp_true rfl ?_
      | refine swp_ret ?_
      | refine thn_ret ?_
      )
    refine end_pure (resOk_two (resV_tmp rfl) (resV_tmp rfl)) ?_
    rfl
  | true =>
    rw [hb] at hmay
    have sm := small_of hb
    obtain ⟨cv, sc, hcvl, hcl, hcsm, hcf⟩ := hc
    obtain ⟨mv, smv, hmvl, hml, hmsm, hmf⟩ := hm
    haveI := sc
    haveI := smv
    refine pure_of_body Tryd.func8 rfl (Nat.le_of_ble_eq_true rfl) fun F => ?_
    repeat' ((fail_if_success (refine stop_at2 4 ?_)); (first
      | refine sl_buildMark rfl rfl rfl rfl rfl (by exact rfl) (by exact rfl) (by exact rfl) (by exact rfl) rfl rfl rfl rfl rfl (fun bM => ?_)
      | refine swp_seq ?_
      | (refine gk 0 rfl ?_; first | refine sl_op rfl rfl rfl (by first | exact opv_assign rfl rfl | exact opv_not_t rfl rfl ) ?_ )
      | (refine gk 3 rfl ?_; first | refine sl_op rfl rfl rfl (by first | exact opv_loadA rfl (by exact rfl) rfl (by exact rfl) (by exact rfl) ) ?_ )
      | (refine gk 4 rfl ?_; first | refine sl_op rfl rfl rfl (opv_call rfl rfl rfl rfl rfl (hmay)) ?_)
      | (refine gk 5 rfl ?_; first | refine sl_op rfl rfl rfl (by first | exact opv_build rfl rfl (by exact rfl) ) ?_ | refine sl_box rfl rfl rfl rfl rfl rfl (fun β => ?_) )
      | refine sl_region rfl ?_
      | refine sl_nil ?_
      | refine thn_k ?_
      | refine swp_false rfl ?_
      | refine swp_skip ?_
      ))
    rename_i βx
    revert β
    intro βw
    have sl0 : Sl (blk bM (.cells ⟨[.int .u8 68, .int .u8 75, .int .u8 1]⟩ 5 (3, 4))) (some ⟨bM, 0, none⟩) (u8s [68, 75, 1]) := Sl.blk
    have lb0 : LB (blk bM (.cells ⟨[.int .u8 68, .int .u8 75, .int .u8 1]⟩ 5 (3, 4))) (some ⟨bM, 0, none⟩) 3 3 5 1 (u8s [68, 75, 1]) := .full sl0 rfl rfl (by decide)
    have hp := put_calls βw cln 1 lb0 (by decide) (by decide)
    repeat' (first
      | refine swp_seq ?_
      | (refine gk 0 rfl ?_; first | refine sl_op rfl rfl rfl (by first | exact opv_move rfl rfl ) ?_ )
      | (refine gk 3 rfl ?_; first | refine sl_op rfl rfl rfl (by first | exact opv_load rfl (by exact rfl) rfl (by exact rfl) | exact opv_fieldAddr rfl rfl ) ?_ )
      | (refine gk 4 rfl ?_; first | refine sl_op rfl rfl rfl (by first | exact opv_len rfl rfl rfl rfl rfl ) ?_ | (refine sl_callT rfl rfl rfl rfl rfl rfl rfl rfl (hp) ?_; rintro _ _ ⟨h1, b1, c1, rfl, rfl, lb1⟩; refine ⟨_, _, rfl, rfl, ?_⟩))
      | refine sl_region rfl ?_
      | refine sl_nil ?_
      | refine thn_k ?_
      | refine swp_block ?_
      )
    clear hp sl0 lb0
    refine swp_loopS (fun s : SQ => [(1, ptr βx), (4, ptr βw), (24, .slice clb cln clc), (25, i64 (cln : Int)), (26, i64 (s.j : Int))])
      (fun s => [J, blk βx (.cells ⟨[.slice clb cln clc, .slice mb mn mc]⟩ 25 (0, 0)), blk βw (.cells ⟨[.slice s.b s.len s.c]⟩ 65 (0, 0)), s.h])
      (fun s => s.j ≤ cln ∧ LB s.h s.b s.len s.c 5 1 (u8s ([68, 75, 1] ++ (leB (w64 cln) 1 ++ ((x.cls.take s.j).map kB).flatten))))
      (fun s => cln - s.j) ⟨0, 4, h1, b1, c1⟩ (by repeat first | exact Sub.nil _ | refine Sub.cons rfl ?_) ⟨Nat.zero_le _, by simpa using lb1⟩ ?_
    clear lb1 h1 b1 c1
    rintro ⟨j, len, h, b, cap⟩ ⟨hj, lb⟩
    dsimp only at hj lb ⊢
    have hll := lb.hlen
    have hjb := sm.clsB j
    have hc16 := sm.cls
    have hlen : len ≤ 1000 := by
      simp only [u8s_length, List.length_append, leB_length, List.length_cons, List.length_nil] at hll; omega
    clear hll hjb
    by_cases hj2 : j < cln
    · obtain ⟨f, hf⟩ : ∃ z, x.cls[j]? = some z := ⟨_, List.getElem?_eq_getElem (by omega)⟩
      obtain ⟨fb, fn, fc, g1, g2, g3, g4⟩ := hcf j f hf
      haveI := g2
      have hfl := sm.cl f (List.mem_of_getElem? hf)
      have hk : ((j : Nat) : Int).toNat * 1 < cv.length := by simp; omega
      have hcx : cv[((j : Nat) : Int).toNat * 1]? = some (.slice fb fn fc) := by simpa using g1
      have hp := kinds_calls J βw fb fn fc f g3 (by omega) lb (by omega)
      repeat' (first
        | refine swp_seq ?_
        | (refine gk 0 rfl ?_; first | refine sl_op rfl rfl rfl (by first | exact opv_move rfl rfl ) ?_ )
        | (refine gk 1 rfl ?_; first | refine sl_op rfl rfl rfl (by first | exact opv_add64 rfl rfl rfl (by omega) (by omega) ) ?_ )
        | (refine gk 2 rfl ?_; first | refine sl_yes rfl rfl rfl (by first | exact opv_lss rfl rfl rfl ) (by first | omega ) ?_ )
        | (refine gk 3 rfl ?_; first | refine sl_op rfl rfl rfl (by first | exact opv_load rfl (by exact rfl) rfl (by exact rfl) | exact opv_fieldAddr rfl rfl | exact opv_indexAddrI rfl rfl rfl (by omega) (by omega) (by first | omega ) | exact opv_load1 rfl (by exact rfl) (by infer_instance) (by assumption)) ?_ )
        | (refine gk 4 rfl ?_; first | (refine sl_callT rfl rfl rfl rfl rfl rfl rfl rfl (hp) ?_; rintro _ _ ⟨h1, b1, c1, rfl, rfl, lb1⟩; refine ⟨_, _, rfl, rfl, ?_⟩))
        | (refine gk 5 rfl ?_; first | refine sl_alloc rfl rfl rfl rfl (by exact rfl) (fun β => ?_) | refine sl_store rfl rfl rfl rfl rfl rfl (by exact rfl) rfl (by exact rfl) ?_)
        | refine sl_region rfl ?_
        | refine sl_nil ?_
        | refine thn_k ?_
        | refine swp_true rfl ?_
        | refine swp_block ?_
        | refine swp_skip ?_
        )
      refine ⟨rfl, ⟨j + 1, len + (1 + fn), h1, b1, c1⟩, next_ok (by repeat first | exact Sub.nil _ | refine Sub.cons rfl ?_), ⟨by dsimp only; omega, ?_⟩, by dsimp only; omega⟩
      dsimp only
      rw [flatten_take_succ _ hf]
      simpa only [List.append_assoc] using lb1
    · have e : j = cln := by omega
      subst e
      rw [List.take_of_length_le (by omega)] at lb
      obtain ⟨pre, hpre, hpl⟩ : ∃ pre : List UInt8, [68, 75, 1] ++ (leB (w64 (j : Int)) 1 ++ (x.cls.map kB).flatten) = pre ∧ pre.length ≤ 1000 := ⟨_, rfl, by have := lb.hlen; simp only [u8s_length] at this; omega⟩
      rw [hpre] at lb
      have hp := put_calls βw mn 1 lb (by omega) (by omega)
      have hm32 := sm.ms
      repeat' (first
        | refine swp_seq ?_
        | (refine gk 0 rfl ?_; first | refine sl_op rfl rfl rfl (by first | exact opv_move rfl rfl ) ?_ )
        | (refine gk 2 rfl ?_; first | refine sl_no rfl rfl rfl (by first | exact opv_lss rfl rfl rfl ) (by first | omega ) ?_ )
        | (refine gk 3 rfl ?_; first | refine sl_op rfl rfl rfl (by first | exact opv_load rfl (by exact rfl) rfl (by exact rfl) | exact opv_fieldAddr rfl rfl ) ?_ )
        | (refine gk 4 rfl ?_; first | refine sl_op rfl rfl rfl (by first | exact opv_len rfl rfl rfl rfl rfl ) ?_ | (refine sl_callT rfl rfl rfl rfl rfl rfl rfl rfl (hp) ?_; rintro _ _ ⟨h1, b1, c1, rfl, rfl, lb1⟩; refine ⟨_, _, rfl, rfl, ?_⟩))
        | refine sl_region rfl ?_
        | refine sl_nil ?_
        | refine thn_k ?_
        | refine swp_false rfl ?_
        | refine swp_block ?_
        | refine swp_exit ?_
        )
      clear hp lb h b cap
      refine swp_loopS (fun s : SQ => [(4, ptr βw), (41, .slice mb mn mc), (42, i64 (mn : Int)), (43, i64 (s.j : Int))])
        (fun s => [J, blk βw (.cells ⟨[.slice s.b s.len s.c]⟩ 65 (0, 0)), s.h])
        (fun s => s.j ≤ mn ∧ LB s.h s.b s.len s.c 5 1 (u8s (pre ++ (leB (w64 mn) 1 ++ ((x.ms.take s.j).map mB).flatten))))
        (fun s => mn - s.j) ⟨0, len + 1, h1, b1, c1⟩ (by repeat first | exact Sub.nil _ | refine Sub.cons rfl ?_) ⟨Nat.zero_le _, by simpa using lb1⟩ ?_
      clear lb1 h1 b1 c1 hlen len
      rintro ⟨i, len, h, b, cap⟩ ⟨hi, lb⟩
      dsimp only at hi lb ⊢
      have hll := lb.hlen
      have hjb := sm.msB i
      have hlen : len ≤ 200000 := by
        simp only [u8s_length, List.length_append, leB_length] at hll; omega
      clear hll hjb
      by_cases hi2 : i < mn
      · obtain ⟨m, hm⟩ : ∃ z, x.ms[i]? = some z := ⟨_, List.getElem?_eq_getElem (by omega)⟩
        obtain ⟨pb, pn, pc, cb, cn, cc, g1, g2, g3, g4, g5, g6, g7, g8, g9, g10, g11⟩ := hmf i m hm
        haveI := g5
        haveI := g8
        obtain ⟨q1, q2, q3⟩ := sm.me m (List.mem_of_getElem? hm)
        have hk : ((i : Nat) : Int).toNat * 4 < mv.length := by simp; omega
        have hc0 : mv[((i : Nat) : Int).toNat * 4]? = some (.slice pb pn pc) := by simpa using g1
        have hc1 : mv[((i : Nat) : Int).toNat * 4 + 1]? = some (i64 m.lo) := by simpa using g2
        have hc2 : mv[((i : Nat) : Int).toNat * 4 + 2]? = some (i64 m.st) := by simpa using g3
        have hc3 : mv[((i : Nat) : Int).toNat * 4 + 3]? = some (.slice cb cn cc) := by simpa using g4
        obtain ⟨pre2, hpre2⟩ : ∃ pre2 : List UInt8, pre ++ (leB (w64 mn) 1 ++ ((x.ms.take i).map mB).flatten) = pre2 := ⟨_, rfl⟩
        rw [hpre2] at lb
        have hfc := flatI_length m.code
        have hp := kinds_calls J βw pb pn pc m.params g6 (by omega) lb (by omega)
        repeat' ((fail_if_success (refine stop_at2 15 ?_)); (first
          | refine swp_seq ?_
          | (refine gk 0 rfl ?_; first | refine sl_op rfl rfl rfl (by first | exact opv_move rfl rfl ) ?_ )
          | (refine gk 2 rfl ?_; first | refine sl_yes rfl rfl rfl (by first | exact opv_lss rfl rfl rfl ) (by first | omega ) ?_ )
          | (refine gk 3 rfl ?_; first | refine sl_op rfl rfl rfl (by first | exact opv_load rfl (by exact rfl) rfl (by exact rfl) | exact opv_fieldAddr rfl rfl | exact opv_indexAddrI rfl rfl rfl (by omega) (by omega) (by first | omega ) | exact opv_load4 rfl (by exact rfl) (by infer_instance) (by assumption) (by assumption) (by assumption) (by assumption) ) ?_ )
          | (refine gk 4 rfl ?_; first | (refine sl_callT rfl rfl rfl rfl rfl rfl rfl rfl (hp) ?_; rintro _ _ ⟨h1, b1, c1, rfl, rfl, lb1⟩; refine ⟨_, _, rfl, rfl, ?_⟩))
          | (refine gk 5 rfl ?_; first | refine sl_alloc rfl rfl rfl rfl (by exact rfl) (fun β => ?_) | refine sl_store rfl rfl rfl rfl rfl rfl (by exact rfl) rfl (by exact rfl) ?_)
          | refine sl_region rfl ?_
          | refine sl_nil ?_
          | refine swp_true rfl ?_
          | refine swp_block ?_
          | refine swp_skip ?_
          ))
        clear hp lb h b cap
        have hp := put_calls βw m.lo 1 lb1 (by omega) (by omega)
        repeat' ((fail_if_success (refine stop_at2 16 ?_)); (first
          | refine swp_seq ?_
          | (refine gk 0 rfl ?_; first | refine sl_op rfl rfl rfl (by first | exact opv_move rfl rfl ) ?_ )
          | (refine gk 3 rfl ?_; first | refine sl_op rfl rfl rfl (by first | exact opv_load rfl (by exact rfl) rfl (by exact rfl) | exact opv_fieldAddr rfl rfl ) ?_ )
          | (refine gk 4 rfl ?_; first | (refine sl_callT rfl rfl rfl rfl rfl rfl rfl rfl (hp) ?_; rintro _ _ ⟨h2, b2, c2, rfl, rfl, lb2⟩; refine ⟨_, _, rfl, rfl, ?_⟩))
          | refine sl_region rfl ?_
          | refine sl_nil ?_
          ))
        clear hp lb1 h1 b1 c1
        have hp := put_calls βw m.st 1 lb2 (by omega) (by omega)
        repeat' ((fail_if_success (refine stop_at2 17 ?_)); (first
          | refine swp_seq ?_
          | (refine gk 0 rfl ?_; first | refine sl_op rfl rfl rfl (by first | exact opv_move rfl rfl ) ?_ )
          | (refine gk 3 rfl ?_; first | refine sl_op rfl rfl rfl (by first | exact opv_load rfl (by exact rfl) rfl (by exact rfl) | exact opv_fieldAddr rfl rfl ) ?_ )
          | (refine gk 4 rfl ?_; first | (refine sl_callT rfl rfl rfl rfl rfl rfl rfl rfl (hp) ?_; rintro _ _ ⟨h1, b1, c1, rfl, rfl, lb1⟩; refine ⟨_, _, rfl, rfl, ?_⟩))
          | refine sl_region rfl ?_
          | refine sl_nil ?_
          ))
        clear hp lb2 h2 b2 c2
        have hp := put_calls βw cn 2 lb1 (by omega) (by omega)
        repeat' (first
          | refine swp_seq ?_
          | (refine gk 0 rfl ?_; first | refine sl_op rfl rfl rfl (by first | exact opv_move rfl rfl ) ?_ )
          | (refine gk 3 rfl ?_; first | refine sl_op rfl rfl rfl (by first | exact opv_load rfl (by exact rfl) rfl (by exact rfl) | exact opv_fieldAddr rfl rfl ) ?_ )
          | (refine gk 4 rfl ?_; first | refine sl_op rfl rfl rfl (by first | exact opv_len rfl rfl rfl rfl rfl ) ?_ | (refine sl_callT rfl rfl rfl rfl rfl rfl rfl rfl (hp) ?_; rintro _ _ ⟨h2, b2, c2, rfl, rfl, lb2⟩; refine ⟨_, _, rfl, rfl, ?_⟩))
          | refine sl_region rfl ?_
          | refine sl_nil ?_
          | refine thn_k ?_
          | refine swp_block ?_
          )
        clear hp lb1 h1 b1 c1
        refine swp_loopS (fun s : SQ => [(4, ptr βw), (41, .slice mb mn mc), (42, i64 (mn : Int)), (43, i64 (i : Int)), (65, .slice cb cn cc), (66, i64 (cn : Int)), (67, i64 (s.j : Int))])
          (fun s => [J, blk βw (.cells ⟨[.slice s.b s.len s.c]⟩ 65 (0, 0)), s.h])
          (fun s => s.j ≤ cn ∧ s.len ≤ 200100 + 17 * s.j ∧ LB s.h s.b s.len s.c 5 1 (u8s (pre2 ++ (kB m.params ++ (leB (w64 m.lo) 1 ++ (leB (w64 m.st) 1 ++ (leB (w64 cn) 2 ++ ((m.code.take s.j).map iB).flatten)))))))
          (fun s => cn - s.j) ⟨0, len + (1 + pn) + 1 + 1 + 2, h2, b2, c2⟩ (by repeat first | exact Sub.nil _ | refine Sub.cons rfl ?_) ⟨Nat.zero_le _, by dsimp only; omega, by simpa [List.append_assoc] using lb2⟩ ?_
        clear lb2 h2 b2 c2 hlen len
        rintro ⟨k, len, h, b, cap⟩ ⟨hkc, hlen, lb⟩
        dsimp only at hkc hlen lb ⊢
        by_cases hkc2 : k < cn
        · obtain ⟨y, hy⟩ : ∃ z, m.code[k]? = some z := ⟨_, List.getElem?_eq_getElem (by omega)⟩
          obtain ⟨w0, w1, w2⟩ := flatI_at hy
          have hk2 : ((k : Nat) : Int).toNat * 3 < (flatI m.code).length := by simp; omega
          have hw0 : (flatI m.code)[((k : Nat) : Int).toNat * 3]? = some (i64 y.op) := by simpa using w0
          have hw1 : (flatI m.code)[((k : Nat) : Int).toNat * 3 + 1]? = some (i64 y.a) := by simpa using w1
          have hw2 : (flatI m.code)[((k : Nat) : Int).toNat * 3 + 2]? = some (i64 y.b) := by simpa using w2
          have hp := put_calls βw y.op 1 lb (by omega) (by omega)
          repeat' ((fail_if_success (refine stop_at2 22 ?_)); (first
            | refine swp_seq ?_
            | (refine gk 0 rfl ?_; first | refine sl_op rfl rfl rfl (by first | exact opv_move rfl rfl ) ?_ )
            | (refine gk 2 rfl ?_; first | refine sl_yes rfl rfl rfl (by first | exact opv_lss rfl rfl rfl ) (by first | omega ) ?_ )
            | (refine gk 3 rfl ?_; first | refine sl_op rfl rfl rfl (by first | exact opv_load rfl (by exact rfl) rfl (by exact rfl) | exact opv_fieldAddr rfl rfl | exact opv_indexAddrI rfl rfl rfl (by omega) (by omega) (by first | omega ) | exact opv_load3 rfl (by exact rfl) (by infer_instance) (by assumption) (by assumption) (by assumption) ) ?_ )
            | (refine gk 4 rfl ?_; first | (refine sl_callT rfl rfl rfl rfl rfl rfl rfl rfl (hp) ?_; rintro _ _ ⟨h1, b1, c1, rfl, rfl, lb1⟩; refine ⟨_, _, rfl, rfl, ?_⟩))
            | (refine gk 5 rfl ?_; first | refine sl_alloc rfl rfl rfl rfl (by exact rfl) (fun β => ?_) | refine sl_store rfl rfl rfl rfl rfl rfl (by exact rfl) rfl (by exact rfl) ?_)
            | refine sl_region rfl ?_
            | refine sl_nil ?_
            | refine swp_true rfl ?_
            | refine swp_block ?_
            | refine swp_skip ?_
            ))
          clear hp lb h b cap
          have hp := put_calls βw y.a 8 lb1 (by omega) (by omega)
          repeat' ((fail_if_success (refine stop_at2 23 ?_)); (first
            | refine swp_seq ?_
            | (refine gk 0 rfl ?_; first | refine sl_op rfl rfl rfl (by first | exact opv_move rfl rfl ) ?_ )
            | (refine gk 3 rfl ?_; first | refine sl_op rfl rfl rfl (by first | exact opv_load rfl (by exact rfl) rfl (by exact rfl) | exact opv_fieldAddr rfl rfl ) ?_ )
            | (refine gk 4 rfl ?_; first | (refine sl_callT rfl rfl rfl rfl rfl rfl rfl rfl (hp) ?_; rintro _ _ ⟨h2, b2, c2, rfl, rfl, lb2⟩; refine ⟨_, _, rfl, rfl, ?_⟩))
            | refine sl_region rfl ?_
            | refine sl_nil ?_
            ))
          clear hp lb1 h1 b1 c1
          have hp := put_calls βw y.b 8 lb2 (by omega) (by omega)
          repeat' (first
            | (refine gk 0 rfl ?_; first | refine sl_op rfl rfl rfl (by first | exact opv_move rfl rfl ) ?_ )
            | (refine gk 1 rfl ?_; first | refine sl_op rfl rfl rfl (by first | exact opv_add64 rfl rfl rfl (by omega) (by omega) ) ?_ )
            | (refine gk 4 rfl ?_; first | (refine sl_callT rfl rfl rfl rfl rfl rfl rfl rfl (hp) ?_; rintro _ _ ⟨h1, b1, c1, rfl, rfl, lb1⟩; refine ⟨_, _, rfl, rfl, ?_⟩))
            | refine sl_region rfl ?_
            | refine sl_nil ?_
            | refine thn_k ?_
            )
          clear hp lb2 h2 b2 c2
          refine ⟨rfl, ⟨k + 1, len + 1 + 8 + 8, h1, b1, c1⟩, next_ok (by repeat first | exact Sub.nil _ | refine Sub.cons rfl ?_), ⟨by dsimp only; omega, by dsimp only; omega, ?_⟩, by dsimp only; omega⟩
          dsimp only
          rw [flatten_take_succ _ hy, iB]
          simpa only [List.append_assoc] using lb1
        · rw [List.take_of_length_le (by omega)] at lb
          repeat' (first
            | refine swp_seq ?_
            | (refine gk 0 rfl ?_; first | refine sl_op rfl rfl rfl (by first | exact opv_move rfl rfl ) ?_ )
            | (refine gk 1 rfl ?_; first | refine sl_op rfl rfl rfl (by first | exact opv_add64 rfl rfl rfl (by omega) (by omega) ) ?_ )
            | (refine gk 2 rfl ?_; first | refine sl_no rfl rfl rfl (by first | exact opv_lss rfl rfl rfl ) (by first | omega ) ?_ )
            | refine sl_region rfl ?_
            | refine sl_nil ?_
            | refine thn_k ?_
            | refine swp_false rfl ?_
            | refine swp_exit ?_
            )
          refine ⟨rfl, ⟨i + 1, len, h, b, cap⟩, next_ok (by repeat first | exact Sub.nil _ | refine Sub.cons rfl ?_), ⟨by dsimp only; omega, ?_⟩, by dsimp only; omega⟩
          dsimp only
          rw [flatten_take_succ _ hm, ← List.append_assoc, ← List.append_assoc, List.append_assoc pre, hpre2, mB, g9]
          exact lb
      · rw [List.take_of_length_le (by omega)] at lb
        have slB := lb.sl
        have hlB : (pre ++ (leB (w64 mn) 1 ++ (x.ms.map mB).flatten)).length = len := by have := lb.hlen; simpa using this
        repeat' (first
          | refine sl_op rfl rfl rfl (opv_toStr (e := 5) rfl rfl (by infer_instance) hlB) ?_
          | refine swp_seq ?_
          | (refine gk 0 rfl ?_; first | refine sl_op rfl rfl rfl (by first | exact opv_move rfl rfl | exact opv_assign rfl rfl ) ?_ )
          | (refine gk 2 rfl ?_; first | refine sl_no rfl rfl rfl (by first | exact opv_lss rfl rfl rfl ) (by first | omega ) ?_ )
          | (refine gk 3 rfl ?_; first | refine sl_op rfl rfl rfl (by first | exact opv_load rfl (by exact rfl) rfl (by exact rfl) | exact opv_fieldAddr rfl rfl ) ?_ )
          | (refine gk 5 rfl ?_; first | refine sl_op rfl rfl rfl (by first | exact opv_nilCheck rfl rfl ) ?_ )
          | refine sl_region rfl ?_
          | refine sl_nil ?_
          | refine thn_k ?_
          | refine swp_false rfl ?_
          | refine swp_ret ?_
          | refine swp_exit ?_
          )
        refine end_pure (resOk_two (resV_tmp rfl) (resV_tmp rfl)) ?_
        rw [if_pos rfl, imB, hcl, hml, ← hpre]
        simp [List.append_assoc]
end Go.Proofs.YtjdjkcebflablaaDoor
