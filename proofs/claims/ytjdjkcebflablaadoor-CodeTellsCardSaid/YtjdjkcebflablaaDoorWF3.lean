/- The document's answer: the bytes of an image, walked. -/
import Derived.Test.YtjdjkcebflablaaDoorWF2
set_option linter.unusedVariables false
set_option linter.unusedSimpArgs false
set_option linter.unusedSectionVars false
namespace Go.Proofs.YtjdjkcebflablaaDoor
open Go.SL
set_option maxRecDepth 100000
set_option maxHeartbeats 16000000
attribute [local irreducible] SL.T PFn OpV SOL SWP HOp ChU
-- ALIAS Tryd
-- USE_L4
-- USE_L1
structure SB where
  j : Nat
  s : List UInt8
theorem rEncode_calls (J : Heap) (x : Im) (v : Value) (h : ImIn J x v) : PFn Tryd.prog 9 [v] [J] (if mayF x then .tuple ⟨[str (imB x), i64 0]⟩ else .tuple ⟨[str [], i64 12]⟩) := by
  have hmay := rMay_calls J x v h
  obtain ⟨clb, cln, clc, mb, mn, mc, rfl, hc, hm, -, -⟩ := h
  cases hb : mayF x with
  | false =>
    rw [hb] at hmay
    refine pure_of_body Tryd.func9 rfl (Nat.le_of_ble_eq_true rfl) fun F => ?_
    repeat' (first
      | refine swp_seq ?_
      | (refine gk 0 rfl ?_; first | refine sl_op rfl rfl rfl (by first | exact opv_assign rfl rfl | exact opv_not_f rfl rfl ) ?_ )
      | (refine gk 3 rfl ?_; first | refine sl_op rfl rfl rfl (by first | exact opv_loadA rfl (by exact rfl) rfl (by exact rfl) (by exact rfl) ) ?_ )
      | (refine gk 4 rfl ?_; first | refine sl_op rfl rfl rfl (opv_call rfl rfl rfl rfl rfl (hmay)) ?_)
      | (refine gk 5 rfl ?_; first | refine sl_box rfl rfl rfl rfl rfl rfl (fun β => ?_) )
      | refine sl_region rfl ?_
      | refine sl_nil ?_
      | refine thn_k ?_
      | refine swp_true rfl ?_
      | refine swp_ret ?_
      | refine thn_ret ?_
      )
    refine end_pure (resOk_two (resV_tmp rfl) (resV_tmp rfl)) ?_
    rfl
  | true =>
    rw [hb] at hmay
    have sm := small_of hb
    obtain ⟨cv, sc, hcvl, hcl, hcsm, hcf⟩ := hc
    obtain ⟨mv, smv, hmvl, hml, hmsm, hmf⟩ := hm
    haveI := sc
    haveI := smv
    have hcv : ∀ n, Value.int .u64 (IntKind.u64.wrap n) = .int .u64 (w64 n : Int) := fun n => by rw [w64_eq]
    have hlb := leB_length
    refine pure_of_body Tryd.func9 rfl (Nat.le_of_ble_eq_true rfl) fun F => ?_
    repeat' (first
      | refine sl_op rfl rfl rfl ((opv_convert rfl rfl).to (hcv _)) ?_
      | refine sl_op rfl rfl rfl (opv_addS rfl rfl rfl (by simp only [hlb, List.length_append, List.length_cons, List.length_nil]; omega)) ?_
      | refine swp_seq ?_
      | (refine gk 0 rfl ?_; first | refine sl_op rfl rfl rfl (by first | exact opv_assign rfl rfl | exact opv_not_t rfl rfl ) ?_ )
      | (refine gk 3 rfl ?_; first | refine sl_op rfl rfl rfl (by first | exact opv_load rfl (by exact rfl) rfl (by exact rfl) | exact opv_fieldAddr rfl rfl | exact opv_loadA rfl (by exact rfl) rfl (by exact rfl) (by exact rfl) ) ?_ )
      | (refine gk 4 rfl ?_; first | refine sl_op rfl rfl rfl (by first | exact opv_len rfl rfl rfl rfl rfl ) ?_ | refine sl_op rfl rfl rfl (opv_call rfl rfl rfl rfl rfl (hmay)) ?_ | refine sl_op rfl rfl rfl (opv_call rfl rfl rfl rfl rfl (rput_calls _ 1 (w64_lt _) (by decide))) ?_)
      | (refine gk 5 rfl ?_; first | refine sl_box rfl rfl rfl rfl rfl rfl (fun β => ?_) )
      | refine sl_region rfl ?_
      | refine sl_nil ?_
      | refine thn_k ?_
      | refine swp_false rfl ?_
      | refine swp_block ?_
      | refine swp_skip ?_
      )
    revert β
    intro βx
    clear hmay
    refine swp_loopS (fun s : SB => [(1, ptr βx), (4, str s.s), (5, i64 (s.j : Int))])
      (fun s => [blk βx (.cells ⟨[.slice clb cln clc, .slice mb mn mc]⟩ 25 (0, 0)), J])
      (fun s => s.j ≤ cln ∧ s.s = [68, 75, 1] ++ (leB (w64 cln) 1 ++ ((x.cls.take s.j).map kB).flatten))
      (fun s => cln - s.j) ⟨0, [68, 75, 1] ++ leB (w64 cln) 1⟩ (by repeat first | exact Sub.nil _ | refine Sub.cons rfl ?_) ⟨Nat.zero_le _, by simp⟩ ?_
    rintro ⟨j, s⟩ ⟨hj, hs⟩
    dsimp only at hj hs ⊢
    have hjb := sm.clsB j
    have hc16 := sm.cls
    have hm32 := sm.ms
    have hlen : s.length ≤ 200 := by
      rw [hs]; simp only [List.length_append, hlb, List.length_cons, List.length_nil]; omega
    clear hjb
    by_cases hj2 : j < cln
    · obtain ⟨f, hf⟩ : ∃ z, x.cls[j]? = some z := ⟨_, List.getElem?_eq_getElem (by omega)⟩
      obtain ⟨fb, fn, fc, g1, g2, g3, g4⟩ := hcf j f hf
      haveI := g2
      have hfl := sm.cl f (List.mem_of_getElem? hf)
      have hk : ((j : Nat) : Int).toNat * 1 < cv.length := by simp; omega
      have hcx : cv[((j : Nat) : Int).toNat * 1]? = some (.slice fb fn fc) := by simpa using g1
      have hcx0 : cv[((j : Nat) : Int).toNat * 1 + 0]? = some (.slice fb fn fc) := by simpa using g1
      repeat' (first
        | refine sl_op rfl rfl rfl ((opv_convert rfl rfl).to (hcv _)) ?_
        | refine sl_op rfl rfl rfl (opv_addS rfl rfl rfl (by simp only [hlb, List.length_append, List.length_cons, List.length_nil]; omega)) ?_
        | refine swp_seq ?_
        | (refine gk 0 rfl ?_; first | refine sl_op rfl rfl rfl (by first | exact opv_move rfl rfl | exact opv_assign rfl rfl ) ?_ )
        | (refine gk 2 rfl ?_; first | refine sl_yes rfl rfl rfl (by first | exact opv_lss rfl rfl rfl ) (by first | omega ) ?_ )
        | (refine gk 3 rfl ?_; first | refine sl_op rfl rfl rfl (by first | exact opv_load rfl (by exact rfl) rfl (by exact rfl) | exact opv_fieldAddr rfl rfl | exact opv_indexAddrI rfl rfl rfl (by omega) (by omega) (by first | omega ) | exact opv_fieldAddrE rfl rfl (by first | assumption ) | exact opv_loadEx rfl (by exact rfl) (by infer_instance) (by first | assumption ) ) ?_ )
        | (refine gk 4 rfl ?_; first | refine sl_op rfl rfl rfl (by first | exact opv_len rfl rfl rfl rfl rfl ) ?_ | refine sl_op rfl rfl rfl (opv_call rfl rfl rfl rfl rfl (rput_calls _ 1 (w64_lt _) (by decide))) ?_)
        | refine sl_region rfl ?_
        | refine sl_nil ?_
        | refine thn_k ?_
        | refine swp_true rfl ?_
        | refine swp_block ?_
        | refine swp_skip ?_
        )
      refine swp_loopS (fun t : SB => [(1, ptr βx), (4, str t.s), (5, i64 (j : Int)), (6, i64 (t.j : Int))])
        (fun t => [blk βx (.cells ⟨[.slice clb cln clc, .slice mb mn mc]⟩ 25 (0, 0)), J])
        (fun t => t.j ≤ fn ∧ t.s.length ≤ 300 + t.j ∧ t.s = s ++ (leB (w64 fn) 1 ++ ((f.take t.j).map fun k => leB (w64 k) 1).flatten))
        (fun t => fn - t.j) ⟨0, s ++ leB (w64 fn) 1⟩ (by repeat first | exact Sub.nil _ | refine Sub.cons rfl ?_) ⟨Nat.zero_le _, by simp only [List.length_append, hlb]; omega, by simp⟩ ?_
      rintro ⟨k, t⟩ ⟨hk1, hk2, ht⟩
      dsimp only at hk1 hk2 ht ⊢
      by_cases hkk : k < fn
      · obtain ⟨z, hz⟩ : ∃ z, f[k]? = some z := ⟨_, List.getElem?_eq_getElem (by omega)⟩
        have hcz : (f.map i64)[((k : Nat) : Int).toNat * 1]? = some (i64 z) := by simp [hz]
        repeat' (first
          | refine sl_op rfl rfl rfl ((opv_convert rfl rfl).to (hcv _)) ?_
          | refine sl_op rfl rfl rfl (opv_addS rfl rfl rfl (by simp only [hlb, List.length_append, List.length_cons, List.length_nil]; omega)) ?_
          | refine swp_seq ?_
          | (refine gk 0 rfl ?_; first | refine sl_op rfl rfl rfl (by first | exact opv_move rfl rfl | exact opv_assign rfl rfl ) ?_ )
          | (refine gk 1 rfl ?_; first | refine sl_op rfl rfl rfl (by first | exact opv_add64 rfl rfl rfl (by omega) (by omega) ) ?_ )
          | (refine gk 2 rfl ?_; first | refine sl_yes rfl rfl rfl (by first | exact opv_lss rfl rfl rfl ) (by first | omega ) ?_ )
          | (refine gk 3 rfl ?_; first | refine sl_op rfl rfl rfl (by first | exact opv_load rfl (by exact rfl) rfl (by exact rfl) | exact opv_fieldAddr rfl rfl | exact opv_indexAddrI rfl rfl rfl (by omega) (by omega) (by first | omega | (simp only [List.length_map]; omega) ) | exact opv_fieldAddrE rfl rfl (by first | assumption ) | exact opv_loadEx rfl (by exact rfl) (by infer_instance) (by first | assumption ) ) ?_ )
          | (refine gk 4 rfl ?_; first | refine sl_op rfl rfl rfl (by first | exact opv_len rfl rfl rfl rfl rfl ) ?_ | refine sl_op rfl rfl rfl (opv_call rfl rfl rfl rfl rfl (rput_calls _ 1 (w64_lt _) (by decide))) ?_)
          | refine sl_region rfl ?_
          | refine sl_nil ?_
          | refine thn_k ?_
          | refine swp_true rfl ?_
          | refine swp_block ?_
          | refine swp_skip ?_
          )
        refine ⟨rfl, ⟨k + 1, t ++ leB (w64 z) 1⟩, next_ok (by repeat first | exact Sub.nil _ | refine Sub.cons rfl ?_), ⟨by dsimp only; omega, by dsimp only; simp only [List.length_append, hlb]; omega, ?_⟩, by dsimp only; omega⟩
        dsimp only
        rw [ht, flatten_take_succ _ hz]
        simp only [List.append_assoc]
      · rw [List.take_of_length_le (by omega)] at ht
        repeat' (first
          | refine swp_seq ?_
          | (refine gk 0 rfl ?_; first | refine sl_op rfl rfl rfl (by first | exact opv_move rfl rfl | exact opv_assign rfl rfl ) ?_ )
          | (refine gk 1 rfl ?_; first | refine sl_op rfl rfl rfl (by first | exact opv_add64 rfl rfl rfl (by omega) (by omega) ) ?_ )
          | (refine gk 2 rfl ?_; first | refine sl_no rfl rfl rfl (by first | exact opv_lss rfl rfl rfl ) (by first | omega ) ?_ )
          | (refine gk 3 rfl ?_; first | refine sl_op rfl rfl rfl (by first | exact opv_load rfl (by exact rfl) rfl (by exact rfl) | exact opv_fieldAddr rfl rfl | exact opv_indexAddrI rfl rfl rfl (by omega) (by omega) (by first | omega ) | exact opv_fieldAddrE rfl rfl (by first | assumption ) | exact opv_loadEx rfl (by exact rfl) (by infer_instance) (by first | assumption ) ) ?_ )
          | (refine gk 4 rfl ?_; first | refine sl_op rfl rfl rfl (by first | exact opv_len rfl rfl rfl rfl rfl ) ?_)
          | refine sl_region rfl ?_
          | refine sl_nil ?_
          | refine thn_k ?_
          | refine swp_false rfl ?_
          | refine swp_exit ?_
          )
        refine ⟨rfl, ⟨j + 1, t⟩, next_ok (by repeat first | exact Sub.nil _ | refine Sub.cons rfl ?_), ⟨by dsimp only; omega, ?_⟩, by dsimp only; omega⟩
        dsimp only
        rw [ht, hs, flatten_take_succ _ hf, kB, g3]
        simp only [List.append_assoc]
    · obtain rfl : cln = j := by omega
      rw [List.take_of_length_le (by omega)] at hs
      repeat' (first
        | refine sl_op rfl rfl rfl ((opv_convert rfl rfl).to (hcv _)) ?_
        | refine sl_op rfl rfl rfl (opv_addS rfl rfl rfl (by simp only [hlb, List.length_append, List.length_cons, List.length_nil]; omega)) ?_
        | refine swp_seq ?_
        | (refine gk 0 rfl ?_; first | refine sl_op rfl rfl rfl (by first | exact opv_move rfl rfl | exact opv_assign rfl rfl ) ?_ )
        | (refine gk 2 rfl ?_; first | refine sl_no rfl rfl rfl (by first | exact opv_lss rfl rfl rfl ) (by first | omega ) ?_ )
        | (refine gk 3 rfl ?_; first | refine sl_op rfl rfl rfl (by first | exact opv_load rfl (by exact rfl) rfl (by exact rfl) | exact opv_fieldAddr rfl rfl ) ?_ )
        | (refine gk 4 rfl ?_; first | refine sl_op rfl rfl rfl (by first | exact opv_len rfl rfl rfl rfl rfl ) ?_ | refine sl_op rfl rfl rfl (opv_call rfl rfl rfl rfl rfl (rput_calls _ 1 (w64_lt _) (by decide))) ?_)
        | refine sl_region rfl ?_
        | refine sl_nil ?_
        | refine thn_k ?_
        | refine swp_false rfl ?_
        | refine swp_block ?_
        | refine swp_exit ?_
        )
      refine swp_loopS (fun t : SB => [(1, ptr βx), (4, str t.s), (7, i64 (t.j : Int))])
        (fun t => [blk βx (.cells ⟨[.slice clb cln clc, .slice mb mn mc]⟩ 25 (0, 0)), J])
        (fun t => t.j ≤ mn ∧ t.s = s ++ (leB (w64 mn) 1 ++ ((x.ms.take t.j).map mB).flatten))
        (fun t => mn - t.j) ⟨0, s ++ leB (w64 mn) 1⟩ (by repeat first | exact Sub.nil _ | refine Sub.cons rfl ?_) ⟨Nat.zero_le _, by simp⟩ ?_
      rintro ⟨i, t⟩ ⟨hi, ht⟩
      dsimp only at hi ht ⊢
      have hib := sm.msB i
      have hlt : t.length ≤ 200000 := by
        rw [ht]; simp only [List.length_append, hlb]; omega
      clear hib
      by_cases hi2 : i < mn
      · obtain ⟨m, hm⟩ : ∃ z, x.ms[i]? = some z := ⟨_, List.getElem?_eq_getElem (by omega)⟩
        obtain ⟨pb, pn, pc, cb, cn, cc, g1, g2, g3, g4, g5, g6, g7, g8, g9, g10, g11⟩ := hmf i m hm
        haveI := g5
        haveI := g8
        obtain ⟨q1, q2, q3⟩ := sm.me m (List.mem_of_getElem? hm)
        have hk : ((i : Nat) : Int).toNat * 4 < mv.length := by simp; omega
        have hc0 : mv[((i : Nat) : Int).toNat * 4]? = some (.slice pb pn pc) := by simpa using g1
        have hc1 : mv[((i : Nat) : Int).toNat * 4 + 1]? = some (i64 m.lo) := by simpa using g2
        have hc2 : mv[((i : Nat) : Int).toNat * 4 + 2]? = some (i64 m.st) := by simpa using g3
        have hc3 : mv[((i : Nat) : Int).toNat * 4 + 3]? = some (.slice cb cn cc) := by simpa using g4
        have hfc := flatI_length m.code
        clear hcf hmf hb hmvl g1 g2 g3 g4 hs hi
        repeat' (first
          | refine sl_op rfl rfl rfl ((opv_convert rfl rfl).to (hcv _)) ?_
          | refine sl_op rfl rfl rfl (opv_addS rfl rfl rfl (by simp only [hlb, List.length_append, List.length_cons, List.length_nil]; omega)) ?_
          | refine swp_seq ?_
          | (refine gk 0 rfl ?_; first | refine sl_op rfl rfl rfl (by first | exact opv_move rfl rfl | exact opv_assign rfl rfl ) ?_ )
          | (refine gk 2 rfl ?_; first | refine sl_yes rfl rfl rfl (by first | exact opv_lss rfl rfl rfl ) (by first | omega ) ?_ )
          | (refine gk 3 rfl ?_; first | refine sl_op rfl rfl rfl (by first | exact opv_load rfl (by exact rfl) rfl (by exact rfl) | exact opv_fieldAddr rfl rfl | exact opv_indexAddrI rfl rfl rfl (by omega) (by omega) (by first | omega ) | exact opv_load4 rfl (by exact rfl) (by infer_instance) (by assumption) (by assumption) (by assumption) (by assumption) ) ?_ )
          | (refine gk 4 rfl ?_; first | refine sl_op rfl rfl rfl (by first | exact opv_len rfl rfl rfl rfl rfl ) ?_ | refine sl_op rfl rfl rfl (opv_call rfl rfl rfl rfl rfl (rput_calls _ 1 (w64_lt _) (by decide))) ?_)
          | (refine gk 5 rfl ?_; first | refine sl_alloc rfl rfl rfl rfl (by exact rfl) (fun β => ?_) | refine sl_store rfl rfl rfl rfl rfl rfl (by exact rfl) rfl (by exact rfl) ?_)
          | refine sl_region rfl ?_
          | refine sl_nil ?_
          | refine thn_k ?_
          | refine swp_true rfl ?_
          | refine swp_block ?_
          | refine swp_skip ?_
          )
        revert β
        intro βm
        refine swp_loopS (fun u : SB => [(1, ptr βx), (4, str u.s), (7, i64 (i : Int)), (8, ptr βm), (9, i64 (u.j : Int))])
          (fun u => [blk βm (.cells ⟨[.slice pb pn pc, i64 m.lo, i64 m.st, .slice cb cn cc]⟩ 56 (0, 0)), blk βx (.cells ⟨[.slice clb cln clc, .slice mb mn mc]⟩ 25 (0, 0)), J])
          (fun u => u.j ≤ pn ∧ u.s.length ≤ 200001 + u.j ∧ u.s = t ++ (leB (w64 pn) 1 ++ ((m.params.take u.j).map fun k => leB (w64 k) 1).flatten))
          (fun u => pn - u.j) ⟨0, t ++ leB (w64 pn) 1⟩ (by repeat first | exact Sub.nil _ | refine Sub.cons rfl ?_) ⟨Nat.zero_le _, by simp only [List.length_append, hlb]; omega, by simp⟩ ?_
        rintro ⟨k, u⟩ ⟨hk1, hk2, hu⟩
        dsimp only at hk1 hk2 hu ⊢
        by_cases hkk : k < pn
        · obtain ⟨z, hz⟩ : ∃ z, m.params[k]? = some z := ⟨_, List.getElem?_eq_getElem (by omega)⟩
          have hcz : (m.params.map i64)[((k : Nat) : Int).toNat * 1]? = some (i64 z) := by simp [hz]
          repeat' (first
            | refine sl_op rfl rfl rfl ((opv_convert rfl rfl).to (hcv _)) ?_
            | refine sl_op rfl rfl rfl (opv_addS rfl rfl rfl (by simp only [hlb, List.length_append, List.length_cons, List.length_nil]; omega)) ?_
            | refine swp_seq ?_
            | (refine gk 0 rfl ?_; first | refine sl_op rfl rfl rfl (by first | exact opv_move rfl rfl | exact opv_assign rfl rfl ) ?_ )
            | (refine gk 1 rfl ?_; first | refine sl_op rfl rfl rfl (by first | exact opv_add64 rfl rfl rfl (by omega) (by omega) ) ?_ )
            | (refine gk 2 rfl ?_; first | refine sl_yes rfl rfl rfl (by first | exact opv_lss rfl rfl rfl ) (by first | omega ) ?_ )
            | (refine gk 3 rfl ?_; first | refine sl_op rfl rfl rfl (by first | exact opv_load rfl (by exact rfl) rfl (by exact rfl) | exact opv_fieldAddr rfl rfl | exact opv_indexAddrI rfl rfl rfl (by omega) (by omega) (by first | (simp only [List.length_map]; omega) ) | exact opv_loadEx rfl (by exact rfl) (by infer_instance) (by first | assumption ) ) ?_ )
            | (refine gk 4 rfl ?_; first | refine sl_op rfl rfl rfl (by first | exact opv_len rfl rfl rfl rfl rfl ) ?_ | refine sl_op rfl rfl rfl (opv_call rfl rfl rfl rfl rfl (rput_calls _ 1 (w64_lt _) (by decide))) ?_)
            | refine sl_region rfl ?_
            | refine sl_nil ?_
            | refine thn_k ?_
            | refine swp_true rfl ?_
            | refine swp_block ?_
            | refine swp_skip ?_
            )
          refine ⟨rfl, ⟨k + 1, u ++ leB (w64 z) 1⟩, next_ok (by repeat first | exact Sub.nil _ | refine Sub.cons rfl ?_), ⟨by dsimp only; omega, by dsimp only; simp only [List.length_append, hlb]; omega, ?_⟩, by dsimp only; omega⟩
          dsimp only
          rw [hu, flatten_take_succ _ hz]
          simp only [List.append_assoc]
        · rw [List.take_of_length_le (by omega)] at hu
          repeat' (first
            | refine sl_op rfl rfl rfl ((opv_convert rfl rfl).to (hcv _)) ?_
            | refine sl_op rfl rfl rfl (opv_addS rfl rfl rfl (by simp only [hlb, List.length_append, List.length_cons, List.length_nil]; omega)) ?_
            | refine swp_seq ?_
            | (refine gk 0 rfl ?_; first | refine sl_op rfl rfl rfl (by first | exact opv_move rfl rfl | exact opv_assign rfl rfl ) ?_ )
            | (refine gk 2 rfl ?_; first | refine sl_no rfl rfl rfl (by first | exact opv_lss rfl rfl rfl ) (by first | omega ) ?_ )
            | (refine gk 3 rfl ?_; first | refine sl_op rfl rfl rfl (by first | exact opv_load rfl (by exact rfl) rfl (by exact rfl) | exact opv_fieldAddr rfl rfl ) ?_ )
            | (refine gk 4 rfl ?_; first | refine sl_op rfl rfl rfl (by first | exact opv_len rfl rfl rfl rfl rfl ) ?_ | refine sl_op rfl rfl rfl (opv_call rfl rfl rfl rfl rfl (rput_calls _ 1 (w64_lt _) (by decide))) ?_ | refine sl_op rfl rfl rfl (opv_call rfl rfl rfl rfl rfl (rput_calls _ 2 (w64_lt _) (by decide))) ?_)
            | refine sl_region rfl ?_
            | refine sl_draw (by kernel_rfl) (by kernel_rfl) rfl ?_
            | refine sl_nil ?_
            | refine thn_k ?_
            | refine swp_false rfl ?_
            | refine swp_block ?_
            | refine swp_exit ?_
            )
          refine swp_loopS (fun y : SB => [(1, ptr βx), (4, str y.s), (7, i64 (i : Int)), (8, ptr βm), (10, i64 (y.j : Int))])
            (fun y => [blk βm (.cells ⟨[.slice pb pn pc, i64 m.lo, i64 m.st, .slice cb cn cc]⟩ 56 (0, 0)), blk βx (.cells ⟨[.slice clb cln clc, .slice mb mn mc]⟩ 25 (0, 0)), J])
            (fun y => y.j ≤ cn ∧ y.s.length ≤ 200100 + 17 * y.j ∧ y.s = u ++ (leB (w64 m.lo) 1 ++ (leB (w64 m.st) 1 ++ (leB (w64 cn) 2 ++ ((m.code.take y.j).map iB).flatten))))
            (fun y => cn - y.j) ⟨0, u ++ leB (w64 m.lo) 1 ++ leB (w64 m.st) 1 ++ leB (w64 cn) 2⟩ (by repeat first | exact Sub.nil _ | refine Sub.cons rfl ?_) ⟨Nat.zero_le _, by simp only [List.length_append, hlb]; omega, by simp⟩ ?_
          rintro ⟨k2, y⟩ ⟨hy1, hy2, hyy⟩
          dsimp only at hy1 hy2 hyy ⊢
          by_cases hkk2 : k2 < cn
          · obtain ⟨ins, hins⟩ : ∃ z, m.code[k2]? = some z := ⟨_, List.getElem?_eq_getElem (by omega)⟩
            obtain ⟨w0, w1, w2⟩ := flatI_at hins
            have hk3 : ((k2 : Nat) : Int).toNat * 3 < (flatI m.code).length := by simp; omega
            have hw0 : (flatI m.code)[((k2 : Nat) : Int).toNat * 3]? = some (i64 ins.op) := by simpa using w0
            have hw00 : (flatI m.code)[((k2 : Nat) : Int).toNat * 3 + 0]? = some (i64 ins.op) := by simpa using w0
            have hw1 : (flatI m.code)[((k2 : Nat) : Int).toNat * 3 + 1]? = some (i64 ins.a) := by simpa using w1
            have hw2 : (flatI m.code)[((k2 : Nat) : Int).toNat * 3 + 2]? = some (i64 ins.b) := by simpa using w2
            repeat' (first
              | refine sl_op rfl rfl rfl ((opv_convert rfl rfl).to (hcv _)) ?_
              | refine sl_op rfl rfl rfl (opv_addS rfl rfl rfl (by simp only [hlb, List.length_append, List.length_cons, List.length_nil]; omega)) ?_
              | refine swp_seq ?_
              | (refine gk 0 rfl ?_; first | refine sl_op rfl rfl rfl (by first | exact opv_move rfl rfl | exact opv_assign rfl rfl ) ?_ )
              | (refine gk 1 rfl ?_; first | refine sl_op rfl rfl rfl (by first | exact opv_add64 rfl rfl rfl (by omega) (by omega) ) ?_ )
              | (refine gk 2 rfl ?_; first | refine sl_yes rfl rfl rfl (by first | exact opv_lss rfl rfl rfl ) (by first | omega ) ?_ )
              | (refine gk 3 rfl ?_; first | refine sl_op rfl rfl rfl (by first | exact opv_load rfl (by exact rfl) rfl (by exact rfl) | exact opv_fieldAddr rfl rfl | exact opv_indexAddrI rfl rfl rfl (by omega) (by omega) (by first | omega ) | exact opv_fieldAddrE rfl rfl (by first | assumption ) | exact opv_loadEx rfl (by exact rfl) (by infer_instance) (by first | assumption ) ) ?_ )
              | (refine gk 4 rfl ?_; first | refine sl_op rfl rfl rfl (by first | exact opv_len rfl rfl rfl rfl rfl ) ?_ | refine sl_op rfl rfl rfl (opv_call rfl rfl rfl rfl rfl (rput_calls _ 1 (w64_lt _) (by decide))) ?_ | refine sl_op rfl rfl rfl (opv_call rfl rfl rfl rfl rfl (rput_calls _ 8 (w64_lt _) (by decide))) ?_)
              | refine sl_region rfl ?_
              | refine sl_draw (by kernel_rfl) (by kernel_rfl) rfl ?_
              | refine sl_nil ?_
              | refine thn_k ?_
              | refine swp_true rfl ?_
              | refine swp_block ?_
              | refine swp_skip ?_
              )
            refine ⟨rfl, ⟨k2 + 1, y ++ leB (w64 ins.op) 1 ++ leB (w64 ins.a) 8 ++ leB (w64 ins.b) 8⟩, next_ok (by repeat first | exact Sub.nil _ | refine Sub.cons rfl ?_), ⟨by dsimp only; omega, by dsimp only; simp only [List.length_append, hlb]; omega, ?_⟩, by dsimp only; omega⟩
            dsimp only
            rw [hyy, flatten_take_succ _ hins, iB]
            simp only [List.append_assoc]
          · rw [List.take_of_length_le (by omega)] at hyy
            repeat' (first
              | refine swp_seq ?_
              | (refine gk 0 rfl ?_; first | refine sl_op rfl rfl rfl (by first | exact opv_move rfl rfl | exact opv_assign rfl rfl ) ?_ )
              | (refine gk 1 rfl ?_; first | refine sl_op rfl rfl rfl (by first | exact opv_add64 rfl rfl rfl (by omega) (by omega) ) ?_ )
              | (refine gk 2 rfl ?_; first | refine sl_no rfl rfl rfl (by first | exact opv_lss rfl rfl rfl ) (by first | omega ) ?_ )
              | (refine gk 3 rfl ?_; first | refine sl_op rfl rfl rfl (by first | exact opv_load rfl (by exact rfl) rfl (by exact rfl) | exact opv_fieldAddr rfl rfl ) ?_ )
              | (refine gk 4 rfl ?_; first | refine sl_op rfl rfl rfl (by first | exact opv_len rfl rfl rfl rfl rfl ) ?_)
              | refine sl_region rfl ?_
              | refine sl_nil ?_
              | refine thn_k ?_
              | refine swp_false rfl ?_
              | refine swp_exit ?_
              )
            refine ⟨rfl, ⟨i + 1, y⟩, next_ok (by repeat first | exact Sub.nil _ | refine Sub.cons rfl ?_), ⟨by dsimp only; omega, ?_⟩, by dsimp only; omega⟩
            dsimp only
            rw [hyy, hu, ht, flatten_take_succ _ hm, mB, kB, g6, g9]
            simp only [List.append_assoc]
      · rw [List.take_of_length_le (by omega)] at ht
        repeat' (first
          | refine swp_seq ?_
          | (refine gk 0 rfl ?_; first | refine sl_op rfl rfl rfl (by first | exact opv_move rfl rfl | exact opv_assign rfl rfl ) ?_ )
          | (refine gk 2 rfl ?_; first | refine sl_no rfl rfl rfl (by first | exact opv_lss rfl rfl rfl ) (by first | omega ) ?_ )
          | (refine gk 3 rfl ?_; first | refine sl_op rfl rfl rfl (by first | exact opv_load rfl (by exact rfl) rfl (by exact rfl) | exact opv_fieldAddr rfl rfl ) ?_ )
          | (refine gk 4 rfl ?_; first | refine sl_op rfl rfl rfl (by first | exact opv_len rfl rfl rfl rfl rfl ) ?_)
          | refine sl_region rfl ?_
          | refine sl_nil ?_
          | refine thn_k ?_
          | refine swp_false rfl ?_
          | refine swp_ret ?_
          | refine swp_exit ?_
          )
        refine end_pure (resOk_two (resV_tmp rfl) (resV_tmp rfl)) ?_
        rw [if_pos rfl, imB, ht, hs, hcl, hml]
        simp [List.append_assoc]
end Go.Proofs.YtjdjkcebflablaaDoor
