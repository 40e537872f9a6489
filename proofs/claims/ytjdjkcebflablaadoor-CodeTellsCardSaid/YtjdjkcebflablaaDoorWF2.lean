/- The document's answer: what may be laid, walked. -/
import Derived.Test.YtjdjkcebflablaaDoorWF
set_option linter.unusedVariables false
set_option linter.unusedSimpArgs false
set_option linter.unusedSectionVars false
namespace Go.Proofs.YtjdjkcebflablaaDoor
open Go.SL
set_option maxRecDepth 100000
set_option maxHeartbeats 16000000
attribute [local irreducible] SL.T PFn OpV SOL SWP HOp ChU
-- ALIAS Tryd
-- USE_L4
-- USE_L1
theorem take_ok {α : Type} {p : α → Prop} {l : List α} {j : Nat} {x : α} (h1 : ∀ y ∈ l.take j, p y) (h2 : l[j]? = some x) (h3 : p x) : ∀ y ∈ l.take (j + 1), p y := by
  intro y hy
  rw [List.take_add_one, h2] at hy
  rcases List.mem_append.1 hy with hy | hy
  · exact h1 y hy
  · simp at hy; subst hy; exact h3
theorem rMay_calls (J : Heap) (x : Im) (v : Value) (h : ImIn J x v) : PFn Tryd.prog 21 [v] [J] (.bool (mayF x)) := by
  obtain ⟨clb, cln, clc, mb, mn, mc, rfl, hc, hm, -, -⟩ := h
  obtain ⟨cv, sc, hcvl, hcl, hcsm, hcf⟩ := hc
  obtain ⟨mv, smv, hmvl, hml, hmsm, hmf⟩ := hm
  haveI := sc
  haveI := smv
  have hno : ∀ {P : Prop}, ¬P → (mayF x = true → P) → mayF x = false := fun h1 h2 => by
    cases e : mayF x with
    | false => rfl
    | true => exact absurd (h2 e) h1
  refine pure_of_body Tryd.func21 rfl (Nat.le_of_ble_eq_true rfl) fun F => ?_
  by_cases hx : cln ≤ 16 ∧ 1 ≤ mn ∧ mn ≤ 32
  · obtain ⟨h1, h2, h3⟩ := hx
    obtain ⟨m, hm0⟩ : ∃ z, x.ms[0]? = some z := ⟨_, List.getElem?_eq_getElem (by omega)⟩
    obtain ⟨pb, pn, pc, cb, cn, cc, g1, g2, g3, g4, g5, g6, g7, g8, g9, g10, g11⟩ := hmf 0 m hm0
    have hk : (0 : Int).toNat * 4 < mv.length := by simp; omega
    have hc0 : mv[(0 : Int).toNat * 4]? = some (.slice pb pn pc) := by simpa using g1
    have hc00 : mv[(0 : Int).toNat * 4 + 0]? = some (.slice pb pn pc) := by simpa using g1
    by_cases h4 : pn = 0
    · have h4' : ∀ m, x.ms[0]? = some m → m.params.length = 0 := fun m' hm' => by rw [hm0] at hm'; cases hm'; omega
      repeat' (first
        | refine swp_seq ?_
        | (refine gk 0 rfl ?_; first | refine sl_op rfl rfl rfl (by first | exact opv_move rfl rfl | exact opv_assign rfl rfl | exact opv_pick_f rfl rfl rfl ) ?_ )
        | (refine gk 2 rfl ?_; first | refine sl_no rfl rfl rfl (by first | exact opv_lss rfl rfl rfl | exact opv_gtr rfl rfl rfl ) (by first | omega ) ?_ )
        | (refine gk 3 rfl ?_; first | refine sl_op rfl rfl rfl (by first | exact opv_load rfl (by exact rfl) rfl (by exact rfl) | exact opv_fieldAddr rfl rfl | exact opv_indexAddrI rfl rfl rfl (by omega) (by omega) (by first | omega ) | exact opv_fieldAddrE rfl rfl (by first | assumption ) | exact opv_loadEx rfl (by exact rfl) (by infer_instance) (by first | assumption ) ) ?_ )
        | (refine gk 4 rfl ?_; first | refine sl_op rfl rfl rfl (by first | exact opv_len rfl rfl rfl rfl rfl ) ?_)
        | (refine gk 5 rfl ?_; first | refine sl_box rfl rfl rfl rfl rfl rfl (fun β => ?_) )
        | refine sl_region rfl ?_
        | refine sl_nil ?_
        | refine thn_k ?_
        | refine swp_false rfl ?_
        | refine swp_block ?_
        | refine swp_skip ?_
        )
      revert β
      intro βx
      refine swp_loopS (fun j : Nat => [(1, ptr βx), (3, i64 (cln : Int)), (4, i64 (j : Int))])
        (fun _ => [blk βx (.cells ⟨[.slice clb cln clc, .slice mb mn mc]⟩ 25 (0, 0)), J]) (fun j => j ≤ cln ∧ ∀ f ∈ x.cls.take j, okC cln f) (fun j => cln - j) 0 (by repeat first | exact Sub.nil _ | refine Sub.cons rfl ?_) ⟨Nat.zero_le _, by simp⟩ ?_
      rintro j ⟨hj1, hj2⟩
      by_cases hj : j < cln
      · obtain ⟨f, hf⟩ : ∃ z, x.cls[j]? = some z := ⟨_, List.getElem?_eq_getElem (by omega)⟩
        obtain ⟨fb, fn, fc, q1, q2, q3, q4⟩ := hcf j f hf
        haveI := q2
        have hkc : ((j : Nat) : Int).toNat * 1 < cv.length := by simp; omega
        have hcx : cv[((j : Nat) : Int).toNat * 1]? = some (.slice fb fn fc) := by simpa using q1
        have hcx0 : cv[((j : Nat) : Int).toNat * 1 + 0]? = some (.slice fb fn fc) := by simpa using q1
        have hk := rkinds_calls J fb fn fc f cln q3 q4
        have hmem := List.mem_of_getElem? hf
        by_cases h8 : fn ≤ 8
        · cases ha : f.any (kno cln) with
          | false =>
            rw [ha] at hk
            repeat' (first
              | refine swp_seq ?_
              | (refine gk 0 rfl ?_; first | refine sl_op rfl rfl rfl (by first | exact opv_move rfl rfl | exact opv_assign rfl rfl | exact opv_pick_f rfl rfl rfl | exact opv_not_t rfl rfl ) ?_ )
              | (refine gk 1 rfl ?_; first | refine sl_op rfl rfl rfl (by first | exact opv_add64 rfl rfl rfl (by omega) (by omega) ) ?_ )
              | (refine gk 2 rfl ?_; first | refine sl_yes rfl rfl rfl (by first | exact opv_lss rfl rfl rfl | exact opv_gtr rfl rfl rfl ) (by first | omega ) ?_ | refine sl_no rfl rfl rfl (by first | exact opv_gtr rfl rfl rfl ) (by first | omega ) ?_ )
              | (refine gk 3 rfl ?_; first | refine sl_op rfl rfl rfl (by first | exact opv_load rfl (by exact rfl) rfl (by exact rfl) | exact opv_fieldAddr rfl rfl | exact opv_indexAddrI rfl rfl rfl (by omega) (by omega) (by first | omega ) | exact opv_fieldAddrE rfl rfl (by first | assumption ) | exact opv_loadEx rfl (by exact rfl) (by infer_instance) (by first | assumption ) ) ?_ )
              | (refine gk 4 rfl ?_; first | refine sl_op rfl rfl rfl (by first | exact opv_len rfl rfl rfl rfl rfl ) ?_ | refine sl_op rfl rfl rfl (opv_call rfl rfl rfl rfl rfl (hk)) ?_)
              | refine sl_region rfl ?_
              | refine sl_nil ?_
              | refine thn_k ?_
              | refine swp_true rfl ?_
              | refine swp_false rfl ?_
              | refine swp_block ?_
              | refine swp_skip ?_
              )
            exact ⟨rfl, j + 1, next_ok (by repeat first | exact Sub.nil _ | refine Sub.cons rfl ?_), ⟨by omega, take_ok hj2 hf ⟨by omega, ha⟩⟩, by omega⟩
          | true =>
            rw [ha] at hk
            have e := hno (P := f.any (kno cln) = false) (by rw [ha]; simp) fun e => by rw [← hcl]; exact ((mayF_iff.1 e).2.2.2.2.1 f hmem).2
            repeat' (first
              | refine swp_seq ?_
              | (refine gk 0 rfl ?_; first | refine sl_op rfl rfl rfl (by first | exact opv_move rfl rfl | exact opv_assign rfl rfl | exact opv_pick_f rfl rfl rfl | exact opv_not_f rfl rfl ) ?_ )
              | (refine gk 2 rfl ?_; first | refine sl_yes rfl rfl rfl (by first | exact opv_lss rfl rfl rfl | exact opv_gtr rfl rfl rfl ) (by first | omega ) ?_ | refine sl_no rfl rfl rfl (by first | exact opv_gtr rfl rfl rfl ) (by first | omega ) ?_ )
              | (refine gk 3 rfl ?_; first | refine sl_op rfl rfl rfl (by first | exact opv_load rfl (by exact rfl) rfl (by exact rfl) | exact opv_fieldAddr rfl rfl | exact opv_indexAddrI rfl rfl rfl (by omega) (by omega) (by first | omega ) | exact opv_fieldAddrE rfl rfl (by first | assumption ) | exact opv_loadEx rfl (by exact rfl) (by infer_instance) (by first | assumption ) ) ?_ )
              | (refine gk 4 rfl ?_; first | refine sl_op rfl rfl rfl (by first | exact opv_len rfl rfl rfl rfl rfl ) ?_ | refine sl_op rfl rfl rfl (opv_call rfl rfl rfl rfl rfl (hk)) ?_)
              | refine sl_region rfl ?_
              | refine sl_nil ?_
              | refine thn_k ?_
              | refine swp_true rfl ?_
              | refine swp_block ?_
              | refine swp_ret ?_
              | refine swp_skip ?_
              | refine thn_ret ?_
              | refine inb_ret ?_
              )
            refine end_pure (resOk_one (resV_tmp rfl)) ?_
            rw [e]
        · have e := hno (P := fn ≤ 8) h8 fun e => by rw [← q3]; exact ((mayF_iff.1 e).2.2.2.2.1 f hmem).1
          repeat' (first
            | refine swp_seq ?_
            | (refine gk 0 rfl ?_; first | refine sl_op rfl rfl rfl (by first | exact opv_move rfl rfl | exact opv_assign rfl rfl | exact opv_pick_t rfl rfl rfl ) ?_ | refine sl_pass rfl rfl rfl rfl ?_)
            | (refine gk 2 rfl ?_; first | refine sl_yes rfl rfl rfl (by first | exact opv_lss rfl rfl rfl | exact opv_gtr rfl rfl rfl ) (by first | omega ) ?_ )
            | (refine gk 3 rfl ?_; first | refine sl_op rfl rfl rfl (by first | exact opv_load rfl (by exact rfl) rfl (by exact rfl) | exact opv_fieldAddr rfl rfl | exact opv_indexAddrI rfl rfl rfl (by omega) (by omega) (by first | omega ) | exact opv_fieldAddrE rfl rfl (by first | assumption ) | exact opv_loadEx rfl (by exact rfl) (by infer_instance) (by first | assumption ) ) ?_ | refine sl_pass rfl rfl rfl rfl ?_)
            | (refine gk 4 rfl ?_; first | refine sl_pass rfl rfl rfl rfl ?_ | refine sl_op rfl rfl rfl (by first | exact opv_len rfl rfl rfl rfl rfl ) ?_)
            | refine sl_region rfl ?_
            | refine sl_nil ?_
            | refine thn_k ?_
            | refine swp_true rfl ?_
            | refine swp_block ?_
            | refine swp_ret ?_
            | refine swp_skip ?_
            | refine thn_ret ?_
            | refine inb_ret ?_
            )
          refine end_pure (resOk_one (resV_tmp rfl)) ?_
          rw [e]
      · obtain rfl : cln = j := by omega
        rw [List.take_of_length_le (by omega)] at hj2
        repeat' (first
          | refine swp_seq ?_
          | (refine gk 0 rfl ?_; first | refine sl_op rfl rfl rfl (by first | exact opv_move rfl rfl | exact opv_assign rfl rfl ) ?_ )
          | (refine gk 2 rfl ?_; first | refine sl_no rfl rfl rfl (by first | exact opv_lss rfl rfl rfl ) (by first | omega ) ?_ )
          | refine sl_region rfl ?_
          | refine sl_nil ?_
          | refine thn_k ?_
          | refine swp_false rfl ?_
          | refine swp_block ?_
          | refine swp_exit ?_
          )
        refine swp_loopS (fun j : Nat => [(1, ptr βx), (3, i64 (cln : Int)), (5, i64 (j : Int))])
          (fun _ => [blk βx (.cells ⟨[.slice clb cln clc, .slice mb mn mc]⟩ 25 (0, 0)), J]) (fun j => j ≤ mn ∧ ∀ m ∈ x.ms.take j, okM cln m) (fun j => mn - j) 0 (by repeat first | exact Sub.nil _ | refine Sub.cons rfl ?_) ⟨Nat.zero_le _, by simp⟩ ?_
        rintro i ⟨hi1, hi2⟩
        by_cases hi : i < mn
        · obtain ⟨m', hm'⟩ : ∃ z, x.ms[i]? = some z := ⟨_, List.getElem?_eq_getElem (by omega)⟩
          obtain ⟨pb', pn', pc', cb', cn', cc', q1, q2, q3, q4, q5, q6, q7, q8, q9, q10, q11⟩ := hmf i m' hm'
          haveI := q5
          haveI := q8
          have hk2 : ((i : Nat) : Int).toNat * 4 < mv.length := by simp; omega
          have hd0 : mv[((i : Nat) : Int).toNat * 4]? = some (.slice pb' pn' pc') := by simpa using q1
          have hd1 : mv[((i : Nat) : Int).toNat * 4 + 1]? = some (i64 m'.lo) := by simpa using q2
          have hd2 : mv[((i : Nat) : Int).toNat * 4 + 2]? = some (i64 m'.st) := by simpa using q3
          have hd3 : mv[((i : Nat) : Int).toNat * 4 + 3]? = some (.slice cb' cn' cc') := by simpa using q4
          have hk := rkinds_calls J pb' pn' pc' m'.params cln q6 q7
          have hmem := List.mem_of_getElem? hm'
          have hfl := flatI_length m'.code
          have hE1 : m'.code.any opno = true → mayF x = false := fun h => hno (P := m'.code.any opno = false) (by rw [h]; simp) fun e => by rw [← hcl] at *; exact ((mayF_iff.1 e).2.2.2.2.2 m' hmem).2
          have hE2 : ¬ okM1 cln m' → mayF x = false := fun h => hno h fun e => by rw [← hcl]; exact ((mayF_iff.1 e).2.2.2.2.2 m' hmem).1
          clear hno hcf hmf hm0 h4' hj2 g1 g2 g3 g4 g5 g6 g7 g8 g9 g10 g11 hc0 hc00 q1 q2 q3 q4 hcvl hmem h4
          repeat' ((fail_if_success (refine stop_at2 13 ?_)); (first
            | refine swp_seq ?_
            | (refine gk 0 rfl ?_; first | refine sl_op rfl rfl rfl (by first | exact opv_move rfl rfl ) ?_ )
            | (refine gk 2 rfl ?_; first | refine sl_yes rfl rfl rfl (by first | exact opv_lss rfl rfl rfl ) (by first | omega ) ?_ )
            | (refine gk 3 rfl ?_; first | refine sl_op rfl rfl rfl (by first | exact opv_load rfl (by exact rfl) rfl (by exact rfl) | exact opv_fieldAddr rfl rfl | exact opv_indexAddrI rfl rfl rfl (by omega) (by omega) (by first | omega ) | exact opv_load4 rfl (by exact rfl) (by infer_instance) (by assumption) (by assumption) (by assumption) (by assumption) ) ?_ )
            | (refine gk 4 rfl ?_; first | refine sl_op rfl rfl rfl (by first | exact opv_len rfl rfl rfl rfl rfl ) ?_)
            | (refine gk 5 rfl ?_; first | refine sl_alloc rfl rfl rfl rfl (by exact rfl) (fun β => ?_) | refine sl_store rfl rfl rfl rfl rfl rfl (by exact rfl) rfl (by exact rfl) ?_)
            | refine sl_region rfl ?_
            | refine sl_nil ?_
            | refine thn_k ?_
            | refine swp_true rfl ?_
            | refine swp_block ?_
            | refine swp_skip ?_
            ))
          revert β
          intro βm
          clear hk2 hd0 hd1 hd2 hd3 hmvl
          by_cases hok : okM1 cln m'
          · obtain ⟨r1, r2, r3, r4, r5, r6, r7⟩ := id hok
            rw [r7] at hk
            repeat' (first
              | refine swp_seq ?_
              | (refine gk 0 rfl ?_; first | refine sl_op rfl rfl rfl (by first | exact opv_move rfl rfl | exact opv_assign rfl rfl | exact opv_pick_f rfl rfl rfl | exact opv_not_t rfl rfl ) ?_ )
              | (refine gk 2 rfl ?_; first | refine sl_no rfl rfl rfl (by first | exact opv_lss rfl rfl rfl | exact opv_gtr rfl rfl rfl ) (by first | omega ) ?_ )
              | (refine gk 3 rfl ?_; first | refine sl_op rfl rfl rfl (by first | exact opv_load rfl (by exact rfl) rfl (by exact rfl) | exact opv_fieldAddr rfl rfl ) ?_ )
              | (refine gk 4 rfl ?_; first | refine sl_op rfl rfl rfl (by first | exact opv_len rfl rfl rfl rfl rfl ) ?_ | refine sl_op rfl rfl rfl (opv_call rfl rfl rfl rfl rfl (hk)) ?_)
              | refine sl_region rfl ?_
              | refine sl_nil ?_
              | refine thn_k ?_
              | refine swp_false rfl ?_
              | refine swp_block ?_
              | refine swp_skip ?_
              )
            refine swp_loopS (fun k : Nat => [(1, ptr βx), (3, i64 (cln : Int)), (5, i64 (i : Int)), (6, ptr βm), (7, i64 (k : Int))])
              (fun _ => [blk βm (.cells ⟨[.slice pb' pn' pc', i64 m'.lo, i64 m'.st, .slice cb' cn' cc']⟩ 56 (0, 0)), blk βx (.cells ⟨[.slice clb cln clc, .slice mb mn mc]⟩ 25 (0, 0)), J]) (fun k => k ≤ cn' ∧ ∀ y ∈ m'.code.take k, opno y = false) (fun k => cn' - k) 0 (by repeat first | exact Sub.nil _ | refine Sub.cons rfl ?_) ⟨Nat.zero_le _, by simp⟩ ?_
            rintro k ⟨hk1, hk2'⟩
            by_cases hkk : k < cn'
            · obtain ⟨y, hy⟩ : ∃ z, m'.code[k]? = some z := ⟨_, List.getElem?_eq_getElem (by omega)⟩
              obtain ⟨w0, w1, w2⟩ := flatI_at hy
              have hk3 : ((k : Nat) : Int).toNat * 3 < (flatI m'.code).length := by simp; omega
              have hw0 : (flatI m'.code)[((k : Nat) : Int).toNat * 3]? = some (i64 y.op) := by simpa using w0
              have hw00 : (flatI m'.code)[((k : Nat) : Int).toNat * 3 + 0]? = some (i64 y.op) := by simpa using w0
              by_cases ho : 0 ≤ y.op ∧ y.op ≤ 255
              · obtain ⟨ho1, ho2⟩ := ho
                repeat' (first
                  | refine swp_seq ?_
                  | (refine gk 0 rfl ?_; first | refine sl_op rfl rfl rfl (by first | exact opv_move rfl rfl | exact opv_assign rfl rfl | exact opv_pick_f rfl rfl rfl ) ?_ )
                  | (refine gk 1 rfl ?_; first | refine sl_op rfl rfl rfl (by first | exact opv_add64 rfl rfl rfl (by omega) (by omega) ) ?_ )
                  | (refine gk 2 rfl ?_; first | refine sl_yes rfl rfl rfl (by first | exact opv_lss rfl rfl rfl | exact opv_gtr rfl rfl rfl ) (by first | omega ) ?_ | refine sl_no rfl rfl rfl (by first | exact opv_lss rfl rfl rfl | exact opv_gtr rfl rfl rfl ) (by first | omega ) ?_ )
                  | (refine gk 3 rfl ?_; first | refine sl_op rfl rfl rfl (by first | exact opv_load rfl (by exact rfl) rfl (by exact rfl) | exact opv_fieldAddr rfl rfl | exact opv_indexAddrI rfl rfl rfl (by omega) (by omega) (by first | omega ) | exact opv_fieldAddrE rfl rfl (by first | assumption ) | exact opv_loadEx rfl (by exact rfl) (by infer_instance) (by first | assumption ) ) ?_ )
                  | (refine gk 4 rfl ?_; first | refine sl_op rfl rfl rfl (by first | exact opv_len rfl rfl rfl rfl rfl ) ?_)
                  | refine sl_region rfl ?_
                  | refine sl_nil ?_
                  | refine thn_k ?_
                  | refine swp_true rfl ?_
                  | refine swp_false rfl ?_
                  | refine swp_block ?_
                  | refine swp_skip ?_
                  )
                exact ⟨rfl, k + 1, next_ok (by repeat first | exact Sub.nil _ | refine Sub.cons rfl ?_), ⟨by omega, take_snoc hk2' hy (by simp [opno, wi, ho1, ho2])⟩, by omega⟩
              · have e := hE1 (List.any_eq_true.2 ⟨y, List.mem_of_getElem? hy, by simp [opno, wi]; omega⟩)
                clear hE1 hE2 hi2 hok hm' hy
                rcases (by omega : y.op < 0 ∨ (0 ≤ y.op ∧ 255 < y.op)) with ho' | ⟨ho', ho2⟩
                · repeat' (first
                    | refine swp_seq ?_
                    | (refine gk 0 rfl ?_; first | refine sl_op rfl rfl rfl (by first | exact opv_move rfl rfl | exact opv_assign rfl rfl | exact opv_pick_t rfl rfl rfl ) ?_ | refine sl_pass rfl rfl rfl rfl ?_)
                    | (refine gk 2 rfl ?_; first | refine sl_pass rfl rfl rfl rfl ?_ | refine sl_yes rfl rfl rfl (by first | exact opv_lss rfl rfl rfl ) (by first | omega ) ?_ )
                    | (refine gk 3 rfl ?_; first | refine sl_op rfl rfl rfl (by first | exact opv_load rfl (by exact rfl) rfl (by exact rfl) | exact opv_fieldAddr rfl rfl | exact opv_indexAddrI rfl rfl rfl (by omega) (by omega) (by first | omega ) | exact opv_fieldAddrE rfl rfl (by first | assumption ) | exact opv_loadEx rfl (by exact rfl) (by infer_instance) (by first | assumption ) ) ?_ | refine sl_pass rfl rfl rfl rfl ?_)
                    | (refine gk 4 rfl ?_; first | refine sl_op rfl rfl rfl (by first | exact opv_len rfl rfl rfl rfl rfl ) ?_)
                    | refine sl_region rfl ?_
                    | refine sl_nil ?_
                    | refine thn_k ?_
                    | refine swp_true rfl ?_
                    | refine swp_block ?_
                    | refine swp_ret ?_
                    | refine swp_skip ?_
                    | refine thn_ret ?_
                    | refine inb_ret ?_
                    )
                  refine end_pure (resOk_one (resV_tmp rfl)) ?_
                  rw [e]
                · repeat' (first
                    | refine swp_seq ?_
                    | (refine gk 0 rfl ?_; first | refine sl_op rfl rfl rfl (by first | exact opv_move rfl rfl | exact opv_assign rfl rfl | exact opv_pick_f rfl rfl rfl ) ?_ )
                    | (refine gk 2 rfl ?_; first | refine sl_yes rfl rfl rfl (by first | exact opv_lss rfl rfl rfl | exact opv_gtr rfl rfl rfl ) (by first | omega ) ?_ | refine sl_no rfl rfl rfl (by first | exact opv_lss rfl rfl rfl ) (by first | omega ) ?_ )
                    | (refine gk 3 rfl ?_; first | refine sl_op rfl rfl rfl (by first | exact opv_load rfl (by exact rfl) rfl (by exact rfl) | exact opv_fieldAddr rfl rfl | exact opv_indexAddrI rfl rfl rfl (by omega) (by omega) (by first | omega ) | exact opv_fieldAddrE rfl rfl (by first | assumption ) | exact opv_loadEx rfl (by exact rfl) (by infer_instance) (by first | assumption ) ) ?_ )
                    | (refine gk 4 rfl ?_; first | refine sl_op rfl rfl rfl (by first | exact opv_len rfl rfl rfl rfl rfl ) ?_)
                    | refine sl_region rfl ?_
                    | refine sl_nil ?_
                    | refine thn_k ?_
                    | refine swp_true rfl ?_
                    | refine swp_block ?_
                    | refine swp_ret ?_
                    | refine swp_skip ?_
                    | refine thn_ret ?_
                    | refine inb_ret ?_
                    )
                  refine end_pure (resOk_one (resV_tmp rfl)) ?_
                  rw [e]
            · rw [List.take_of_length_le (by omega)] at hk2'
              repeat' (first
                | refine swp_seq ?_
                | (refine gk 0 rfl ?_; first | refine sl_op rfl rfl rfl (by first | exact opv_move rfl rfl | exact opv_assign rfl rfl ) ?_ )
                | (refine gk 1 rfl ?_; first | refine sl_op rfl rfl rfl (by first | exact opv_add64 rfl rfl rfl (by omega) (by omega) ) ?_ )
                | (refine gk 2 rfl ?_; first | refine sl_no rfl rfl rfl (by first | exact opv_lss rfl rfl rfl ) (by first | omega ) ?_ )
                | (refine gk 3 rfl ?_; first | refine sl_op rfl rfl rfl (by first | exact opv_load rfl (by exact rfl) rfl (by exact rfl) | exact opv_fieldAddr rfl rfl ) ?_ )
                | (refine gk 4 rfl ?_; first | refine sl_op rfl rfl rfl (by first | exact opv_len rfl rfl rfl rfl rfl ) ?_)
                | refine sl_region rfl ?_
                | refine sl_nil ?_
                | refine thn_k ?_
                | refine swp_false rfl ?_
                | refine swp_exit ?_
                )
              exact ⟨rfl, i + 1, next_ok (by repeat first | exact Sub.nil _ | refine Sub.cons rfl ?_), ⟨by omega, take_ok hi2 hm' ⟨hok, List.any_eq_false.2 fun y hy => by simp [hk2' y hy]⟩⟩, by omega⟩
          · have e := hE2 hok
            clear hi2 hE1 hE2 hm' h1 h2 h3 hi1 hj1 hj
            by_cases r1 : (m'.params.length : Int) ≤ m'.lo
            · skip
              by_cases r2 : m'.lo ≤ 16
              · skip
                by_cases r3 : 0 ≤ m'.st
                · skip
                  by_cases r4 : m'.st ≤ 32
                  · skip
                    by_cases r5 : 1 ≤ m'.code.length
                    · skip
                      by_cases r6 : m'.code.length ≤ 256
                      · skip
                        have r7 : m'.params.any (kno cln) = true := by
                          cases ha : m'.params.any (kno cln) with
                          | true => rfl
                          | false => exact absurd ⟨r1, r2, r3, r4, r5, r6, ha⟩ hok
                        rw [r7] at hk
                        clear hok
                        repeat' (first
                          | refine swp_seq ?_
                          | (refine gk 0 rfl ?_; first | refine sl_op rfl rfl rfl (by first | exact opv_move rfl rfl | exact opv_assign rfl rfl | exact opv_pick_f rfl rfl rfl | exact opv_not_f rfl rfl ) ?_ )
                          | (refine gk 2 rfl ?_; first | refine sl_no rfl rfl rfl (by first | exact opv_lss rfl rfl rfl | exact opv_gtr rfl rfl rfl ) (by first | omega ) ?_ )
                          | (refine gk 3 rfl ?_; first | refine sl_op rfl rfl rfl (by first | exact opv_load rfl (by exact rfl) rfl (by exact rfl) | exact opv_fieldAddr rfl rfl ) ?_ )
                          | (refine gk 4 rfl ?_; first | refine sl_op rfl rfl rfl (by first | exact opv_len rfl rfl rfl rfl rfl ) ?_ | refine sl_op rfl rfl rfl (opv_call rfl rfl rfl rfl rfl (hk)) ?_)
                          | refine sl_region rfl ?_
                          | refine sl_nil ?_
                          | refine thn_k ?_
                          | refine swp_true rfl ?_
                          | refine swp_ret ?_
                          | refine thn_ret ?_
                          | refine inb_ret ?_
                          )
                        refine end_pure (resOk_one (resV_tmp rfl)) ?_
                        rw [e]
                      · clear hok hk
                        repeat' (first
                          | refine swp_seq ?_
                          | (refine gk 0 rfl ?_; first | refine sl_op rfl rfl rfl (by first | exact opv_move rfl rfl | exact opv_assign rfl rfl | exact opv_pick_t rfl rfl rfl | exact opv_pick_f rfl rfl rfl ) ?_ | refine sl_pass rfl rfl rfl rfl ?_)
                          | (refine gk 2 rfl ?_; first | refine sl_yes rfl rfl rfl (by first | exact opv_lss rfl rfl rfl | exact opv_gtr rfl rfl rfl ) (by first | omega ) ?_ | refine sl_no rfl rfl rfl (by first | exact opv_lss rfl rfl rfl | exact opv_gtr rfl rfl rfl ) (by first | omega ) ?_ )
                          | (refine gk 3 rfl ?_; first | refine sl_op rfl rfl rfl (by first | exact opv_load rfl (by exact rfl) rfl (by exact rfl) | exact opv_fieldAddr rfl rfl ) ?_ | refine sl_pass rfl rfl rfl rfl ?_)
                          | (refine gk 4 rfl ?_; first | refine sl_pass rfl rfl rfl rfl ?_ | refine sl_op rfl rfl rfl (by first | exact opv_len rfl rfl rfl rfl rfl ) ?_)
                          | refine sl_region rfl ?_
                          | refine sl_nil ?_
                          | refine thn_k ?_
                          | refine swp_true rfl ?_
                          | refine swp_ret ?_
                          | refine thn_ret ?_
                          | refine inb_ret ?_
                          )
                        refine end_pure (resOk_one (resV_tmp rfl)) ?_
                        rw [e]
                    · clear hok hk
                      repeat' (first
                        | refine swp_seq ?_
                        | (refine gk 0 rfl ?_; first | refine sl_op rfl rfl rfl (by first | exact opv_move rfl rfl | exact opv_assign rfl rfl | exact opv_pick_t rfl rfl rfl | exact opv_pick_f rfl rfl rfl ) ?_ | refine sl_pass rfl rfl rfl rfl ?_)
                        | (refine gk 2 rfl ?_; first | refine sl_pass rfl rfl rfl rfl ?_ | refine sl_yes rfl rfl rfl (by first | exact opv_lss rfl rfl rfl | exact opv_gtr rfl rfl rfl ) (by first | omega ) ?_ | refine sl_no rfl rfl rfl (by first | exact opv_lss rfl rfl rfl | exact opv_gtr rfl rfl rfl ) (by first | omega ) ?_ )
                        | (refine gk 3 rfl ?_; first | refine sl_op rfl rfl rfl (by first | exact opv_load rfl (by exact rfl) rfl (by exact rfl) | exact opv_fieldAddr rfl rfl ) ?_ | refine sl_pass rfl rfl rfl rfl ?_)
                        | (refine gk 4 rfl ?_; first | refine sl_pass rfl rfl rfl rfl ?_ | refine sl_op rfl rfl rfl (by first | exact opv_len rfl rfl rfl rfl rfl ) ?_)
                        | refine sl_region rfl ?_
                        | refine sl_nil ?_
                        | refine thn_k ?_
                        | refine swp_true rfl ?_
                        | refine swp_ret ?_
                        | refine thn_ret ?_
                        | refine inb_ret ?_
                        )
                      refine end_pure (resOk_one (resV_tmp rfl)) ?_
                      rw [e]
                  · clear hok hk
                    repeat' (first
                      | refine swp_seq ?_
                      | (refine gk 0 rfl ?_; first | refine sl_op rfl rfl rfl (by first | exact opv_move rfl rfl | exact opv_assign rfl rfl | exact opv_pick_t rfl rfl rfl | exact opv_pick_f rfl rfl rfl ) ?_ | refine sl_pass rfl rfl rfl rfl ?_)
                      | (refine gk 2 rfl ?_; first | refine sl_pass rfl rfl rfl rfl ?_ | refine sl_yes rfl rfl rfl (by first | exact opv_lss rfl rfl rfl | exact opv_gtr rfl rfl rfl ) (by first | omega ) ?_ | refine sl_no rfl rfl rfl (by first | exact opv_lss rfl rfl rfl | exact opv_gtr rfl rfl rfl ) (by first | omega ) ?_ )
                      | (refine gk 3 rfl ?_; first | refine sl_op rfl rfl rfl (by first | exact opv_load rfl (by exact rfl) rfl (by exact rfl) | exact opv_fieldAddr rfl rfl ) ?_ | refine sl_pass rfl rfl rfl rfl ?_)
                      | (refine gk 4 rfl ?_; first | refine sl_pass rfl rfl rfl rfl ?_ | refine sl_op rfl rfl rfl (by first | exact opv_len rfl rfl rfl rfl rfl ) ?_)
                      | refine sl_region rfl ?_
                      | refine sl_nil ?_
                      | refine thn_k ?_
                      | refine swp_true rfl ?_
                      | refine swp_ret ?_
                      | refine thn_ret ?_
                      | refine inb_ret ?_
                      )
                    refine end_pure (resOk_one (resV_tmp rfl)) ?_
                    rw [e]
                · clear hok hk
                  repeat' (first
                    | refine swp_seq ?_
                    | (refine gk 0 rfl ?_; first | refine sl_op rfl rfl rfl (by first | exact opv_move rfl rfl | exact opv_assign rfl rfl | exact opv_pick_t rfl rfl rfl | exact opv_pick_f rfl rfl rfl ) ?_ | refine sl_pass rfl rfl rfl rfl ?_)
                    | (refine gk 2 rfl ?_; first | refine sl_pass rfl rfl rfl rfl ?_ | refine sl_yes rfl rfl rfl (by first | exact opv_lss rfl rfl rfl | exact opv_gtr rfl rfl rfl ) (by first | omega ) ?_ | refine sl_no rfl rfl rfl (by first | exact opv_lss rfl rfl rfl | exact opv_gtr rfl rfl rfl ) (by first | omega ) ?_ )
                    | (refine gk 3 rfl ?_; first | refine sl_op rfl rfl rfl (by first | exact opv_load rfl (by exact rfl) rfl (by exact rfl) | exact opv_fieldAddr rfl rfl ) ?_ | refine sl_pass rfl rfl rfl rfl ?_)
                    | (refine gk 4 rfl ?_; first | refine sl_pass rfl rfl rfl rfl ?_ | refine sl_op rfl rfl rfl (by first | exact opv_len rfl rfl rfl rfl rfl ) ?_)
                    | refine sl_region rfl ?_
                    | refine sl_nil ?_
                    | refine thn_k ?_
                    | refine swp_true rfl ?_
                    | refine swp_ret ?_
                    | refine thn_ret ?_
                    | refine inb_ret ?_
                    )
                  refine end_pure (resOk_one (resV_tmp rfl)) ?_
                  rw [e]
              · clear hok hk
                repeat' (first
                  | refine swp_seq ?_
                  | (refine gk 0 rfl ?_; first | refine sl_op rfl rfl rfl (by first | exact opv_move rfl rfl | exact opv_assign rfl rfl | exact opv_pick_t rfl rfl rfl | exact opv_pick_f rfl rfl rfl ) ?_ | refine sl_pass rfl rfl rfl rfl ?_)
                  | (refine gk 2 rfl ?_; first | refine sl_pass rfl rfl rfl rfl ?_ | refine sl_yes rfl rfl rfl (by first | exact opv_lss rfl rfl rfl | exact opv_gtr rfl rfl rfl ) (by first | omega ) ?_ | refine sl_no rfl rfl rfl (by first | exact opv_lss rfl rfl rfl ) (by first | omega ) ?_ )
                  | (refine gk 3 rfl ?_; first | refine sl_op rfl rfl rfl (by first | exact opv_load rfl (by exact rfl) rfl (by exact rfl) | exact opv_fieldAddr rfl rfl ) ?_ | refine sl_pass rfl rfl rfl rfl ?_)
                  | (refine gk 4 rfl ?_; first | refine sl_pass rfl rfl rfl rfl ?_ | refine sl_op rfl rfl rfl (by first | exact opv_len rfl rfl rfl rfl rfl ) ?_)
                  | refine sl_region rfl ?_
                  | refine sl_nil ?_
                  | refine thn_k ?_
                  | refine swp_true rfl ?_
                  | refine swp_ret ?_
                  | refine thn_ret ?_
                  | refine inb_ret ?_
                  )
                refine end_pure (resOk_one (resV_tmp rfl)) ?_
                rw [e]
            · clear hok hk
              repeat' (first
                | refine swp_seq ?_
                | (refine gk 0 rfl ?_; first | refine sl_op rfl rfl rfl (by first | exact opv_move rfl rfl | exact opv_assign rfl rfl | exact opv_pick_t rfl rfl rfl ) ?_ | refine sl_pass rfl rfl rfl rfl ?_)
                | (refine gk 2 rfl ?_; first | refine sl_pass rfl rfl rfl rfl ?_ | refine sl_yes rfl rfl rfl (by first | exact opv_lss rfl rfl rfl ) (by first | omega ) ?_ )
                | (refine gk 3 rfl ?_; first | refine sl_op rfl rfl rfl (by first | exact opv_load rfl (by exact rfl) rfl (by exact rfl) | exact opv_fieldAddr rfl rfl ) ?_ | refine sl_pass rfl rfl rfl rfl ?_)
                | (refine gk 4 rfl ?_; first | refine sl_pass rfl rfl rfl rfl ?_ | refine sl_op rfl rfl rfl (by first | exact opv_len rfl rfl rfl rfl rfl ) ?_)
                | refine sl_region rfl ?_
                | refine sl_nil ?_
                | refine thn_k ?_
                | refine swp_true rfl ?_
                | refine swp_ret ?_
                | refine thn_ret ?_
                | refine inb_ret ?_
                )
              refine end_pure (resOk_one (resV_tmp rfl)) ?_
              rw [e]
        · rw [List.take_of_length_le (by omega)] at hi2
          repeat' (first
            | refine swp_seq ?_
            | (refine gk 0 rfl ?_; first | refine sl_op rfl rfl rfl (by first | exact opv_move rfl rfl | exact opv_assign rfl rfl ) ?_ )
            | (refine gk 2 rfl ?_; first | refine sl_no rfl rfl rfl (by first | exact opv_lss rfl rfl rfl ) (by first | omega ) ?_ )
            | (refine gk 3 rfl ?_; first | refine sl_op rfl rfl rfl (by first | exact opv_load rfl (by exact rfl) rfl (by exact rfl) | exact opv_fieldAddr rfl rfl ) ?_ )
            | (refine gk 4 rfl ?_; first | refine sl_op rfl rfl rfl (by first | exact opv_len rfl rfl rfl rfl rfl ) ?_)
            | refine sl_region rfl ?_
            | refine sl_nil ?_
            | refine thn_k ?_
            | refine swp_false rfl ?_
            | refine swp_ret ?_
            | refine swp_exit ?_
            )
          refine end_pure (resOk_one (resV_tmp rfl)) ?_
          rw [mayF_iff.2 ⟨by omega, by omega, by omega, h4', by rw [hcl]; exact hj2, by rw [hcl]; exact hi2⟩]
    · have e := hno h4 fun e => by rw [← g6]; exact (mayF_iff.1 e).2.2.2.1 m hm0
      repeat' (first
        | refine swp_seq ?_
        | (refine gk 0 rfl ?_; first | refine sl_op rfl rfl rfl (by first | exact opv_move rfl rfl | exact opv_assign rfl rfl | exact opv_pick_f rfl rfl rfl ) ?_ )
        | (refine gk 2 rfl ?_; first | refine sl_yes rfl rfl rfl (by first | exact opv_lss rfl rfl rfl | exact opv_gtr rfl rfl rfl ) (by first | omega ) ?_ | refine sl_no rfl rfl rfl (by first | exact opv_lss rfl rfl rfl | exact opv_gtr rfl rfl rfl ) (by first | omega ) ?_ )
        | (refine gk 3 rfl ?_; first | refine sl_op rfl rfl rfl (by first | exact opv_load rfl (by exact rfl) rfl (by exact rfl) | exact opv_fieldAddr rfl rfl | exact opv_indexAddrI rfl rfl rfl (by omega) (by omega) (by first | omega ) | exact opv_fieldAddrE rfl rfl (by first | assumption ) | exact opv_loadEx rfl (by exact rfl) (by infer_instance) (by first | assumption ) ) ?_ )
        | (refine gk 4 rfl ?_; first | refine sl_op rfl rfl rfl (by first | exact opv_len rfl rfl rfl rfl rfl ) ?_)
        | (refine gk 5 rfl ?_; first | refine sl_box rfl rfl rfl rfl rfl rfl (fun β => ?_) )
        | refine sl_region rfl ?_
        | refine sl_nil ?_
        | refine thn_k ?_
        | refine swp_true rfl ?_
        | refine swp_ret ?_
        | refine thn_ret ?_
        )
      refine end_pure (resOk_one (resV_tmp rfl)) ?_
      rw [e]
  · have e := hno hx fun e => by obtain ⟨a, b, c, -⟩ := mayF_iff.1 e; omega
    clear hno hcf hmf
    by_cases h1 : cln ≤ 16
    · by_cases h2 : 1 ≤ mn
      · have h3 : ¬ mn ≤ 32 := fun h => hx ⟨h1, h2, h⟩
        clear hx
        repeat' (first
          | refine swp_seq ?_
          | (refine gk 0 rfl ?_; first | refine sl_op rfl rfl rfl (by first | exact opv_move rfl rfl | exact opv_assign rfl rfl | exact opv_pick_t rfl rfl rfl | exact opv_pick_f rfl rfl rfl ) ?_ )
          | (refine gk 2 rfl ?_; first | refine sl_pass rfl rfl rfl rfl ?_ | refine sl_yes rfl rfl rfl (by first | exact opv_lss rfl rfl rfl | exact opv_gtr rfl rfl rfl ) (by first | omega ) ?_ | refine sl_no rfl rfl rfl (by first | exact opv_lss rfl rfl rfl | exact opv_gtr rfl rfl rfl ) (by first | omega ) ?_ )
          | (refine gk 3 rfl ?_; first | refine sl_op rfl rfl rfl (by first | exact opv_load rfl (by exact rfl) rfl (by exact rfl) | exact opv_fieldAddr rfl rfl ) ?_ | refine sl_pass rfl rfl rfl rfl ?_)
          | (refine gk 4 rfl ?_; first | refine sl_pass rfl rfl rfl rfl ?_ | refine sl_op rfl rfl rfl (by first | exact opv_len rfl rfl rfl rfl rfl ) ?_)
          | (refine gk 5 rfl ?_; first | refine sl_box rfl rfl rfl rfl rfl rfl (fun β => ?_) )
          | refine sl_region rfl ?_
          | refine sl_nil ?_
          | refine thn_k ?_
          | refine swp_true rfl ?_
          | refine swp_ret ?_
          | refine thn_ret ?_
          )
        refine end_pure (resOk_one (resV_tmp rfl)) ?_
        rw [e]
      · clear hx
        repeat' (first
          | refine swp_seq ?_
          | (refine gk 0 rfl ?_; first | refine sl_op rfl rfl rfl (by first | exact opv_move rfl rfl | exact opv_assign rfl rfl | exact opv_pick_t rfl rfl rfl | exact opv_pick_f rfl rfl rfl ) ?_ )
          | (refine gk 2 rfl ?_; first | refine sl_pass rfl rfl rfl rfl ?_ | refine sl_yes rfl rfl rfl (by first | exact opv_lss rfl rfl rfl | exact opv_gtr rfl rfl rfl ) (by first | omega ) ?_ | refine sl_no rfl rfl rfl (by first | exact opv_gtr rfl rfl rfl ) (by first | omega ) ?_ )
          | (refine gk 3 rfl ?_; first | refine sl_op rfl rfl rfl (by first | exact opv_load rfl (by exact rfl) rfl (by exact rfl) | exact opv_fieldAddr rfl rfl ) ?_ | refine sl_pass rfl rfl rfl rfl ?_)
          | (refine gk 4 rfl ?_; first | refine sl_pass rfl rfl rfl rfl ?_ | refine sl_op rfl rfl rfl (by first | exact opv_len rfl rfl rfl rfl rfl ) ?_)
          | (refine gk 5 rfl ?_; first | refine sl_box rfl rfl rfl rfl rfl rfl (fun β => ?_) )
          | refine sl_region rfl ?_
          | refine sl_nil ?_
          | refine thn_k ?_
          | refine swp_true rfl ?_
          | refine swp_ret ?_
          | refine thn_ret ?_
          )
        refine end_pure (resOk_one (resV_tmp rfl)) ?_
        rw [e]
    · clear hx
      repeat' (first
        | refine swp_seq ?_
        | (refine gk 0 rfl ?_; first | refine sl_op rfl rfl rfl (by first | exact opv_move rfl rfl | exact opv_assign rfl rfl | exact opv_pick_t rfl rfl rfl ) ?_ )
        | (refine gk 2 rfl ?_; first | refine sl_pass rfl rfl rfl rfl ?_ | refine sl_yes rfl rfl rfl (by first | exact opv_gtr rfl rfl rfl ) (by first | omega ) ?_ )
        | (refine gk 3 rfl ?_; first | refine sl_op rfl rfl rfl (by first | exact opv_load rfl (by exact rfl) rfl (by exact rfl) | exact opv_fieldAddr rfl rfl ) ?_ | refine sl_pass rfl rfl rfl rfl ?_)
        | (refine gk 4 rfl ?_; first | refine sl_pass rfl rfl rfl rfl ?_ | refine sl_op rfl rfl rfl (by first | exact opv_len rfl rfl rfl rfl rfl ) ?_)
        | (refine gk 5 rfl ?_; first | refine sl_box rfl rfl rfl rfl rfl rfl (fun β => ?_) )
        | refine sl_region rfl ?_
        | refine sl_nil ?_
        | refine thn_k ?_
        | refine swp_true rfl ?_
        | refine swp_ret ?_
        | refine thn_ret ?_
        )
      refine end_pure (resOk_one (resV_tmp rfl)) ?_
      rw [e]
end Go.Proofs.YtjdjkcebflablaaDoor
