/- Going through a method, walked. -/
import Derived.Test.YtifhhfeibnpaoaaWA12
namespace Go.Proofs.Ytifhhfeibnpaoaa
open Go.SL
set_option maxRecDepth 100000
set_option maxHeartbeats 16000000
attribute [local irreducible] SL.T PFn OpV SOL SWP HOp ChU
structure GW where
  k : Nat
  hM : Heap
  hO : Heap
  ob : Option Addr
  oc : Nat
  f : Int → Option Value
  V : List Int
  stk : Int → List Int
  n : Nat
/-- How far going through is. -/
structure GI (cs : List Ins) (K : Heap) (bm : Nat) (hM hO : Heap) (ob : Option Addr) (oc : Nat) (f : Int → Option Value) (V : List Int) (stk : Int → List Int) : Prop where
  mp : MP hM bm .i64 f
  os : OS hO ob V.length oc 3 1 (V.map i64)
  ws : WS cs K f V stk
theorem gone_big (J : Heap) (p : Value) (lo st : Int) (cb : Option Addr) (cl cc : Nat) (cs : List Ins) [Sl J cb (flatI cs)] (hl : cs.length = cl) (hsm : cl ≤ 1000000) (h0 : 0 < cl) :
    SL.T Try.prog 26 [mth p lo st cb cl cc] [J] fun e o => ∃ K hM hO βw bm ob oc f V stk i k n wr, o = [J, K, wBlk βw p lo st cb cl cc bm ob V.length oc wr, hM] ∧ e = .returned (.pointer (some ⟨βw, 0, none⟩)) ∧
      GI cs K bm hM hO ob oc f V stk ∧ GS.run cs n = ⟨V, stk, i, k, some wr⟩ := by
  refine t_of_body Try.func26 rfl (Nat.le_of_ble_eq_true rfl) fun F => ?_
  refine swp_emp ?_
  refine swp_emp ?_
  have mp0 : ∀ b, MP (blk b (.map #[] 0)) b .i64 (fun _ => none) := fun b => MP.nil
  repeat' (first
    | refine sl_makeMap rfl rfl rfl rfl (fun bm => ?_)
    | refine swp_seq ?_
    | (refine gk 3 rfl ?_; first | refine sl_op rfl rfl rfl (by first | exact opv_load rfl (by exact rfl) rfl (by exact rfl) | exact opv_loadA rfl (by exact rfl) rfl (by exact rfl) (by exact rfl) ) ?_ )
    | (refine gk 4 rfl ?_; first | (refine sl_callT rfl rfl rfl rfl rfl rfl rfl rfl (come_new (blk bm (.map #[] 0)) emp _ p lo st cb cl cc bm none 0 0 (-1) 0 _ (.slice none 0 0) [] ⟨by omega, by omega⟩ (mp0 bm) rfl OS.nil (by omega)) ?_; rintro _ _ ⟨rfl, hM, hO, ob, oc, rfl, mp, os⟩; refine ⟨_, _, rfl, rfl, ?_⟩) | (refine sl_callT rfl rfl rfl rfl rfl rfl rfl rfl (places_calls _) ?_; rintro _ _ ⟨β5, rfl, rfl⟩; refine ⟨_, _, rfl, rfl, ?_⟩))
    | (refine gk 5 rfl ?_; first | refine sl_op rfl rfl rfl (by first | exact opv_build rfl rfl (by exact rfl) ) ?_ | refine sl_box rfl rfl rfl rfl rfl rfl (fun β => ?_) | refine sl_alloc rfl rfl rfl rfl (by exact rfl) (fun β => ?_) | refine sl_store rfl rfl rfl rfl rfl rfl (by exact rfl) rfl (by exact rfl) ?_)
    | refine sl_region rfl ?_
    | refine sl_nil ?_
    | refine thn_k ?_
    | refine swp_block ?_
    )
  rename_i iJ β1 β2 βw
  obtain ⟨β3, rfl⟩ : ∃ x, x = β := ⟨_, rfl⟩
  clear mp0
  refine swp_rangeL (hsI := [blk β5 (.cells ⟨[.pointer (some ⟨βw, 0, none⟩)]⟩ 67 (0, 0))]) (nx := nxW βw)
    (fun i own1 => ∃ K hM hO ob oc f V stk n, own1 = [wBlk βw p lo st cb cl cc bm ob V.length oc (-1), hM, hO, blk β3 (.cells ⟨[.pointer (some ⟨βw, 0, none⟩)]⟩ 67 (0, 0)), blk β2 (.cells ⟨[.pointer none]⟩ 67 (0, 0)), mBlk β1 p lo st cb cl cc, K, J] ∧ GI cs K bm hM hO ob oc f V stk ∧ GS.run cs n = ⟨V, stk, i, 0, none⟩)
    (fun own1 => ∃ K hM hO ob oc f V stk n i k, own1 = [wBlk βw p lo st cb cl cc bm ob V.length oc (-1), hM, hO, blk β3 (.cells ⟨[.pointer (some ⟨βw, 0, none⟩)]⟩ 67 (0, 0)), blk β2 (.cells ⟨[.pointer none]⟩ 67 (0, 0)), mBlk β1 p lo st cb cl cc, K, J] ∧ GI cs K bm hM hO ob oc f V stk ∧ GS.run cs n = ⟨V, stk, i, k, some (-1)⟩)
    (fun c own1 => c = .ret ∧ ∃ K hM hO ob oc f V stk n i k wr, own1 = [wBlk βw p lo st cb cl cc bm ob V.length oc wr, hM, hO, blk β3 (.cells ⟨[.pointer (some ⟨βw, 0, none⟩)]⟩ 67 (0, 0)), blk β2 (.cells ⟨[.pointer (some ⟨βw, 0, none⟩)]⟩ 67 (0, 0)), mBlk β1 p lo st cb cl cc, K, J] ∧ GI cs K bm hM hO ob oc f V stk ∧ GS.run cs n = ⟨V, stk, i, k, some wr⟩)
    rfl (places_iter βw β5) (nxW_mono βw) rfl ?_ ?_ ?_ ?_
  · exact ⟨emp, hM, hO, ob, oc, _, [0], fun _ => [], 0, rfl, ⟨mp, os, WS.first (by omega)⟩, rfl⟩
  · clear mp os
    clear hM hO ob oc
    rintro L i own1 ⟨K, hM, hO, ob, oc, f, V, stk, n, rfl, gi, hg⟩ hdj
    have hVl := gi.ws.len
    have hb1 := hle_joins hdj (List.mem_cons_self ..) _ _ (blk_self _ _)
    have hb2 := gi.os.sl.mono (hle_joins hdj (List.mem_cons_of_mem _ (List.mem_cons_of_mem _ (List.mem_cons_self ..))))
    rcases hV : V[i]? with _ | z
    · exact .inr ⟨⟨_, _, _, _, _, ob, V.length, oc, _, V, hb1, hb2, rfl, by omega, by rw [hV]; rfl⟩, K, hM, hO, ob, oc, f, V, stk, n + 1, i, 0, rfl, gi, by rw [run_step hg, step_done hV]⟩
    · refine .inl ⟨[i64 z], ⟨_, _, _, _, _, ob, V.length, oc, _, V, hb1, hb2, rfl, by omega, by rw [hV]; rfl⟩, rfl, fun F1 => ⟨_, rfl, ?_⟩⟩
      have hzm := List.mem_of_getElem? hV
      obtain ⟨hz0, hz1⟩ := gi.ws.rng z hzm
      obtain ⟨b, n1, c, hf, slb, hln, hnc, hn8⟩ := gi.ws.inn z hzm
      obtain ⟨zn, rfl⟩ := Int.eq_ofNat_of_zero_le hz0
      have hB := wbehind_K J K hM βw p lo st cb cl cc bm ob V.length oc (-1) cs zn f b n1 c (stk zn) slb hl hsm (by omega) gi.mp hf hln hnc (by omega)
      rcases hb : behF cs zn (stk zn) with _ | s
      · rw [hb] at hB
        repeat' (first
          | (refine gk 0 rfl ?_; first | refine sl_op rfl rfl rfl (by first | exact opv_assign rfl rfl ) ?_ )
          | refine sl_region rfl ?_
          | refine sl_nil ?_
          | refine thn_k ?_
          )
        intro F2
        repeat' (first
          | refine swp_seq ?_
          | (refine gk 0 rfl ?_; first | refine sl_op rfl rfl rfl (by first | exact opv_move rfl rfl | exact opv_assign rfl rfl | exact opv_not_f rfl rfl | exact opv_extract rfl rfl rfl ) ?_ )
          | (refine gk 3 rfl ?_; first | refine sl_op rfl rfl rfl (by first | exact opv_load rfl (by exact rfl) rfl (by exact rfl) | exact opv_fieldAddr rfl rfl ) ?_ )
          | (refine gk 4 rfl ?_; first | (refine sl_callT rfl rfl rfl rfl rfl rfl rfl rfl (hB) ?_; rintro _ _ ⟨K', rfl, hK, b', n', c', rfl, hS⟩; refine ⟨_, _, rfl, rfl, ?_⟩))
          | (refine gk 5 rfl ?_; first | refine sl_op rfl rfl rfl (by first | exact opv_nilCheck rfl rfl ) ?_ | refine sl_store rfl rfl rfl rfl rfl rfl (by exact rfl) rfl (by exact rfl) ?_)
          | refine sl_region rfl ?_
          | refine sl_nil ?_
          | refine thn_k ?_
          | refine swp_true rfl ?_
          | refine swp_block ?_
          | refine swp_ret ?_
          | refine thn_ret ?_
          | refine inb_ret ?_
          )
        exact round_ret [wBlk βw p lo st cb cl cc bm ob V.length oc zn, hM, hO, blk β3 (.cells ⟨[.pointer (some ⟨βw, 0, none⟩)]⟩ 67 (0, 0)), blk β2 (.cells ⟨[.pointer (some ⟨βw, 0, none⟩)]⟩ 67 (0, 0)), mBlk β1 p lo st cb cl cc, K', J] ⟨rfl, K', hM, hO, ob, oc, f, V, stk, n + 1, i, 0, zn, rfl, ⟨gi.mp, gi.os, gi.ws.mono hK⟩, by rw [run_step hg, step_bad hV hb]⟩
      · rw [hb] at hB
        repeat' (first
          | (refine gk 0 rfl ?_; first | refine sl_op rfl rfl rfl (by first | exact opv_assign rfl rfl ) ?_ )
          | refine sl_region rfl ?_
          | refine sl_nil ?_
          | refine thn_k ?_
          )
        intro F2
        have hnl := nxt_length cs (zn : Int)
        repeat' (first
          | refine swp_seq ?_
          | (refine gk 0 rfl ?_; first | refine sl_op rfl rfl rfl (by first | exact opv_move rfl rfl | exact opv_assign rfl rfl | exact opv_not_t rfl rfl | exact opv_extract rfl rfl rfl ) ?_ )
          | (refine gk 3 rfl ?_; first | refine sl_op rfl rfl rfl (by first | exact opv_load rfl (by exact rfl) rfl (by exact rfl) | exact opv_loadA rfl (by exact rfl) rfl (by exact rfl) (by exact rfl) ) ?_ )
          | (refine gk 4 rfl ?_; first | refine sl_op rfl rfl rfl (by first | exact opv_len rfl rfl rfl rfl rfl ) ?_ | (refine sl_callT rfl rfl rfl rfl rfl rfl rfl rfl (hB) ?_; rintro _ _ ⟨K', rfl, hK, b', n', c', rfl, hS⟩; obtain ⟨hs1, hs2, hs3⟩ := hS _ rfl; refine ⟨_, _, rfl, rfl, ?_⟩) | (refine sl_callW rfl rfl rfl rfl rfl rfl rfl rfl (Next_W _ p lo st cb cl cc cs (zn : Int) hl (by omega)) ?_; rintro _ _ ⟨hN, bN, cN, rfl, rfl, osN⟩; haveI slN := osN.sl; refine ⟨_, _, rfl, rfl, ?_⟩))
          | refine sl_region rfl ?_
          | refine sl_nil ?_
          | refine thn_k ?_
          | refine swp_false rfl ?_
          | refine swp_block ?_
          | refine swp_skip ?_
          )
        have hs8 := behF_len hb (by omega)
        have gi2 : GI cs K' bm hM hO ob oc f V stk := ⟨gi.mp, gi.os, gi.ws.mono hK⟩
        clear osN hB
        refine swp_loopS (fun s : GW => [(1, .pointer (some ⟨β1, 0, none⟩)), (2, .pointer (some ⟨β2, 0, none⟩)), (3, .pointer (some ⟨β3, 0, none⟩)), (5, .slice b' n' c'), (33, .slice bN (nxt cs (zn : Int)).length cN), (34, i64 ((nxt cs (zn : Int)).length : Int)), (35, i64 (s.k : Int))])
          (fun s => [hN, wBlk βw p lo st cb cl cc bm s.ob s.V.length s.oc (-1), s.hM, s.hO, blk β3 (.cells ⟨[.pointer (some ⟨βw, 0, none⟩)]⟩ 67 (0, 0)), blk β2 (.cells ⟨[.pointer none]⟩ 67 (0, 0)), mBlk β1 p lo st cb cl cc, K', J])
          (fun s => s.k ≤ (nxt cs (zn : Int)).length ∧ GI cs K' bm s.hM s.hO s.ob s.oc s.f s.V s.stk ∧ GS.run cs s.n = ⟨s.V, s.stk, i, s.k, none⟩ ∧ s.V[i]? = some (zn : Int) ∧ s.stk zn = stk zn)
          (fun s => (nxt cs (zn : Int)).length - s.k) ⟨0, hM, hO, ob, oc, f, V, stk, n⟩ (by repeat first | exact Sub.nil _ | refine Sub.cons rfl ?_) ⟨Nat.zero_le _, gi2, hg, hV, rfl⟩ ?_
        clear gi2 gi hg hV hf hVl hb1 hb2
        rintro ⟨k, hM, hO, ob, oc, f, V, stk', n⟩ ⟨hk, gi, hg, hV, hst⟩
        dsimp only at hk gi hg hV hst ⊢
        have hVl := gi.ws.len
        have hb : behF cs zn (stk' zn) = some s := by rw [hst]; exact hb
        by_cases hk2 : k < (nxt cs (zn : Int)).length
        · obtain ⟨t, ht⟩ : ∃ t, (nxt cs (zn : Int))[k]? = some t := ⟨_, List.getElem?_eq_getElem hk2⟩
          have hct : ((nxt cs (zn : Int)).map i64)[((k : Nat) : Int).toNat * 1]? = some (i64 t) := by simp [ht]
          by_cases hr : 0 ≤ t ∧ t < (cl : Int)
          · have hr' : 0 ≤ t ∧ t < (cs.length : Int) := by rw [hl]; exact hr
            by_cases hv : t ∈ V
            · obtain ⟨b1, n2, c1, hf1, sl1, hl1, hc1, h81⟩ := gi.ws.inn t hv
              haveI := hs3
              haveI := sl1
              have hC := come_was K' hM βw p lo st cb cl cc bm ob V.length oc (-1) t f b' b1 n' c' n2 c1 s (stk' t) hr gi.mp hf1 hs1 hl1 (by omega) (by omega)
              by_cases he : stk' t = s
              · rw [decide_eq_true he] at hC
                repeat' (first
                  | refine swp_seq ?_
                  | (refine gk 0 rfl ?_; first | refine sl_op rfl rfl rfl (by first | exact opv_move rfl rfl | exact opv_assign rfl rfl | exact opv_not_t rfl rfl ) ?_ )
                  | (refine gk 1 rfl ?_; first | refine sl_op rfl rfl rfl (by first | exact opv_add64 rfl rfl rfl (by omega) (by omega) ) ?_ )
                  | (refine gk 2 rfl ?_; first | refine sl_yes rfl rfl rfl (by first | exact opv_lss rfl rfl rfl ) (by first | omega ) ?_ )
                  | (refine gk 3 rfl ?_; first | refine sl_op rfl rfl rfl (by first | exact opv_load rfl (by exact rfl) rfl (by exact rfl) | exact opv_indexAddrI rfl rfl rfl (by omega) (by omega) (by first | (simp only [List.length_map]; omega) ) | exact opv_loadEx rfl (by exact rfl) (by infer_instance) (by first | assumption ) ) ?_ )
                  | (refine gk 4 rfl ?_; first | refine sl_op rfl rfl rfl (opv_call rfl rfl rfl rfl rfl (hC)) ?_)
                  | refine sl_region rfl ?_
                  | refine sl_nil ?_
                  | refine thn_k ?_
                  | refine swp_true rfl ?_
                  | refine swp_false rfl ?_
                  | refine swp_block ?_
                  | refine swp_skip ?_
                  )
                exact ⟨rfl, ⟨k + 1, hM, hO, ob, oc, f, V, stk', n + 1⟩, next_ok (by repeat first | exact Sub.nil _ | refine Sub.cons rfl ?_), ⟨hk2, gi, by rw [run_step hg, step_same hV hb ht hr' hv he], hV, hst⟩, by dsimp only; omega⟩
              · rw [decide_eq_false he] at hC
                repeat' (first
                  | refine swp_seq ?_
                  | (refine gk 0 rfl ?_; first | refine sl_op rfl rfl rfl (by first | exact opv_move rfl rfl | exact opv_assign rfl rfl | exact opv_not_f rfl rfl ) ?_ )
                  | (refine gk 2 rfl ?_; first | refine sl_yes rfl rfl rfl (by first | exact opv_lss rfl rfl rfl ) (by first | omega ) ?_ )
                  | (refine gk 3 rfl ?_; first | refine sl_op rfl rfl rfl (by first | exact opv_load rfl (by exact rfl) rfl (by exact rfl) | exact opv_fieldAddr rfl rfl | exact opv_indexAddrI rfl rfl rfl (by omega) (by omega) (by first | (simp only [List.length_map]; omega) ) | exact opv_loadEx rfl (by exact rfl) (by infer_instance) (by first | assumption ) ) ?_ )
                  | (refine gk 4 rfl ?_; first | refine sl_op rfl rfl rfl (opv_call rfl rfl rfl rfl rfl (hC)) ?_)
                  | (refine gk 5 rfl ?_; first | refine sl_op rfl rfl rfl (by first | exact opv_nilCheck rfl rfl ) ?_ | refine sl_store rfl rfl rfl rfl rfl rfl (by exact rfl) rfl (by exact rfl) ?_)
                  | refine sl_region rfl ?_
                  | refine sl_nil ?_
                  | refine thn_k ?_
                  | refine swp_true rfl ?_
                  | refine swp_block ?_
                  | refine swp_ret ?_
                  | refine swp_skip ?_
                  | refine thn_ret ?_
                  | refine inb_ret ?_
                  )
                exact round_ret [wBlk βw p lo st cb cl cc bm ob V.length oc t, hM, hO, blk β3 (.cells ⟨[.pointer (some ⟨βw, 0, none⟩)]⟩ 67 (0, 0)), blk β2 (.cells ⟨[.pointer (some ⟨βw, 0, none⟩)]⟩ 67 (0, 0)), mBlk β1 p lo st cb cl cc, K', J] ⟨rfl, K', hM, hO, ob, oc, f, V, stk', n + 1, i, k, t, rfl, gi, by rw [run_step hg, step_other hV hb ht hr' hv he]⟩
            · obtain ⟨hf0, hs0⟩ := gi.ws.out t hv
              repeat' (first
                | refine swp_seq ?_
                | (refine gk 0 rfl ?_; first | refine sl_op rfl rfl rfl (by first | exact opv_move rfl rfl | exact opv_assign rfl rfl | exact opv_not_t rfl rfl ) ?_ )
                | (refine gk 1 rfl ?_; first | refine sl_op rfl rfl rfl (by first | exact opv_add64 rfl rfl rfl (by omega) (by omega) ) ?_ )
                | (refine gk 2 rfl ?_; first | refine sl_yes rfl rfl rfl (by first | exact opv_lss rfl rfl rfl ) (by first | omega ) ?_ )
                | (refine gk 3 rfl ?_; first | refine sl_op rfl rfl rfl (by first | exact opv_load rfl (by exact rfl) rfl (by exact rfl) | exact opv_indexAddrI rfl rfl rfl (by omega) (by omega) (by first | (simp only [List.length_map]; omega) ) | exact opv_loadEx rfl (by exact rfl) (by infer_instance) (by first | assumption ) ) ?_ )
                | (refine gk 4 rfl ?_; first | (refine sl_callT rfl rfl rfl rfl rfl rfl rfl rfl (come_new hM hO βw p lo st cb cl cc bm ob V.length oc (-1) t f (.slice b' n' c') V hr gi.mp hf0 gi.os (by omega)) ?_; rintro _ _ ⟨rfl, hM2, hO2, ob2, oc2, rfl, mp2, os2⟩; refine ⟨_, _, rfl, rfl, ?_⟩))
                | refine sl_region rfl ?_
                | refine sl_nil ?_
                | refine thn_k ?_
                | refine swp_true rfl ?_
                | refine swp_false rfl ?_
                | refine swp_block ?_
                | refine swp_skip ?_
                )
              refine ⟨rfl, ⟨k + 1, hM2, hO2, ob2, oc2, _, V ++ [t], fun q => if q = t then s else stk' q, n + 1⟩, ?_, ⟨hk2, ⟨mp2, by rw [List.length_append]; exact os2, gi.ws.add hr' hv hs3 hs1 hs2 (by omega)⟩, by rw [run_step hg, step_new hV hb ht hr' hv], ?_, ?_⟩, by dsimp only; omega⟩
              · dsimp only
                rw [List.length_append]
                exact next_ok (by repeat first | exact Sub.nil _ | refine Sub.cons rfl ?_)
              · dsimp only
                rw [List.getElem?_append_left (List.getElem?_eq_some_iff.1 hV).1]; exact hV
              · dsimp only
                rw [if_neg (fun e => hv (by rw [← e]; exact List.mem_of_getElem? hV))]; exact hst
          · have hr' : ¬ (0 ≤ t ∧ t < (cs.length : Int)) := by rw [hl]; exact hr
            repeat' (first
              | refine swp_seq ?_
              | (refine gk 0 rfl ?_; first | refine sl_op rfl rfl rfl (by first | exact opv_move rfl rfl | exact opv_assign rfl rfl | exact opv_not_t rfl rfl ) ?_ )
              | (refine gk 1 rfl ?_; first | refine sl_op rfl rfl rfl (by first | exact opv_add64 rfl rfl rfl (by omega) (by omega) ) ?_ )
              | (refine gk 2 rfl ?_; first | refine sl_yes rfl rfl rfl (by first | exact opv_lss rfl rfl rfl ) (by first | omega ) ?_ )
              | (refine gk 3 rfl ?_; first | refine sl_op rfl rfl rfl (by first | exact opv_load rfl (by exact rfl) rfl (by exact rfl) | exact opv_indexAddrI rfl rfl rfl (by omega) (by omega) (by first | (simp only [List.length_map]; omega) ) | exact opv_loadEx rfl (by exact rfl) (by infer_instance) (by first | assumption ) ) ?_ )
              | (refine gk 4 rfl ?_; first | refine sl_op rfl rfl rfl (opv_call rfl rfl rfl rfl rfl (come_out βw p lo st cb cl cc bm ob V.length oc (-1) t _ (by omega))) ?_)
              | refine sl_region rfl ?_
              | refine sl_nil ?_
              | refine thn_k ?_
              | refine swp_true rfl ?_
              | refine swp_false rfl ?_
              | refine swp_block ?_
              | refine swp_skip ?_
              )
            exact ⟨rfl, ⟨k + 1, hM, hO, ob, oc, f, V, stk', n + 1⟩, next_ok (by repeat first | exact Sub.nil _ | refine Sub.cons rfl ?_), ⟨hk2, gi, by rw [run_step hg, step_out hV hb ht hr'], hV, hst⟩, by dsimp only; omega⟩
        · have hkn : (nxt cs (zn : Int))[k]? = none := List.getElem?_eq_none (by omega)
          repeat' (first
            | refine swp_seq ?_
            | (refine gk 2 rfl ?_; first | refine sl_no rfl rfl rfl (by first | exact opv_lss rfl rfl rfl ) (by first | omega ) ?_ )
            | refine sl_region rfl ?_
            | refine sl_nil ?_
            | refine swp_false rfl ?_
            | refine swp_exit ?_
            | refine inb_k ?_
            | refine thn_exit ?_
            | refine inb_exit ?_
            )
          exact round_end [wBlk βw p lo st cb cl cc bm ob V.length oc (-1), hM, hO, blk β3 (.cells ⟨[.pointer (some ⟨βw, 0, none⟩)]⟩ 67 (0, 0)), blk β2 (.cells ⟨[.pointer none]⟩ 67 (0, 0)), mBlk β1 p lo st cb cl cc, K', J] ⟨K', hM, hO, ob, oc, f, V, stk', n + 1, rfl, gi, by rw [run_step hg, step_next hV hb hkn]⟩
  · clear mp os
    clear hM hO ob oc
    rintro D own1 ⟨K, hM, hO, ob, oc, f, V, stk, n, i, k, rfl, gi, hg⟩
    refine ⟨_, rfl, ?_⟩
    repeat' (first
      | refine swp_seq ?_
      | (refine gk 3 rfl ?_; first | refine sl_op rfl rfl rfl (by first | exact opv_load rfl (by exact rfl) rfl (by exact rfl) ) ?_ )
      | (refine gk 5 rfl ?_; first | refine sl_store rfl rfl rfl rfl rfl rfl (by exact rfl) rfl (by exact rfl) ?_)
      | refine sl_region rfl ?_
      | refine sl_nil ?_
      | refine thn_k ?_
      | refine swp_ret ?_
      )
    exact end_retL [J, K, wBlk βw p lo st cb cl cc bm ob V.length oc (-1), hM] (resOk_one (resV_cell rfl rfl rfl)) ⟨K, hM, hO, βw, bm, ob, oc, f, V, stk, i, k, n, -1, rfl, rfl, gi, hg⟩
  · clear mp os
    clear hM hO ob oc
    rintro D c own1 ⟨rfl, K, hM, hO, ob, oc, f, V, stk, n, i, k, wr, rfl, gi, hg⟩
    refine ⟨_, rfl, ?_⟩
    repeat' (first
      | refine swp_ret ?_
      | refine thn_ret ?_
      | refine inb_ret ?_
      )
    exact end_retL [J, K, wBlk βw p lo st cb cl cc bm ob V.length oc wr, hM] (resOk_one (resV_cell rfl rfl rfl)) ⟨K, hM, hO, βw, bm, ob, oc, f, V, stk, i, k, n, wr, rfl, rfl, gi, hg⟩
end Go.Proofs.Ytifhhfeibnpaoaa
