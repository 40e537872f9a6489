/- The document's answer of layer 27: how far places are, walked; what is reached; codes cut as they come. -/
import Derived.Test.YtgcajldkegdllaaWT4
namespace Go.Proofs.Ytgcajldkegdllaa
open Go.SL
set_option maxRecDepth 100000
set_option maxHeartbeats 16000000
attribute [local irreducible] SL.T PFn OpV SOL SWP HOp ChU
theorem initP_end {n j : Nat} (h : n ≤ j) : initP n j = initP n n := by
  unfold initP
  apply List.map_congr_left
  intro z hz
  rw [List.mem_range] at hz
  by_cases h0 : 0 < z
  · rw [if_pos ⟨h0, by omega⟩, if_pos ⟨h0, hz⟩]
  · rw [if_neg (fun x => h0 x.1), if_neg (fun x => h0 x.1)]
structure SQ where
  k : Nat
  h : Heap
  o : List Int
theorem rFar_calls (J : Heap) (p : Value) (lo st : Int) (cb : Option Addr) (cl cc : Nat) (cs : List Ins) [Sl J cb (flatI cs)] (hl : cs.length = cl) (hsm : cl ≤ 4000000) :
    SL.T Try.prog 12 [mth p lo st cb cl cc] [J] fun e o => ∃ N, o = J :: N ∧ ∃ h b, ∃ out : List Int, e = .returned (.slice b cl cl) ∧ N = [h] ∧ OS h b cl cl 3 1 (out.map i64) ∧ out.length = cl ∧ Dist cs (fun z => out.getD z 0) := by
  refine t_of_body Try.func12 rfl (Nat.le_of_ble_eq_true rfl) fun F => ?_
  repeat' (first
    | refine sl_makeSlice rfl rfl rfl rfl rfl rfl rfl (by omega) (by omega) (fun bS hS osS => ?_)
    | refine swp_seq ?_
    | (refine gk 0 rfl ?_; first | refine sl_op rfl rfl rfl (by first | exact opv_assign rfl rfl ) ?_ )
    | (refine gk 3 rfl ?_; first | refine sl_op rfl rfl rfl (by first | exact opv_load rfl (by exact rfl) rfl (by exact rfl) | exact opv_fieldAddr rfl rfl ) ?_ )
    | (refine gk 4 rfl ?_; first | refine sl_op rfl rfl rfl (by first | exact opv_len rfl rfl rfl rfl rfl ) ?_)
    | (refine gk 5 rfl ?_; first | refine sl_box rfl rfl rfl rfl rfl rfl (fun β => ?_) )
    | refine sl_region rfl ?_
    | refine sl_nil ?_
    | refine thn_k ?_
    | refine swp_block ?_
    )
  obtain ⟨β1, rfl⟩ : ∃ x, x = β := ⟨_, rfl⟩
  have hi0 : (List.replicate cl (Value.int .i64 0)) = (initP cl 1).map i64 := by
    apply List.ext_getElem?
    intro i
    by_cases hi : i < cl
    · have : ¬ (0 < i ∧ i < 1) := by omega
      simp only [initP, List.getElem?_replicate, List.getElem?_map, List.getElem?_range hi, Option.map_some, if_pos hi, if_neg this]
    · simp [initP, hi]
  rw [hi0] at osS
  refine swp_loopS (fun s : SH => [(1, .pointer (some ⟨β1, 0, none⟩)), (3, .slice (some ⟨bS, 0, none⟩) cl cl), (4, i64 (s.j : Int))])
    (fun s => [s.h, J, mBlk β1 p lo st cb cl cc]) (fun s => 0 < s.j ∧ (s.j ≤ cl ∨ s.j = 1) ∧ OS s.h (some ⟨bS, 0, none⟩) cl cl 3 1 ((initP cl s.j).map i64)) (fun s => cl - s.j) ⟨1, hS⟩ (by repeat first | exact Sub.nil _ | refine Sub.cons rfl ?_) ⟨Nat.one_pos, .inr rfl, osS⟩ ?_
  rintro ⟨j, H⟩ ⟨hj0, hj1, os⟩
  dsimp only at hj0 hj1 os ⊢
  have hil := initP_length cl j
  by_cases hj : j < cl
  · haveI sl := os.sl
    repeat' (first
      | refine sl_storeE rfl rfl rfl rfl rfl os rfl rfl rfl (by decide) (by simp; omega) (set_cells (j := j) (by simp) (by omega)) (fun h1 os1 => ?_)
      | refine swp_seq ?_
      | (refine gk 0 rfl ?_; first | refine sl_op rfl rfl rfl (by first | exact opv_move rfl rfl | exact opv_assign rfl rfl ) ?_ )
      | (refine gk 1 rfl ?_; first | refine sl_op rfl rfl rfl (by first | exact opv_add64 rfl rfl rfl (by omega) (by omega) ) ?_ )
      | (refine gk 2 rfl ?_; first | refine sl_yes rfl rfl rfl (by first | exact opv_lss rfl rfl rfl ) (by first | omega ) ?_ )
      | (refine gk 3 rfl ?_; first | refine sl_op rfl rfl rfl (by first | exact opv_indexAddrI rfl rfl rfl (by omega) (by omega) (by first | (simp only [List.length_map]; omega) ) ) ?_ )
      | (refine gk 4 rfl ?_; first | refine sl_op rfl rfl rfl (by first | exact opv_len rfl rfl rfl rfl rfl ) ?_)
      | refine sl_region rfl ?_
      | refine sl_nil ?_
      | refine thn_k ?_
      | refine swp_true rfl ?_
      | refine swp_block ?_
      | refine swp_skip ?_
      )
    refine ⟨rfl, ⟨j + 1, h1⟩, next_ok (by repeat first | exact Sub.nil _ | refine Sub.cons rfl ?_), ⟨by dsimp only; omega, by dsimp only; omega, ?_⟩, by dsimp only; omega⟩
    rw [initP_set hj0 hj] at os1; exact os1
  · rw [initP_end (by omega)] at os
    have lv0 : Lev cs (initP cl cl) 0 0 0 := by rw [← hl]; exact lev_start
    clear hil hj0 hj1 osS hi0
    repeat' (first
      | refine swp_seq ?_
      | (refine gk 0 rfl ?_; first | refine sl_op rfl rfl rfl (by first | exact opv_move rfl rfl | exact opv_assign rfl rfl ) ?_ )
      | (refine gk 2 rfl ?_; first | refine sl_no rfl rfl rfl (by first | exact opv_lss rfl rfl rfl ) (by first | omega ) ?_ )
      | (refine gk 4 rfl ?_; first | refine sl_op rfl rfl rfl (by first | exact opv_len rfl rfl rfl rfl rfl ) ?_)
      | refine sl_region rfl ?_
      | refine sl_nil ?_
      | refine thn_k ?_
      | refine swp_false rfl ?_
      | refine swp_block ?_
      | refine swp_exit ?_
      )
    refine swp_loopS (fun s : SQ => [(1, .pointer (some ⟨β1, 0, none⟩)), (3, .slice (some ⟨bS, 0, none⟩) cl cl), (5, i64 (s.k : Int))])
      (fun s => [s.h, J, mBlk β1 p lo st cb cl cc]) (fun s => s.k ≤ cl ∧ OS s.h (some ⟨bS, 0, none⟩) cl cl 3 1 (s.o.map i64) ∧ Lev cs s.o s.k 0 0) (fun s => cl - s.k) ⟨0, H, initP cl cl⟩ (by repeat first | exact Sub.nil _ | refine Sub.cons rfl ?_) ⟨Nat.zero_le _, os, lv0⟩ ?_
    clear os lv0
    rintro ⟨L, H, o⟩ ⟨hL1, os, lv⟩
    dsimp only at hL1 os lv ⊢
    by_cases hL : L < cl
    · repeat' (first
        | refine swp_seq ?_
        | (refine gk 0 rfl ?_; first | refine sl_op rfl rfl rfl (by first | exact opv_move rfl rfl | exact opv_assign rfl rfl ) ?_ )
        | (refine gk 2 rfl ?_; first | refine sl_yes rfl rfl rfl (by first | exact opv_lss rfl rfl rfl ) (by first | omega ) ?_ )
        | (refine gk 4 rfl ?_; first | refine sl_op rfl rfl rfl (by first | exact opv_len rfl rfl rfl rfl rfl ) ?_)
        | refine sl_region rfl ?_
        | refine sl_nil ?_
        | refine thn_k ?_
        | refine swp_true rfl ?_
        | refine swp_block ?_
        | refine swp_skip ?_
        )
      refine swp_loopS (fun s : SQ => [(1, .pointer (some ⟨β1, 0, none⟩)), (3, .slice (some ⟨bS, 0, none⟩) cl cl), (5, i64 (L : Int)), (6, i64 (s.k : Int))])
        (fun s => [s.h, J, mBlk β1 p lo st cb cl cc]) (fun s => s.k ≤ cl ∧ OS s.h (some ⟨bS, 0, none⟩) cl cl 3 1 (s.o.map i64) ∧ Lev cs s.o L s.k 0) (fun s => cl - s.k) ⟨0, H, o⟩ (by repeat first | exact Sub.nil _ | refine Sub.cons rfl ?_) ⟨Nat.zero_le _, os, lv⟩ ?_
      clear os lv
      rintro ⟨a, H, o⟩ ⟨ha1, os, lv⟩
      dsimp only at ha1 os lv ⊢
      by_cases ha : a < cl
      · repeat' (first
          | refine swp_seq ?_
          | (refine gk 0 rfl ?_; first | refine sl_op rfl rfl rfl (by first | exact opv_move rfl rfl | exact opv_assign rfl rfl ) ?_ )
          | (refine gk 2 rfl ?_; first | refine sl_yes rfl rfl rfl (by first | exact opv_lss rfl rfl rfl ) (by first | omega ) ?_ )
          | (refine gk 4 rfl ?_; first | refine sl_op rfl rfl rfl (by first | exact opv_len rfl rfl rfl rfl rfl ) ?_)
          | refine sl_region rfl ?_
          | refine sl_nil ?_
          | refine thn_k ?_
          | refine swp_true rfl ?_
          | refine swp_block ?_
          | refine swp_skip ?_
          )
        refine swp_loopS (fun s : SQ => [(1, .pointer (some ⟨β1, 0, none⟩)), (3, .slice (some ⟨bS, 0, none⟩) cl cl), (5, i64 (L : Int)), (6, i64 (a : Int)), (7, i64 (s.k : Int))])
          (fun s => [s.h, J, mBlk β1 p lo st cb cl cc]) (fun s => s.k ≤ cl ∧ OS s.h (some ⟨bS, 0, none⟩) cl cl 3 1 (s.o.map i64) ∧ Lev cs s.o L a s.k) (fun s => cl - s.k) ⟨0, H, o⟩ (by repeat first | exact Sub.nil _ | refine Sub.cons rfl ?_) ⟨Nat.zero_le _, os, lv⟩ ?_
        clear os lv
        rintro ⟨b, H, o⟩ ⟨hb1, os, lv⟩
        dsimp only at hb1 os lv ⊢
        have hol := lv.len
        haveI sl := os.sl
        by_cases hb : b < cl
        · obtain ⟨x, hx⟩ : ∃ z, o[a]? = some z := ⟨_, List.getElem?_eq_getElem (by omega)⟩
          obtain ⟨y, hy⟩ : ∃ z, o[b]? = some z := ⟨_, List.getElem?_eq_getElem (by omega)⟩
          have hcx : (o.map i64)[((a : Nat) : Int).toNat * 1]? = some (i64 x) := by simp [hx]
          have hcy : (o.map i64)[((b : Nat) : Int).toNat * 1]? = some (i64 y) := by simp [hy]
          have hg := Goes_calls J p lo st cb cl cc cs (a : Int) (b : Int) hl hsm
          by_cases hxL : x = L
          · by_cases hy0 : y < 0
            · by_cases hm : (b : Int) ∈ nxt cs (a : Int)
              · rw [decide_eq_true hm] at hg
                repeat' (first
                  | refine sl_storeE rfl rfl rfl rfl rfl os rfl rfl rfl (by exact Nat.succ_pos _) (by simp; omega) (set_cells (j := b) (by simp) (by omega)) (fun h1 os1 => ?_)
                  | refine swp_seq ?_
                  | (refine gk 0 rfl ?_; first | refine sl_op rfl rfl rfl (by first | exact opv_move rfl rfl | exact opv_assign rfl rfl | exact opv_pick_t rfl rfl rfl ) ?_ )
                  | (refine gk 1 rfl ?_; first | refine sl_op rfl rfl rfl (by first | exact opv_add64 rfl rfl rfl (by omega) (by omega) ) ?_ )
                  | (refine gk 2 rfl ?_; first | refine sl_yes rfl rfl rfl (by first | exact opv_lss rfl rfl rfl | exact opv_eql rfl rfl rfl ) (by first | omega ) ?_ )
                  | (refine gk 3 rfl ?_; first | refine sl_op rfl rfl rfl (by first | exact opv_loadA rfl (by exact rfl) rfl (by exact rfl) (by exact rfl) | exact opv_indexAddrI rfl rfl rfl (by omega) (by omega) (by first | (simp only [List.length_map]; omega) ) | exact opv_loadEx rfl (by exact rfl) (by infer_instance) (by first | assumption ) ) ?_ )
                  | (refine gk 4 rfl ?_; first | refine sl_op rfl rfl rfl (by first | exact opv_len rfl rfl rfl rfl rfl ) ?_ | refine sl_op rfl rfl rfl (opv_call rfl rfl rfl rfl rfl (hg)) ?_)
                  | refine sl_region rfl ?_
                  | refine sl_nil ?_
                  | refine thn_k ?_
                  | refine swp_true rfl ?_
                  | refine swp_block ?_
                  | refine swp_skip ?_
                  )
                exact ⟨rfl, ⟨b + 1, h1, o.set b ((L : Int) + 1)⟩, next_ok (by repeat first | exact Sub.nil _ | refine Sub.cons rfl ?_), ⟨hb, os1, lv.set (by rw [hx, hxL]) hy hy0 hm⟩, by dsimp only; omega⟩
              · rw [decide_eq_false hm] at hg
                repeat' (first
                  | refine swp_seq ?_
                  | (refine gk 0 rfl ?_; first | refine sl_op rfl rfl rfl (by first | exact opv_move rfl rfl | exact opv_assign rfl rfl | exact opv_pick_t rfl rfl rfl ) ?_ )
                  | (refine gk 1 rfl ?_; first | refine sl_op rfl rfl rfl (by first | exact opv_add64 rfl rfl rfl (by omega) (by omega) ) ?_ )
                  | (refine gk 2 rfl ?_; first | refine sl_yes rfl rfl rfl (by first | exact opv_lss rfl rfl rfl | exact opv_eql rfl rfl rfl ) (by first | omega ) ?_ )
                  | (refine gk 3 rfl ?_; first | refine sl_op rfl rfl rfl (by first | exact opv_loadA rfl (by exact rfl) rfl (by exact rfl) (by exact rfl) | exact opv_indexAddrI rfl rfl rfl (by omega) (by omega) (by first | (simp only [List.length_map]; omega) ) | exact opv_loadEx rfl (by exact rfl) (by infer_instance) (by first | assumption ) ) ?_ )
                  | (refine gk 4 rfl ?_; first | refine sl_op rfl rfl rfl (by first | exact opv_len rfl rfl rfl rfl rfl ) ?_ | refine sl_op rfl rfl rfl (opv_call rfl rfl rfl rfl rfl (hg)) ?_)
                  | refine sl_region rfl ?_
                  | refine sl_nil ?_
                  | refine thn_k ?_
                  | refine swp_true rfl ?_
                  | refine swp_false rfl ?_
                  | refine swp_block ?_
                  | refine swp_skip ?_
                  )
                exact ⟨rfl, ⟨b + 1, H, o⟩, next_ok (by repeat first | exact Sub.nil _ | refine Sub.cons rfl ?_), ⟨hb, os, lv.skip hx hy (fun h => hm h.2.2)⟩, by dsimp only; omega⟩
            · repeat' (first
                | refine swp_seq ?_
                | (refine gk 0 rfl ?_; first | refine sl_op rfl rfl rfl (by first | exact opv_move rfl rfl | exact opv_assign rfl rfl | exact opv_pick_t rfl rfl rfl | exact opv_pick_f rfl rfl rfl ) ?_ | refine sl_pass rfl rfl rfl rfl ?_)
                | (refine gk 1 rfl ?_; first | refine sl_op rfl rfl rfl (by first | exact opv_add64 rfl rfl rfl (by omega) (by omega) ) ?_ )
                | (refine gk 2 rfl ?_; first | refine sl_yes rfl rfl rfl (by first | exact opv_lss rfl rfl rfl | exact opv_eql rfl rfl rfl ) (by first | omega ) ?_ | refine sl_no rfl rfl rfl (by first | exact opv_lss rfl rfl rfl ) (by first | omega ) ?_ )
                | (refine gk 3 rfl ?_; first | refine sl_op rfl rfl rfl (by first | exact opv_loadA rfl (by exact rfl) rfl (by exact rfl) (by exact rfl) | exact opv_indexAddrI rfl rfl rfl (by omega) (by omega) (by first | (simp only [List.length_map]; omega) ) | exact opv_loadEx rfl (by exact rfl) (by infer_instance) (by first | assumption ) ) ?_ | refine sl_pass rfl rfl rfl rfl ?_)
                | (refine gk 4 rfl ?_; first | refine sl_pass rfl rfl rfl rfl ?_ | refine sl_op rfl rfl rfl (by first | exact opv_len rfl rfl rfl rfl rfl ) ?_ )
                | refine sl_region rfl ?_
                | refine sl_nil ?_
                | refine thn_k ?_
                | refine swp_true rfl ?_
                | refine swp_false rfl ?_
                | refine swp_block ?_
                | refine swp_skip ?_
                )
              exact ⟨rfl, ⟨b + 1, H, o⟩, next_ok (by repeat first | exact Sub.nil _ | refine Sub.cons rfl ?_), ⟨hb, os, lv.skip hx hy (fun h => hy0 h.2.1)⟩, by dsimp only; omega⟩
          · repeat' (first
              | refine swp_seq ?_
              | (refine gk 0 rfl ?_; first | refine sl_op rfl rfl rfl (by first | exact opv_move rfl rfl | exact opv_assign rfl rfl | exact opv_pick_f rfl rfl rfl ) ?_ | refine sl_pass rfl rfl rfl rfl ?_)
              | (refine gk 1 rfl ?_; first | refine sl_op rfl rfl rfl (by first | exact opv_add64 rfl rfl rfl (by omega) (by omega) ) ?_ )
              | (refine gk 2 rfl ?_; first | refine sl_pass rfl rfl rfl rfl ?_ | refine sl_yes rfl rfl rfl (by first | exact opv_lss rfl rfl rfl | exact opv_eql rfl rfl rfl ) (by first | omega ) ?_ | refine sl_no rfl rfl rfl (by first | exact opv_eql rfl rfl rfl ) (by first | omega ) ?_ )
              | (refine gk 3 rfl ?_; first | refine sl_op rfl rfl rfl (by first | exact opv_loadA rfl (by exact rfl) rfl (by exact rfl) (by exact rfl) | exact opv_indexAddrI rfl rfl rfl (by omega) (by omega) (by first | (simp only [List.length_map]; omega) ) | exact opv_loadEx rfl (by exact rfl) (by infer_instance) (by first | assumption ) ) ?_ | refine sl_pass rfl rfl rfl rfl ?_)
              | (refine gk 4 rfl ?_; first | refine sl_pass rfl rfl rfl rfl ?_ | refine sl_op rfl rfl rfl (by first | exact opv_len rfl rfl rfl rfl rfl ) ?_ )
              | refine sl_region rfl ?_
              | refine sl_nil ?_
              | refine thn_k ?_
              | refine swp_true rfl ?_
              | refine swp_false rfl ?_
              | refine swp_block ?_
              | refine swp_skip ?_
              )
            exact ⟨rfl, ⟨b + 1, H, o⟩, next_ok (by repeat first | exact Sub.nil _ | refine Sub.cons rfl ?_), ⟨hb, os, lv.skip hx hy (fun h => hxL h.1)⟩, by dsimp only; omega⟩
        · repeat' (first
            | refine swp_seq ?_
            | (refine gk 0 rfl ?_; first | refine sl_op rfl rfl rfl (by first | exact opv_move rfl rfl | exact opv_assign rfl rfl ) ?_ )
            | (refine gk 1 rfl ?_; first | refine sl_op rfl rfl rfl (by first | exact opv_add64 rfl rfl rfl (by omega) (by omega) ) ?_ )
            | (refine gk 2 rfl ?_; first | refine sl_no rfl rfl rfl (by first | exact opv_lss rfl rfl rfl ) (by first | omega ) ?_ )
            | (refine gk 4 rfl ?_; first | refine sl_op rfl rfl rfl (by first | exact opv_len rfl rfl rfl rfl rfl ) ?_)
            | refine sl_region rfl ?_
            | refine sl_nil ?_
            | refine thn_k ?_
            | refine swp_false rfl ?_
            | refine swp_exit ?_
            )
          exact ⟨rfl, ⟨a + 1, H, o⟩, next_ok (by repeat first | exact Sub.nil _ | refine Sub.cons rfl ?_), ⟨ha, os, lv.row (by omega)⟩, by dsimp only; omega⟩
      · repeat' (first
          | refine swp_seq ?_
          | (refine gk 0 rfl ?_; first | refine sl_op rfl rfl rfl (by first | exact opv_move rfl rfl | exact opv_assign rfl rfl ) ?_ )
          | (refine gk 1 rfl ?_; first | refine sl_op rfl rfl rfl (by first | exact opv_add64 rfl rfl rfl (by omega) (by omega) ) ?_ )
          | (refine gk 2 rfl ?_; first | refine sl_no rfl rfl rfl (by first | exact opv_lss rfl rfl rfl ) (by first | omega ) ?_ )
          | (refine gk 4 rfl ?_; first | refine sl_op rfl rfl rfl (by first | exact opv_len rfl rfl rfl rfl rfl ) ?_)
          | refine sl_region rfl ?_
          | refine sl_nil ?_
          | refine thn_k ?_
          | refine swp_false rfl ?_
          | refine swp_exit ?_
          )
        exact ⟨rfl, ⟨L + 1, H, o⟩, next_ok (by repeat first | exact Sub.nil _ | refine Sub.cons rfl ?_), ⟨hL, os, lv.level (by omega)⟩, by dsimp only; omega⟩
    · obtain rfl : L = cl := by omega
      repeat' (first
        | refine swp_seq ?_
        | (refine gk 0 rfl ?_; first | refine sl_op rfl rfl rfl (by first | exact opv_move rfl rfl | exact opv_assign rfl rfl ) ?_ )
        | (refine gk 2 rfl ?_; first | refine sl_no rfl rfl rfl (by first | exact opv_lss rfl rfl rfl ) (by first | omega ) ?_ )
        | (refine gk 4 rfl ?_; first | refine sl_op rfl rfl rfl (by first | exact opv_len rfl rfl rfl rfl rfl ) ?_)
        | refine sl_region rfl ?_
        | refine sl_nil ?_
        | refine thn_k ?_
        | refine swp_false rfl ?_
        | refine swp_ret ?_
        | refine swp_exit ?_
        )
      have hol := lv.len
      exact end_retL [J, H] (resOk_one (resV_tmp rfl)) ⟨[H], rfl, H, _, o, rfl, rfl, os, by omega, Lev.dist (by rw [hl]; exact lv)⟩
theorem rFar_W (own : List Heap) (p : Value) (lo st : Int) (cb : Option Addr) (cl cc : Nat) (cs : List Ins) [s : SlIn own cb (flatI cs)] (hl : cs.length = cl) (hsm : cl ≤ 4000000) :
    SL.T Try.prog 12 [mth p lo st cb cl cc] own fun e o => ∃ N, o = own ++ N ∧ ∃ h b, ∃ out : List Int, e = .returned (.slice b cl cl) ∧ N = [h] ∧ OS h b cl cl 3 1 (out.map i64) ∧ out.length = cl ∧ Dist cs (fun z => out.getD z 0) :=
  T_whole fun J hJ => by
    haveI := s.all hJ
    exact rFar_calls J p lo st cb cl cc cs hl hsm
theorem far_same {cs : List Ins} {V : List Int} {d : Int → Int} {out : List Int} (hol : out.length = cs.length) (hd : Dist cs (fun z => out.getD z 0)) (h : 0 < cs.length → BFS cs V V.length d) : farL cs.length V d = out := by
  apply List.ext_getElem?
  intro i
  by_cases hi : i < cs.length
  · have e := (dist_far (h (by omega))).eq hd i hi
    rw [farL_at hi]
    have : i < out.length := by omega
    simp only [List.getD, List.getElem?_eq_getElem this, Option.getD_some] at e
    rw [List.getElem?_eq_getElem this, e]
  · rw [List.getElem?_eq_none (by rw [farL_length]; omega), List.getElem?_eq_none (by omega)]
abbrev boV (b : Bool) : Value := .bool b
theorem set_bool {gs : List Bool} {k j : Nat} {z : Bool} (e : k = j) (hk : j < gs.length) : (gs.map boV).take k ++ [boV z] ++ (gs.map boV).drop (k + 1) = (gs.set j z).map boV := by
  subst e
  rw [List.map_set, List.set_eq_take_append_cons_drop, if_pos (by simpa using hk)]
  simp
theorem Reach_calls (J : Heap) (p : Value) (lo st : Int) (cb : Option Addr) (cl cc : Nat) (cs : List Ins) [Sl J cb (flatI cs)] (hl : cs.length = cl) (hsm : cl ≤ 4000000) :
    SL.T Try.prog 15 [mth p lo st cb cl cc] [J] fun e o => ∃ N, o = J :: N ∧ ∃ h b, ∃ r : List Bool, ∃ V d, e = .returned (.slice b cl cl) ∧ N = [h] ∧ OS h b cl cl 4 1 (r.map boV) ∧ (∀ z : Nat, z < cl → r[z]? = some (decide ((z : Int) ∈ V))) ∧ (0 < cl → BFS cs V V.length d) := by
  refine t_of_body Try.func15 rfl (Nat.le_of_ble_eq_true rfl) fun F => ?_
  repeat' (first
    | refine sl_makeSlice rfl rfl rfl rfl rfl rfl rfl (by omega) (by omega) (fun bS hS osS => ?_)
    | refine swp_seq ?_
    | (refine gk 0 rfl ?_; first | refine sl_op rfl rfl rfl (by first | exact opv_move rfl rfl | exact opv_assign rfl rfl ) ?_ )
    | (refine gk 3 rfl ?_; first | refine sl_op rfl rfl rfl (by first | exact opv_load rfl (by exact rfl) rfl (by exact rfl) | exact opv_fieldAddr rfl rfl | exact opv_loadA rfl (by exact rfl) rfl (by exact rfl) (by exact rfl) ) ?_ )
    | (refine gk 4 rfl ?_; first | refine sl_op rfl rfl rfl (by first | exact opv_len rfl rfl rfl rfl rfl ) ?_ | (refine sl_callT rfl rfl rfl rfl rfl rfl rfl rfl (far_calls J p lo st cb cl cc cs hl hsm) ?_; rintro _ _ ⟨_, rfl, hM, bM, V, d, rfl, rfl, mp, hV0, hV1⟩; refine ⟨_, _, rfl, rfl, ?_⟩))
    | (refine gk 5 rfl ?_; first | refine sl_box rfl rfl rfl rfl rfl rfl (fun β => ?_) )
    | refine sl_region rfl ?_
    | refine sl_nil ?_
    | refine thn_k ?_
    | refine swp_block ?_
    )
  refine swp_loopS (fun s : (Nat × Heap × List Bool) => [(3, .map (some bM)), (4, .slice (some ⟨bS, 0, none⟩) cl cl), (13, i64 (cl : Int)), (14, i64 (s.1 : Int))])
    (fun s => [s.2.1, J, hM]) (fun s => s.1 ≤ cl ∧ s.2.2.length = cl ∧ OS s.2.1 (some ⟨bS, 0, none⟩) cl cl 4 1 (s.2.2.map boV) ∧ ∀ z : Nat, z < s.1 → s.2.2[z]? = some (decide ((z : Int) ∈ V))) (fun s => cl - s.1) (0, hS, List.replicate cl false) (by repeat first | exact Sub.nil _ | refine Sub.cons rfl ?_) ⟨Nat.zero_le _, by simp, by simpa using osS, fun z hz => absurd hz (Nat.not_lt_zero _)⟩ ?_
  rintro ⟨j, H, r⟩ ⟨hj1, hrl, os, hr⟩
  dsimp only at hj1 hrl os hr ⊢
  have hnew : ∀ v : Bool, j < cl → v = decide ((j : Int) ∈ V) → ∀ z : Nat, z < j + 1 → (r.set j v)[z]? = some (decide ((z : Int) ∈ V)) := fun v hj hv z hz => by
    rw [List.getElem?_set]
    by_cases e : j = z
    · subst e; rw [if_pos rfl, if_pos (by omega), hv]
    · rw [if_neg e]; exact hr z (by omega)
  by_cases hj : j < cl
  · haveI sl := os.sl
    by_cases hV : (j : Int) ∈ V
    · have hf : mapF V d (j : Int) = some (i64 (d j)) := if_pos hV
      repeat' (first
        | refine sl_op rfl rfl rfl (opv_lookS mp rfl rfl rfl hf) ?_
        | refine sl_storeE rfl rfl rfl rfl rfl os rfl rfl rfl (by exact Nat.succ_pos _) (by simp; omega) (set_bool (j := j) (by simp) (by omega)) (fun h1 os1 => ?_)
        | refine swp_seq ?_
        | (refine gk 0 rfl ?_; first | refine sl_op rfl rfl rfl (by first | exact opv_move rfl rfl | exact opv_assign rfl rfl | exact opv_extract rfl rfl rfl ) ?_ )
        | (refine gk 1 rfl ?_; first | refine sl_op rfl rfl rfl (by first | exact opv_add64 rfl rfl rfl (by omega) (by omega) ) ?_ )
        | (refine gk 2 rfl ?_; first | refine sl_yes rfl rfl rfl (by first | exact opv_lss rfl rfl rfl ) (by first | omega ) ?_ )
        | (refine gk 3 rfl ?_; first | refine sl_op rfl rfl rfl (by first | exact opv_indexAddrI rfl rfl rfl (by omega) (by omega) (by first | (simp only [List.length_map]; omega) ) ) ?_ )
        | refine sl_region rfl ?_
        | refine sl_nil ?_
        | refine thn_k ?_
        | refine swp_true rfl ?_
        | refine swp_block ?_
        | refine swp_skip ?_
        )
      exact ⟨rfl, (j + 1, h1, _), next_ok (by repeat first | exact Sub.nil _ | refine Sub.cons rfl ?_), ⟨hj, by rw [List.length_set]; exact hrl, os1, hnew true hj (decide_eq_true hV).symm⟩, by dsimp only; omega⟩
    · have hf : mapF V d (j : Int) = none := if_neg hV
      repeat' (first
        | refine sl_op rfl rfl rfl (opv_lookN mp rfl rfl rfl hf) ?_
        | refine sl_storeE rfl rfl rfl rfl rfl os rfl rfl rfl (by exact Nat.succ_pos _) (by simp; omega) (set_bool (j := j) (by simp) (by omega)) (fun h1 os1 => ?_)
        | refine swp_seq ?_
        | (refine gk 0 rfl ?_; first | refine sl_op rfl rfl rfl (by first | exact opv_move rfl rfl | exact opv_assign rfl rfl | exact opv_extract rfl rfl rfl ) ?_ )
        | (refine gk 1 rfl ?_; first | refine sl_op rfl rfl rfl (by first | exact opv_add64 rfl rfl rfl (by omega) (by omega) ) ?_ )
        | (refine gk 2 rfl ?_; first | refine sl_yes rfl rfl rfl (by first | exact opv_lss rfl rfl rfl ) (by first | omega ) ?_ )
        | (refine gk 3 rfl ?_; first | refine sl_op rfl rfl rfl (by first | exact opv_indexAddrI rfl rfl rfl (by omega) (by omega) (by first | (simp only [List.length_map]; omega) ) ) ?_ )
        | refine sl_region rfl ?_
        | refine sl_nil ?_
        | refine thn_k ?_
        | refine swp_true rfl ?_
        | refine swp_block ?_
        | refine swp_skip ?_
        )
      exact ⟨rfl, (j + 1, h1, _), next_ok (by repeat first | exact Sub.nil _ | refine Sub.cons rfl ?_), ⟨hj, by rw [List.length_set]; exact hrl, os1, hnew false hj (decide_eq_false hV).symm⟩, by dsimp only; omega⟩
  · obtain rfl : j = cl := by omega
    repeat' (first
      | refine swp_seq ?_
      | (refine gk 0 rfl ?_; first | refine sl_op rfl rfl rfl (by first | exact opv_move rfl rfl | exact opv_assign rfl rfl ) ?_ )
      | (refine gk 2 rfl ?_; first | refine sl_no rfl rfl rfl (by first | exact opv_lss rfl rfl rfl ) (by first | omega ) ?_ )
      | refine sl_region rfl ?_
      | refine sl_nil ?_
      | refine thn_k ?_
      | refine swp_false rfl ?_
      | refine swp_ret ?_
      | refine swp_exit ?_
      )
    exact end_retL [J, H] (resOk_one (resV_tmp rfl)) ⟨[H], rfl, H, _, r, V, d, rfl, rfl, os, hr, hV1⟩
theorem Reach_W (own : List Heap) (p : Value) (lo st : Int) (cb : Option Addr) (cl cc : Nat) (cs : List Ins) [s : SlIn own cb (flatI cs)] (hl : cs.length = cl) (hsm : cl ≤ 4000000) :
    SL.T Try.prog 15 [mth p lo st cb cl cc] own fun e o => ∃ N, o = own ++ N ∧ ∃ h b, ∃ r : List Bool, ∃ V d, e = .returned (.slice b cl cl) ∧ N = [h] ∧ OS h b cl cl 4 1 (r.map boV) ∧ (∀ z : Nat, z < cl → r[z]? = some (decide ((z : Int) ∈ V))) ∧ (0 < cl → BFS cs V V.length d) :=
  T_whole fun J hJ => by
    haveI := s.all hJ
    exact Reach_calls J p lo st cb cl cc cs hl hsm
set_option linter.unusedVariables false in
theorem cut_raw (J : Heap) (lb : Option Addr) (ll lc : Nat) (ls : List Ins) [Sl J lb (flatI ls)] (hl : ls.length = ll) (hsm : ll ≤ 9223372036854775807) (hlc : ll ≤ lc) :
    SL.T Try.prog 7 [.slice lb ll lc, .bool false] [J] fun e o => ∃ N, o = J :: N ∧ ∃ h b n c cs, e = .returned (mth nilS 0 0 b n c) ∧ N = [h] ∧ OS h b n c 40 3 (flatI cs) ∧ cs.length = n ∧ n ≤ 40 := by
  obtain ⟨n, hn⟩ : ∃ n : Nat, n = (min (ll : Int) 40).toNat := ⟨_, rfl⟩
  have hn1 : n ≤ ll := by omega
  have hn2 : n ≤ 40 := by omega
  haveI : Sl J lb (flatI (ls.take n)) := by rw [← flatI_take]; exact Sl.take ‹_› _
  have htl : (ls.take n).length = n := by rw [List.length_take]; omega
  refine t_of_body Try.func7 rfl (Nat.le_of_ble_eq_true rfl) fun F => ?_
  repeat' (first
    | refine swp_seq ?_
    | (refine gk 0 rfl ?_; first | refine sl_op rfl rfl rfl (by first | exact opv_move rfl rfl ) ?_ )
    | (refine gk 4 rfl ?_; first | refine sl_op rfl rfl rfl (by first | exact opv_len rfl rfl rfl rfl rfl | exact opv_min rfl rfl rfl rfl rfl ) ?_)
    | (refine gk 5 rfl ?_; first | refine sl_op rfl rfl rfl (by first | exact opv_sliceHi rfl rfl rfl (by omega) (by omega) ) ?_ | refine sl_buildSlice rfl rfl rfl rfl rfl (by exact rfl) (by exact rfl) (by exact rfl) (by exact rfl) rfl (fun b => ?_) | refine sl_alloc rfl rfl rfl rfl (by exact rfl) (fun β => ?_) )
    | refine sl_region rfl ?_
    | refine sl_nil ?_
    )
  rw [← hn]
  refine sl_appendG rfl rfl rfl rfl rfl rfl rfl rfl rfl (OS.blk (len := 0) (sz := 3) (cs := []) rfl) (news := flatI (ls.take n)) (by rw [flatI_length, htl]) (by decide) (flatI_one _) (by omega) (by omega) (fun h' b' c' os' hb' => ?_)
  rw [Nat.zero_add, List.nil_append] at os'
  rw [Nat.zero_add]
  repeat' (first
    | refine swp_seq ?_
    | (refine gk 0 rfl ?_; first | refine sl_op rfl rfl rfl (by first | exact opv_assign rfl rfl ) ?_ )
    | refine sl_region rfl ?_
    | refine sl_nil ?_
    | refine thn_k ?_
    | refine swp_block ?_
    )
  refine swp_rounds 1 (srounds ?_)
  by_cases h0 : 0 < n
  · repeat' (first
      | refine swp_seq ?_
      | (refine gk 0 rfl ?_; first | refine sl_op rfl rfl rfl (by first | exact opv_move rfl rfl | exact opv_pick_t rfl rfl rfl ) ?_ )
      | (refine gk 2 rfl ?_; first | refine sl_yes rfl rfl rfl (by first | exact opv_lss rfl rfl rfl ) (by first | omega ) ?_ )
      | (refine gk 4 rfl ?_; first | refine sl_op rfl rfl rfl (by first | exact opv_len rfl rfl rfl rfl rfl ) ?_)
      | (refine gk 5 rfl ?_; first | refine sl_op rfl rfl rfl (by first | exact opv_build rfl rfl (by exact rfl) ) ?_ | refine sl_store rfl rfl rfl rfl rfl rfl (by exact rfl) rfl (by exact rfl) ?_)
      | refine sl_region rfl ?_
      | refine sl_nil ?_
      | refine thn_k ?_
      | refine swp_false rfl ?_
      | refine swp_ret ?_
      | refine swp_exit ?_
      )
    exact end_retL [J, h'] (resOk_one (resV_cellA rfl rfl rfl rfl)) ⟨[h'], rfl, h', b', n, c', _, rfl, rfl, os', htl, hn2⟩
  · repeat' (first
      | refine swp_seq ?_
      | (refine gk 0 rfl ?_; first | refine sl_op rfl rfl rfl (by first | exact opv_move rfl rfl | exact opv_pick_f rfl rfl rfl ) ?_ | refine sl_pass rfl rfl rfl rfl ?_)
      | (refine gk 2 rfl ?_; first | refine sl_no rfl rfl rfl (by first | exact opv_lss rfl rfl rfl ) (by first | omega ) ?_ )
      | (refine gk 4 rfl ?_; first | refine sl_op rfl rfl rfl (by first | exact opv_len rfl rfl rfl rfl rfl ) ?_)
      | (refine gk 5 rfl ?_; first | refine sl_op rfl rfl rfl (by first | exact opv_build rfl rfl (by exact rfl) ) ?_ | refine sl_store rfl rfl rfl rfl rfl rfl (by exact rfl) rfl (by exact rfl) ?_)
      | refine sl_region rfl ?_
      | refine sl_nil ?_
      | refine thn_k ?_
      | refine swp_false rfl ?_
      | refine swp_ret ?_
      | refine swp_exit ?_
      )
    exact end_retL [J, h'] (resOk_one (resV_cellA rfl rfl rfl rfl)) ⟨[h'], rfl, h', b', n, c', _, rfl, rfl, os', htl, hn2⟩
end Go.Proofs.Ytgcajldkegdllaa
