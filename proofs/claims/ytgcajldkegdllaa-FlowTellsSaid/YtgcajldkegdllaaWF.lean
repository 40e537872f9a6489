/- How far places are, walked. -/
import Derived.Test.YtgcajldkegdllaaWG
import Derived.Test.YtgcajldkegdllaaSlG8
namespace Go.Proofs.Ytgcajldkegdllaa
open Go.SL
set_option maxRecDepth 100000
set_option maxHeartbeats 16000000
attribute [local irreducible] SL.T PFn OpV SOL SWP HOp ChU
/-- What the map says. -/
def mapF (V : List Int) (d : Int → Int) : Int → Option Value := fun z => if z ∈ V then some (i64 (d z)) else none
theorem mapF_push {V : List Int} {d : Int → Int} {t e : Int} (ht : t ∉ V) : (fun q => if q = t then some (i64 e) else mapF V d q) = mapF (V ++ [t]) (upd d t e) := by
  funext q
  unfold mapF upd
  by_cases h : q = t
  · subst h; simp
  · simp [h]
theorem mapF_start : (fun q : Int => if q = 0 then some (i64 0) else (none : Option Value)) = mapF [0] (fun _ => 0) := by
  funext q; unfold mapF; simp
theorem nxt_length (cs : List Ins) (x : Int) : (nxt cs x).length ≤ 2 := by
  unfold nxt
  split
  · unfold nextL rise
    refine Nat.le_trans (compact_length_le _) ?_
    rw [List.length_mergeSort, List.length_append]
    split <;> split <;> simp
  · simp
structure SF where
  V : List Int
  i : Nat
  m : Nat
  d : Int → Int
  hM : Heap
  hQ : Heap
  bQ : Option Addr
  cQ : Nat
structure SG where
  V : List Int
  m : Nat
  d : Int → Int
  hM : Heap
  hQ : Heap
  bQ : Option Addr
  cQ : Nat
  k : Nat
theorem far_calls (J : Heap) (p : Value) (lo st : Int) (cb : Option Addr) (cl cc : Nat) (cs : List Ins) [Sl J cb (flatI cs)] (hl : cs.length = cl) (hsm : cl ≤ 4000000) :
    SL.T Try.prog 21 [mth p lo st cb cl cc] [J] fun e o => ∃ N, o = J :: N ∧ ∃ h b V d, e = .returned (.map (some b)) ∧ N = [h] ∧ MP h b .i64 (mapF V d) ∧ (cl = 0 → V = []) ∧ (0 < cl → BFS cs V V.length d) := by
  refine t_of_body Try.func21 rfl (Nat.le_of_ble_eq_true rfl) fun F => ?_
  by_cases h0 : cl = 0
  · repeat' (first
      | refine sl_makeMap rfl rfl rfl rfl (fun βm => ?_)
      | refine swp_seq ?_
      | (refine gk 0 rfl ?_; first | refine sl_op rfl rfl rfl (by first | exact opv_move rfl rfl | exact opv_assign rfl rfl ) ?_ )
      | (refine gk 2 rfl ?_; first | refine sl_yes rfl rfl rfl (by first | exact opv_eql rfl rfl rfl ) (by first | omega ) ?_ )
      | (refine gk 3 rfl ?_; first | refine sl_op rfl rfl rfl (by first | exact opv_load rfl (by exact rfl) rfl (by exact rfl) | exact opv_fieldAddr rfl rfl ) ?_ )
      | (refine gk 4 rfl ?_; first | refine sl_op rfl rfl rfl (by first | exact opv_len rfl rfl rfl rfl rfl ) ?_)
      | (refine gk 5 rfl ?_; first | refine sl_box rfl rfl rfl rfl rfl rfl (fun β => ?_) )
      | refine sl_region rfl ?_
      | refine sl_nil ?_
      | refine thn_k ?_
      | refine swp_true rfl ?_
      | refine swp_ret ?_
      | refine thn_ret ?_
      )
    exact end_retL [J, blk βm (.map #[] 0)] (resOk_one (resV_tmp rfl)) ⟨[_], rfl, _, βm, [], fun _ => 0, rfl, rfl, MP.nil, fun _ => rfl, fun h => absurd h0 (by omega)⟩
  · have mp0 : ∀ b, MP (blk b (.map #[] 0)) b .i64 (fun _ => none) := fun b => MP.nil
    repeat' (first
      | refine sl_makeMap rfl rfl rfl rfl (fun βm => ?_)
      | refine sl_update rfl rfl rfl rfl rfl rfl (mp0 _) (fun hM0 mp1 => ?_)
      | refine swp_seq ?_
      | (refine gk 0 rfl ?_; first | refine sl_op rfl rfl rfl (by first | exact opv_move rfl rfl | exact opv_assign rfl rfl ) ?_ )
      | (refine gk 2 rfl ?_; first | refine sl_no rfl rfl rfl (by first | exact opv_eql rfl rfl rfl ) (by first | omega ) ?_ )
      | (refine gk 3 rfl ?_; first | refine sl_op rfl rfl rfl (by first | exact opv_load rfl (by exact rfl) rfl (by exact rfl) | exact opv_fieldAddr rfl rfl ) ?_ )
      | (refine gk 4 rfl ?_; first | refine sl_op rfl rfl rfl (by first | exact opv_len rfl rfl rfl rfl rfl ) ?_)
      | (refine gk 5 rfl ?_; first | refine sl_buildSlice rfl rfl rfl rfl rfl (by exact rfl) (by exact rfl) (by exact rfl) (by exact rfl) rfl (fun b => ?_) | refine sl_box rfl rfl rfl rfl rfl rfl (fun β => ?_) )
      | refine sl_region rfl ?_
      | refine sl_nil ?_
      | refine thn_k ?_
      | refine swp_false rfl ?_
      | refine swp_block ?_
      | refine swp_skip ?_
      )
    rw [mapF_start] at mp1
    obtain ⟨β1, rfl⟩ : ∃ x, x = β := ⟨_, rfl⟩
    refine swp_loopS (fun s : SF => [(1, .pointer (some ⟨β1, 0, none⟩)), (3, .map (some βm)), (4, .slice s.bQ s.m s.cQ)])
      (fun s => [s.hM, s.hQ, J, blk β1 (.cells ⟨[p, i64 lo, i64 st, .slice cb cl cc]⟩ 26 (0, 0))])
      (fun s => BFS cs s.V s.i s.d ∧ s.m + s.i = s.V.length ∧ MP s.hM βm .i64 (mapF s.V s.d) ∧ OS s.hQ s.bQ s.m s.cQ 3 1 ((s.V.drop s.i).map i64))
      (fun s => 2 * (cl - s.V.length) + s.m) ⟨[0], 0, 1, fun _ => 0, hM0, blk b (.cells ⟨[.int .i64 0]⟩ 3 (0, 0)), some ⟨b, 0, none⟩, 1⟩ (by repeat first | exact Sub.nil _ | refine Sub.cons rfl ?_) ⟨BFS.start (by omega), rfl, mp1, OS.blk rfl⟩ ?_
    rintro ⟨V, i, m, d, hM, hQ, bQ, cQ⟩ ⟨bfs, hmi, mp, os⟩
    dsimp only at bfs hmi mp os ⊢
    have hVn : V.length ≤ cl := by rw [← hl]; exact nodup_len bfs.nd bfs.rng
    by_cases hm : 0 < m
    · obtain ⟨x, hx⟩ : ∃ x, V[i]? = some x := ⟨_, List.getElem?_eq_getElem (by omega)⟩
      haveI slQ := os.sl
      have hql : (V.drop i).length = m := by rw [List.length_drop]; omega
      have hcx : ((V.drop i).map i64)[(0 : Int).toNat * 1]? = some (i64 x) := by
        rw [List.getElem?_map, List.getElem?_drop]; simpa using hx
      repeat' (first
        | refine swp_seq ?_
        | (refine gk 0 rfl ?_; first | refine sl_op rfl rfl rfl (by first | exact opv_move rfl rfl ) ?_ )
        | (refine gk 2 rfl ?_; first | refine sl_yes rfl rfl rfl (by first | exact opv_gtr rfl rfl rfl ) (by first | omega ) ?_ )
        | (refine gk 4 rfl ?_; first | refine sl_op rfl rfl rfl (by first | exact opv_len rfl rfl rfl rfl rfl ) ?_)
        | refine sl_region rfl ?_
        | refine sl_nil ?_
        | refine thn_k ?_
        | refine swp_true rfl ?_
        | refine swp_block ?_
        | refine swp_skip ?_
        )
      refine sl_drawC [.q [0, 1, 2, 3, 6], .h false 4, .q [5]] [] (by kernel_rfl) (by kernel_rfl) (by kernel_rfl) (by kernel_rfl) ?_
      repeat' (first
        | (refine gk 0 rfl ?_; first | refine sl_op rfl rfl rfl (by first | exact opv_move rfl rfl ) ?_ )
        | (refine gk 3 rfl ?_; first | refine sl_op rfl rfl rfl (by first | exact opv_loadA rfl (by exact rfl) rfl (by exact rfl) (by exact rfl) | exact opv_indexAddrI rfl rfl rfl (by omega) (by omega) (by first | (simp only [List.length_map]; omega) ) | exact opv_loadEx rfl (by exact rfl) (by infer_instance) (by first | assumption ) ) ?_ )
        | (refine gk 4 rfl ?_; first | refine sl_op rfl rfl rfl (by first | exact opv_len rfl rfl rfl rfl rfl ) ?_ )
        | refine chu_nil ?_
        | refine chu_q rfl ?_
        | (refine chu_callW rfl rfl rfl rfl rfl rfl rfl rfl (Next_W _ p lo st cb cl cc cs x hl hsm) ?_; rintro _ _ ⟨hN, bN, cN, rfl, rfl, osN⟩; haveI slN := osN.sl; refine ⟨_, _, rfl, rfl, ?_⟩)
        | refine sl_nil ?_
        | refine thn_k ?_
        | refine swp_block ?_
        )
      have hxm := List.mem_of_getElem? hx
      have hdx := bfs.idx i x hx
      have hdx0 := bfs.nonneg x hxm
      clear slQ hcx hql
      have hnx2 := nxt_length cs x
      refine swp_loopS (fun s : SG => [(1, .pointer (some ⟨β1, 0, none⟩)), (3, .map (some βm)), (4, .slice s.bQ s.m s.cQ), (26, .slice bN (nxt cs x).length cN), (27, i64 ((nxt cs x).length : Int)), (28, i64 (s.k : Int))])
        (fun s => [s.hM, s.hQ, hN, J, blk β1 (.cells ⟨[p, i64 lo, i64 st, .slice cb cl cc]⟩ 26 (0, 0))])
        (fun s => BFS cs s.V i s.d ∧ s.m + i = s.V.length ∧ 0 < s.m ∧ s.V[i]? = some x ∧ s.d x = d x ∧ MP s.hM βm .i64 (mapF s.V s.d) ∧ OS s.hQ s.bQ s.m s.cQ 3 1 ((s.V.drop i).map i64) ∧ s.k ≤ (nxt cs x).length ∧
          (∀ t ∈ (nxt cs x).take s.k, 0 ≤ t → t < cs.length → t ∈ s.V ∧ s.d t ≤ d x + 1) ∧ s.V.length ≤ cl ∧ 2 * (cl - s.V.length) + s.m ≤ 2 * (cl - V.length) + m)
        (fun s => (nxt cs x).length - s.k) ⟨V, m, d, hM, hQ, bQ, cQ, 0⟩ (by repeat first | exact Sub.nil _ | refine Sub.cons rfl ?_) ⟨bfs, hmi, hm, hx, rfl, mp, os, Nat.zero_le _, by simp, hVn, Nat.le_refl _⟩ ?_
      clear bfs mp os hmi hm hVn
      rintro ⟨V2, m2, d2, hM2, hQ2, bQ2, cQ2, k⟩ ⟨bfs, hmi, hm, hx2, hd2, mp, os, hk, hpart, hVn, hmu⟩
      dsimp only at bfs hmi hm hx2 hd2 mp os hk hpart hVn hmu ⊢
      have hxm2 := List.mem_of_getElem? hx2
      by_cases hk2 : k < (nxt cs x).length
      · obtain ⟨t, ht⟩ : ∃ t, (nxt cs x)[k]? = some t := ⟨_, List.getElem?_eq_getElem hk2⟩
        have hct : ((nxt cs x).map i64)[((k : Nat) : Int).toNat * 1]? = some (i64 t) := by simp [ht]
        have htm := List.mem_of_getElem? ht
        have hth := there_calls p lo st cb cl cc t
        have htake : ∀ u, u ∈ (nxt cs x).take (k + 1) → u ∈ (nxt cs x).take k ∨ u = t := fun u hu => by
          rw [List.take_add_one, ht] at hu; simpa using hu
        haveI slQ := os.sl
        have hql : (V2.drop i).length = m2 := by rw [List.length_drop]; omega
        have hcx : ((V2.drop i).map i64)[(0 : Int).toNat * 1]? = some (i64 x) := by
          rw [List.getElem?_map, List.getElem?_drop]; simpa using hx2
        have hdx2 := bfs.idx i x hx2
        rw [hd2] at hdx2
        have hilt := (List.getElem?_eq_some_iff.1 hx2).1
        by_cases hV : t ∈ V2
        · have hf : mapF V2 d2 t = some (i64 (d2 t)) := if_pos hV
          have hb := bfs.rng t hV
          repeat' (first
            | refine sl_op rfl rfl rfl (opv_lookS mp rfl rfl rfl hf) ?_
            | refine swp_seq ?_
            | (refine gk 0 rfl ?_; first | refine sl_op rfl rfl rfl (by first | exact opv_move rfl rfl | exact opv_assign rfl rfl | exact opv_pick_f rfl rfl rfl | exact opv_not_t rfl rfl | exact opv_extract rfl rfl rfl ) ?_ | refine sl_pass rfl rfl rfl rfl ?_)
            | (refine gk 1 rfl ?_; first | refine sl_op rfl rfl rfl (by first | exact opv_add64 rfl rfl rfl (by omega) (by omega) ) ?_ )
            | (refine gk 2 rfl ?_; first | refine sl_yes rfl rfl rfl (by first | exact opv_lss rfl rfl rfl ) (by first | omega ) ?_ )
            | (refine gk 3 rfl ?_; first | refine sl_op rfl rfl rfl (by first | exact opv_loadA rfl (by exact rfl) rfl (by exact rfl) (by exact rfl) | exact opv_indexAddrI rfl rfl rfl (by omega) (by omega) (by first | (simp only [List.length_map]; omega) ) | exact opv_loadEx rfl (by exact rfl) (by infer_instance) (by first | assumption ) ) ?_ | refine sl_pass rfl rfl rfl rfl ?_)
            | (refine gk 4 rfl ?_; first | refine sl_pass rfl rfl rfl rfl ?_ )
            | refine sl_region rfl ?_
            | refine sl_nil ?_
            | refine thn_k ?_
            | refine swp_true rfl ?_
            | refine swp_false rfl ?_
            | refine swp_block ?_
            | refine swp_skip ?_
            )
          refine ⟨rfl, ⟨V2, m2, d2, hM2, hQ2, bQ2, cQ2, k + 1⟩, next_ok (by repeat first | exact Sub.nil _ | refine Sub.cons rfl ?_), ⟨bfs, hmi, hm, hx2, hd2, mp, os, hk2, fun u hu u0 u1 => ?_, hVn, hmu⟩, by dsimp only; omega⟩
          rcases htake u hu with hu | rfl
          · exact hpart u hu u0 u1
          · refine ⟨hV, ?_⟩
            obtain ⟨b3, hb3⟩ := List.mem_iff_getElem?.1 hV
            have := bfs.band x u b3 hx2 hb3
            rw [hd2] at this; exact this
        · have hf : mapF V2 d2 t = none := if_neg hV
          by_cases htr : 0 ≤ t ∧ t < cl
          · rw [decide_eq_true htr] at hth
            have hfx : mapF V2 d2 x = some (i64 (d x)) := by rw [← hd2]; exact if_pos hxm2
            repeat' (first
              | refine sl_op rfl rfl rfl (opv_lookN mp rfl rfl rfl hf) ?_
              | refine sl_op rfl rfl rfl (opv_lookS mp rfl rfl rfl hfx) ?_
              | refine sl_update rfl rfl rfl rfl rfl rfl mp (fun hM3 mp3 => ?_)
              | refine swp_seq ?_
              | (refine gk 0 rfl ?_; first | refine sl_op rfl rfl rfl (by first | exact opv_move rfl rfl | exact opv_assign rfl rfl | exact opv_pick_t rfl rfl rfl | exact opv_not_f rfl rfl | exact opv_extract rfl rfl rfl ) ?_ )
              | (refine gk 1 rfl ?_; first | refine sl_op rfl rfl rfl (by first | exact opv_add64 rfl rfl rfl (by omega) (by omega) ) ?_ )
              | (refine gk 2 rfl ?_; first | refine sl_yes rfl rfl rfl (by first | exact opv_lss rfl rfl rfl ) (by first | omega ) ?_ )
              | (refine gk 3 rfl ?_; first | refine sl_op rfl rfl rfl (by first | exact opv_loadA rfl (by exact rfl) rfl (by exact rfl) (by exact rfl) | exact opv_indexAddrI rfl rfl rfl (by omega) (by omega) (by first | (simp only [List.length_map]; omega) ) | exact opv_loadEx rfl (by exact rfl) (by infer_instance) (by first | assumption ) ) ?_ )
              | (refine gk 4 rfl ?_; first | refine sl_op rfl rfl rfl (opv_call rfl rfl rfl rfl rfl (hth)) ?_ | refine sl_append rfl rfl rfl rfl rfl rfl rfl rfl rfl os (by decide) rfl (by decide) rfl (by omega) (by omega) (fun hQ3 bQ3 cQ3 os3 => ?_))
              | (refine gk 5 rfl ?_; first | refine sl_buildSlice rfl rfl rfl rfl rfl (by exact rfl) (by exact rfl) (by exact rfl) (by exact rfl) rfl (fun b => ?_) )
              | refine sl_region rfl ?_
              | refine sl_nil ?_
              | refine thn_k ?_
              | refine swp_true rfl ?_
              | refine swp_block ?_
              | refine swp_skip ?_
              )
            rw [mapF_push hV] at mp3
            have bfs3 := bfs.push hx2 hV htr.1 (by omega) htm
            rw [hd2] at bfs3
            have hxt : x ≠ t := fun e => hV (e ▸ hxm2)
            have hold : ∀ u, u ∈ V2 → upd d2 t (d x + 1) u = d2 u := fun u hu => by
              unfold upd; rw [if_neg]; intro e; subst e; exact hV hu
            have hlen3 : (V2 ++ [t]).length ≤ cl := by rw [← hl]; exact nodup_len bfs3.nd bfs3.rng
            have hl1 : (V2 ++ [t]).length = V2.length + 1 := by simp
            refine ⟨rfl, ⟨V2 ++ [t], m2 + 1, upd d2 t (d x + 1), hM3, hQ3, bQ3, cQ3, k + 1⟩, next_ok (by repeat first | exact Sub.nil _ | refine Sub.cons rfl ?_), ⟨bfs3, by dsimp only; omega, by dsimp only; omega, ?_, by dsimp only; rw [hold x hxm2, hd2], mp3, ?_, hk2, fun u hu u0 u1 => ?_, hlen3, ?_⟩, by dsimp only; omega⟩
            · dsimp only; rw [List.getElem?_append_left hilt]; exact hx2
            · dsimp only; rw [List.drop_append_of_le_length (by omega), List.map_append]; exact os3
            · dsimp only
              rcases htake u hu with hu | rfl
              · obtain ⟨g1, g2⟩ := hpart u hu u0 u1
                exact ⟨List.mem_append.2 (.inl g1), by rw [hold u g1]; exact g2⟩
              · exact ⟨by simp, by unfold upd; rw [if_pos rfl]; exact Int.le_refl _⟩
            · dsimp only; omega
          · rw [decide_eq_false htr] at hth
            repeat' (first
              | refine sl_op rfl rfl rfl (opv_lookN mp rfl rfl rfl hf) ?_
              | refine swp_seq ?_
              | (refine gk 0 rfl ?_; first | refine sl_op rfl rfl rfl (by first | exact opv_move rfl rfl | exact opv_assign rfl rfl | exact opv_pick_t rfl rfl rfl | exact opv_not_f rfl rfl | exact opv_extract rfl rfl rfl ) ?_ )
              | (refine gk 1 rfl ?_; first | refine sl_op rfl rfl rfl (by first | exact opv_add64 rfl rfl rfl (by omega) (by omega) ) ?_ )
              | (refine gk 2 rfl ?_; first | refine sl_yes rfl rfl rfl (by first | exact opv_lss rfl rfl rfl ) (by first | omega ) ?_ )
              | (refine gk 3 rfl ?_; first | refine sl_op rfl rfl rfl (by first | exact opv_loadA rfl (by exact rfl) rfl (by exact rfl) (by exact rfl) | exact opv_indexAddrI rfl rfl rfl (by omega) (by omega) (by first | (simp only [List.length_map]; omega) ) | exact opv_loadEx rfl (by exact rfl) (by infer_instance) (by first | assumption ) ) ?_ )
              | (refine gk 4 rfl ?_; first | refine sl_op rfl rfl rfl (opv_call rfl rfl rfl rfl rfl (hth)) ?_)
              | refine sl_region rfl ?_
              | refine sl_nil ?_
              | refine thn_k ?_
              | refine swp_true rfl ?_
              | refine swp_false rfl ?_
              | refine swp_block ?_
              | refine swp_skip ?_
              )
            refine ⟨rfl, ⟨V2, m2, d2, hM2, hQ2, bQ2, cQ2, k + 1⟩, next_ok (by repeat first | exact Sub.nil _ | refine Sub.cons rfl ?_), ⟨bfs, hmi, hm, hx2, hd2, mp, os, hk2, fun u hu u0 u1 => ?_, hVn, hmu⟩, by dsimp only; omega⟩
            rcases htake u hu with hu | rfl
            · exact hpart u hu u0 u1
            · exact absurd ⟨u0, by omega⟩ htr
      · obtain rfl : k = (nxt cs x).length := by omega
        rw [List.take_length] at hpart
        repeat' (first
          | refine swp_seq ?_
          | (refine gk 0 rfl ?_; first | refine sl_op rfl rfl rfl (by first | exact opv_move rfl rfl | exact opv_assign rfl rfl ) ?_ )
          | (refine gk 2 rfl ?_; first | refine sl_no rfl rfl rfl (by first | exact opv_lss rfl rfl rfl ) (by first | omega ) ?_ )
          | (refine gk 5 rfl ?_; first | refine sl_op rfl rfl rfl (by first | exact opv_sliceLo rfl rfl rfl (by omega) (by omega) ) ?_ )
          | refine sl_region rfl ?_
          | refine sl_nil ?_
          | refine thn_k ?_
          | refine swp_false rfl ?_
          | refine swp_exit ?_
          )
        rw [← hd2] at hpart
        have hilt := (List.getElem?_eq_some_iff.1 hx2).1
        obtain ⟨m3, rfl⟩ : ∃ m3, m2 = m3 + 1 := ⟨m2 - 1, by omega⟩
        rw [List.drop_eq_getElem_cons hilt, List.map_cons] at os
        exact ⟨rfl, ⟨V2, i + 1, m3, d2, hM2, hQ2, sub bQ2 1 cQ2 1, cQ2 - 1⟩, next_ok (by repeat first | exact Sub.nil _ | refine Sub.cons rfl ?_), ⟨bfs.pop hx2 hpart, by dsimp only; omega, mp, os.tail⟩, by dsimp only; omega⟩
    · have hm0 : m = 0 := by omega
      subst hm0
      have hi : i = V.length := by omega
      subst hi
      repeat' (first
        | refine swp_seq ?_
        | (refine gk 0 rfl ?_; first | refine sl_op rfl rfl rfl (by first | exact opv_move rfl rfl | exact opv_assign rfl rfl ) ?_ )
        | (refine gk 2 rfl ?_; first | refine sl_no rfl rfl rfl (by first | exact opv_gtr rfl rfl rfl ) (by first | omega ) ?_ )
        | (refine gk 4 rfl ?_; first | refine sl_op rfl rfl rfl (by first | exact opv_len rfl rfl rfl rfl rfl ) ?_)
        | refine sl_region rfl ?_
        | refine sl_nil ?_
        | refine thn_k ?_
        | refine swp_false rfl ?_
        | refine swp_ret ?_
        | refine swp_exit ?_
        )
      exact end_retL [J, hM] (resOk_one (resV_tmp rfl)) ⟨[hM], rfl, hM, βm, V, d, rfl, rfl, mp, fun h => absurd h h0, fun _ => bfs⟩
end Go.Proofs.Ytgcajldkegdllaa
