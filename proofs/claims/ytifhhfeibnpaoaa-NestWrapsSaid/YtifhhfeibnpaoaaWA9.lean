/- The stack behind a place, walked. -/
import Derived.Test.YtifhhfeibnpaoaaWA8
import Derived.Test.YtifhhfeibnpaoaaSlG8
namespace Go.Proofs.Ytifhhfeibnpaoaa
open Go.SL
set_option maxRecDepth 100000
set_option maxHeartbeats 16000000
attribute [local irreducible] SL.T PFn OpV SOL SWP HOp ChU
abbrev wBlk (βw : Nat) (p : Value) (lo st : Int) (cb : Option Addr) (cl cc bm : Nat) (ob : Option Addr) (on oc : Nat) (wr : Int) : Heap :=
  blk βw (.cells ⟨[p, i64 lo, i64 st, .slice cb cl cc, .map (some bm), .slice ob on oc, i64 wr]⟩ 71 (0, 0))
theorem sl_takeI {h : Heap} {b : Option Addr} {xs : List Int} {x : Int} (s : Sl h b ((xs ++ [x]).map i64)) : Sl h b (xs.map i64) :=
  ⟨fun k v hk => s.cell k v (by
    rw [List.map_append, List.getElem?_append_left (List.getElem?_eq_some_iff.1 hk).1]; exact hk)⟩
theorem behF_at {cs : List Ins} {z : Nat} {op a b : Int} (h : cs[z]? = some (op, a, b)) (s : List Int) :
    behF cs z s = if five op ∧ askO cs z = none then none else doF op (if op = 3 then a else (askO cs z).getD 0) s := by
  unfold behF
  rw [List.getD_eq_getElem?_getD, h]; rfl
theorem Asks_none (J : Heap) (p : Value) (lo st : Int) (cb : Option Addr) (cl cc : Nat) (cs : List Ins) (z : Int) [Sl J cb (flatI cs)] (hl : cs.length = cl) (hsm : cl ≤ 1000000) (h : askO cs z = none) :
    PFn Try.prog 10 [mth p lo st cb cl cc, i64 z] [J] (.tuple ⟨[i64 0, .bool false]⟩) :=
  (Asks_calls J p lo st cb cl cc cs z hl hsm).to (by rw [h]; rfl)
theorem Asks_some (J : Heap) (p : Value) (lo st : Int) (cb : Option Addr) (cl cc : Nat) (cs : List Ins) (z : Int) [Sl J cb (flatI cs)] (hl : cs.length = cl) (hsm : cl ≤ 1000000) {k : Int} (h : askO cs z = some k) :
    PFn Try.prog 10 [mth p lo st cb cl cc, i64 z] [J] (.tuple ⟨[i64 k, .bool true]⟩) :=
  (Asks_calls J p lo st cb cl cc cs z hl hsm).to (by rw [h]; rfl)
theorem doesF_other {op : Int} (h1 : ¬ five op) (h3 : op ≠ 3) (h20 : op ≠ 20) : doesF op = none := by
  have := mt five_iff.2 h1
  unfold doesF
  rw [if_neg h20, if_neg h3, if_neg (by omega), if_neg (by omega), if_neg (by omega), if_neg (by omega), if_neg (by omega)]
theorem doF_other {op k : Int} {s : List Int} (h1 : ¬ five op) (h3 : op ≠ 3) (h20 : op ≠ 20) : doF op k s = some s := by
  have := mt five_iff.2 h1
  unfold doF
  rw [if_neg (by omega), if_neg (by omega), if_neg (by omega), if_neg h3, if_neg h20]
theorem isSome_if {p : Prop} [Decidable p] {xs : List Int} : (if p then some xs else none).isSome = decide p := by
  by_cases h : p <;> simp [h]
/-- What is said of the stack behind. -/
abbrev BQ (K : Heap) (N : List Heap) (r : Option (List Int)) (b : Option Addr) (n c : Nat) : Prop :=
  ∀ s, r = some s → s.length = n ∧ n ≤ c ∧ SlIn (K :: N) b (s.map i64)
theorem wbehind_calls (J K hM : Heap) (βw : Nat) (p : Value) (lo st : Int) (cb : Option Addr) (cl cc bm : Nat) (ob : Option Addr) (on oc : Nat) (wr : Int) (cs : List Ins) (z : Nat) (f : Int → Option Value) (b : Option Addr) (n c : Nat) (xs : List Int)
    [Sl J cb (flatI cs)] [slK : Sl K b (xs.map i64)] (hl : cs.length = cl) (hsm : cl ≤ 1000000) (hz : z < cl) (mp : MP hM bm .i64 f) (hf : f (z : Int) = some (.slice b n c)) (hn : xs.length = n) (hnc : n ≤ c) (hns : n ≤ 1000000) :
    SL.T Try.prog 40 [.pointer (some ⟨βw, 0, none⟩), i64 (z : Int)] [J, wBlk βw p lo st cb cl cc bm ob on oc wr, hM, K] fun e o => ∃ N, o = [J, wBlk βw p lo st cb cl cc bm ob on oc wr, hM, K] ++ N ∧
      ∃ b' n' c', e = .returned (stV b' n' c' (behF cs z xs).isSome) ∧ BQ K N (behF cs z xs) b' n' c' := by
  obtain ⟨⟨op, a, b0⟩, hx⟩ : ∃ x, cs[z]? = some x := ⟨_, List.getElem?_eq_getElem (by omega)⟩
  rw [behF_at hx]
  obtain ⟨c0, c1, c2⟩ := flatI_at hx
  have c0 : (flatI cs)[((z : Nat) : Int).toNat * 3]? = some (i64 op) := c0
  have c1 : (flatI cs)[((z : Nat) : Int).toNat * 3 + 1]? = some (i64 a) := c1
  have c2 : (flatI cs)[((z : Nat) : Int).toNat * 3 + 2]? = some (i64 b0) := c2
  have hfl := flatI_length cs
  have hq : ((z : Nat) : Int).toNat * 3 < (flatI cs).length := by rw [hfl]; omega
  by_cases h5 : five op
  · rcases hk : askO cs z with _ | k
    · have hA := Asks_none J p lo st cb cl cc cs z hl hsm hk
      refine t_of_body Try.func40 rfl (Nat.le_of_ble_eq_true rfl) fun F => ?_
      repeat' (first
        | refine swp_seq ?_
        | (refine gk 0 rfl ?_; first | refine sl_op rfl rfl rfl (by first | exact opv_move rfl rfl | exact opv_assign rfl rfl | exact opv_pick_t rfl rfl rfl | exact opv_not_f rfl rfl | exact opv_extract rfl rfl rfl ) ?_ )
        | (refine gk 3 rfl ?_; first | refine sl_op rfl rfl rfl (by first | exact opv_load rfl (by exact rfl) rfl (by exact rfl) | exact opv_fieldAddr rfl rfl | exact opv_loadA rfl (by exact rfl) rfl (by exact rfl) (by exact rfl) | exact opv_indexAddrI rfl rfl rfl (by omega) (by omega) (by first | omega ) | exact opv_load3 rfl (by exact rfl) (by infer_instance) (by assumption) (by assumption) (by assumption)) ?_ )
        | (refine gk 4 rfl ?_; first | refine sl_op rfl rfl rfl (opv_call rfl rfl rfl rfl rfl (hA)) ?_ | refine sl_yes rfl rfl rfl (opv_call rfl rfl rfl rfl rfl (asking_calls _)) (by first | omega ) ?_ )
        | (refine gk 5 rfl ?_; first | refine sl_op rfl rfl rfl (by first | exact opv_nilCheck rfl rfl ) ?_ | refine sl_alloc rfl rfl rfl rfl (by exact rfl) (fun β => ?_) | refine sl_store rfl rfl rfl rfl rfl rfl (by exact rfl) rfl (by exact rfl) ?_)
        | refine sl_region rfl ?_
        | refine sl_nil ?_
        | refine thn_k ?_
        | refine swp_true rfl ?_
        | refine swp_ret ?_
        | refine thn_ret ?_
        )
      rw [if_pos ⟨h5, rfl⟩]
      exact end_retL [J, wBlk βw p lo st cb cl cc bm ob on oc wr, hM, K] (resOk_two (resV_tmp rfl) (resV_tmp rfl)) ⟨[], rfl, _, _, _, rfl, fun s hs => by cases hs⟩
    · have hA := Asks_some J p lo st cb cl cc cs z hl hsm hk
      rw [if_neg (by simp)]
      rcases five_iff.1 h5 with rfl | rfl | rfl | rfl | rfl
      · refine t_of_body Try.func40 rfl (Nat.le_of_ble_eq_true rfl) fun F => ?_
        repeat' (first
          | refine swp_seq ?_
          | (refine gk 0 rfl ?_; first | refine sl_op rfl rfl rfl (by first | exact opv_move rfl rfl | exact opv_assign rfl rfl | exact opv_pick_t rfl rfl rfl | exact opv_not_t rfl rfl | exact opv_extract rfl rfl rfl ) ?_ )
          | (refine gk 2 rfl ?_; first | refine sl_no rfl rfl rfl (by first | exact opv_eql rfl rfl rfl ) (by first | omega ) ?_ )
          | (refine gk 3 rfl ?_; first | refine sl_op rfl rfl rfl (by first | exact opv_load rfl (by exact rfl) rfl (by exact rfl) | exact opv_fieldAddr rfl rfl | exact opv_loadA rfl (by exact rfl) rfl (by exact rfl) (by exact rfl) | exact opv_indexAddrI rfl rfl rfl (by omega) (by omega) (by first | omega ) | exact opv_load3 rfl (by exact rfl) (by infer_instance) (by assumption) (by assumption) (by assumption)) ?_ )
          | (refine gk 4 rfl ?_; first | refine sl_op rfl rfl rfl (opv_call rfl rfl rfl rfl rfl (hA)) ?_ | refine sl_yes rfl rfl rfl (opv_call rfl rfl rfl rfl rfl (asking_calls _)) (by first | omega ) ?_ )
          | (refine gk 5 rfl ?_; first | refine sl_op rfl rfl rfl (by first | exact opv_nilCheck rfl rfl ) ?_ | refine sl_alloc rfl rfl rfl rfl (by exact rfl) (fun β => ?_) | refine sl_store rfl rfl rfl rfl rfl rfl (by exact rfl) rfl (by exact rfl) ?_)
          | refine sl_region rfl ?_
          | refine sl_nil ?_
          | refine thn_k ?_
          | refine swp_false rfl ?_
          | refine swp_skip ?_
          )
        refine sl_drawC [.q [1, 2], .h false 0, .q [3, 4, 5, 6, 7, 8]] [] (by kernel_rfl) (by kernel_rfl) (by kernel_rfl) (by kernel_rfl) ?_
        repeat' (first
          | refine sl_op rfl rfl rfl (opv_lookS mpD rfl rfl rfl (v := fnV 57) rfl) ?_
          | refine sl_op rfl rfl rfl (opv_lookS mp rfl rfl rfl hf) ?_
          | refine swp_seq ?_
          | (refine gk 0 rfl ?_; first | refine sl_op rfl rfl rfl (by first | exact opv_move rfl rfl | exact opv_assign rfl rfl | exact opv_not_t rfl rfl | exact opv_extract rfl rfl rfl ) ?_ )
          | (refine gk 3 rfl ?_; first | refine sl_op rfl rfl rfl (by first | exact opv_load rfl (by exact rfl) rfl (by exact rfl) | exact opv_fieldAddr rfl rfl ) ?_ )
          | (refine gk 4 rfl ?_; first | (refine sl_callT rfl rfl rfl rfl rfl rfl rfl rfl (does2_calls K _ n _ xs _ hn (by omega)) ?_; rintro _ _ ⟨_, rfl, hP, bP, rfl, rfl, osP⟩; refine ⟨_, _, rfl, rfl, ?_⟩))
          | (refine gk 5 rfl ?_; first | refine sl_op rfl rfl rfl (by first | exact opv_nilCheck rfl rfl ) ?_ )
          | refine sl_region rfl ?_
          | refine chu_nil ?_
          | refine chu_q rfl ?_
          | (refine chu_T rfl rfl rfl rfl rfl rfl rfl rfl (does_calls) (by rintro _ _ ⟨hD, bD, rfl, rfl, mpD⟩; exact ⟨_, rfl⟩) ?_; rintro _ _ ⟨hD, bD, rfl, rfl, mpD⟩; refine ⟨_, _, rfl, rfl, ?_⟩)
          | refine sl_nil ?_
          | refine thn_k ?_
          | refine swp_false rfl ?_
          | refine swp_ret ?_
          | refine swp_skip ?_
          )
        have e : doF 12 (if (12 : Int) = 3 then a else (some k).getD 0) xs = if xs.length < 8 ∧ k ∉ xs then some (xs ++ [k]) else none := rfl
        rw [e]
        refine end_retL [J, wBlk βw p lo st cb cl cc bm ob on oc wr, hM, K, hP] (resOk_two (resV_tmp rfl) (resV_tmp rfl)) ⟨[hP], rfl, bP, n + 1, n + 1, ?_, fun s hs => ?_⟩
        · rw [hn]
          by_cases h : n < 8 ∧ k ∉ xs
          · rw [if_pos h, decide_eq_true h]; rfl
          · rw [if_neg h, decide_eq_false h]; rfl
        · split at hs
          · cases hs
            haveI := osP.sl
            exact ⟨by simp [hn], Nat.le_refl _, inferInstance⟩
          · cases hs
      · have e : doF 13 (if (13 : Int) = 3 then a else (some k).getD 0) xs = if xs.getLast? = some k then some xs.dropLast else none := rfl
        rw [e]
        rcases List.eq_nil_or_concat xs with h0 | ⟨ys, y, h0⟩
        · subst h0
          obtain rfl : n = 0 := by simpa using hn.symm
          refine t_of_body Try.func40 rfl (Nat.le_of_ble_eq_true rfl) fun F => ?_
          repeat' (first
            | refine swp_seq ?_
            | (refine gk 0 rfl ?_; first | refine sl_op rfl rfl rfl (by first | exact opv_move rfl rfl | exact opv_assign rfl rfl | exact opv_pick_t rfl rfl rfl | exact opv_not_t rfl rfl | exact opv_extract rfl rfl rfl ) ?_ )
            | (refine gk 2 rfl ?_; first | refine sl_no rfl rfl rfl (by first | exact opv_eql rfl rfl rfl ) (by first | omega ) ?_ )
            | (refine gk 3 rfl ?_; first | refine sl_op rfl rfl rfl (by first | exact opv_load rfl (by exact rfl) rfl (by exact rfl) | exact opv_fieldAddr rfl rfl | exact opv_loadA rfl (by exact rfl) rfl (by exact rfl) (by exact rfl) | exact opv_indexAddrI rfl rfl rfl (by omega) (by omega) (by first | omega ) | exact opv_load3 rfl (by exact rfl) (by infer_instance) (by assumption) (by assumption) (by assumption)) ?_ )
            | (refine gk 4 rfl ?_; first | refine sl_op rfl rfl rfl (opv_call rfl rfl rfl rfl rfl (hA)) ?_ | refine sl_yes rfl rfl rfl (opv_call rfl rfl rfl rfl rfl (asking_calls _)) (by first | omega ) ?_ )
            | (refine gk 5 rfl ?_; first | refine sl_op rfl rfl rfl (by first | exact opv_nilCheck rfl rfl ) ?_ | refine sl_alloc rfl rfl rfl rfl (by exact rfl) (fun β => ?_) | refine sl_store rfl rfl rfl rfl rfl rfl (by exact rfl) rfl (by exact rfl) ?_)
            | refine sl_region rfl ?_
            | refine sl_nil ?_
            | refine thn_k ?_
            | refine swp_false rfl ?_
            | refine swp_skip ?_
            )
          refine sl_drawC [.q [1, 2], .h false 0, .q [3, 4, 5, 6, 7, 8]] [] (by kernel_rfl) (by kernel_rfl) (by kernel_rfl) (by kernel_rfl) ?_
          repeat' (first
            | refine sl_op rfl rfl rfl (opv_lookS mpD rfl rfl rfl (v := fnV 59) rfl) ?_
            | refine sl_op rfl rfl rfl (opv_lookS mp rfl rfl rfl hf) ?_
            | refine swp_seq ?_
            | (refine gk 0 rfl ?_; first | refine sl_op rfl rfl rfl (by first | exact opv_move rfl rfl | exact opv_assign rfl rfl | exact opv_not_t rfl rfl | exact opv_extract rfl rfl rfl ) ?_ )
            | (refine gk 3 rfl ?_; first | refine sl_op rfl rfl rfl (by first | exact opv_load rfl (by exact rfl) rfl (by exact rfl) | exact opv_fieldAddr rfl rfl ) ?_ )
            | (refine gk 4 rfl ?_; first | refine sl_op rfl rfl rfl (opv_call rfl rfl rfl rfl rfl (does3_empty [] _ _ _)) ?_)
            | (refine gk 5 rfl ?_; first | refine sl_op rfl rfl rfl (by first | exact opv_nilCheck rfl rfl ) ?_ )
            | refine sl_region rfl ?_
            | refine chu_nil ?_
            | refine chu_q rfl ?_
            | (refine chu_T rfl rfl rfl rfl rfl rfl rfl rfl (does_calls) (by rintro _ _ ⟨hD, bD, rfl, rfl, mpD⟩; exact ⟨_, rfl⟩) ?_; rintro _ _ ⟨hD, bD, rfl, rfl, mpD⟩; refine ⟨_, _, rfl, rfl, ?_⟩)
            | refine sl_nil ?_
            | refine thn_k ?_
            | refine swp_false rfl ?_
            | refine swp_ret ?_
            | refine swp_skip ?_
            )
          exact end_retL [J, wBlk βw p lo st cb cl cc bm ob on oc wr, hM, K] (resOk_two (resV_tmp rfl) (resV_tmp rfl)) ⟨[], rfl, _, _, _, rfl, fun s hs => by cases hs⟩
        · rw [List.concat_eq_append] at h0
          subst h0
          obtain ⟨m, rfl⟩ : ∃ m, n = m + 1 := ⟨ys.length, by simpa using hn.symm⟩
          have hym : ys.length = m := by simpa using hn
          have hD3 := does3_calls [K] b m c ys y k hym (by omega) hnc
          rw [List.getLast?_concat, List.dropLast_concat]
          by_cases hy : y = k
          · subst hy
            rw [if_pos rfl] at hD3 ⊢
            refine t_of_body Try.func40 rfl (Nat.le_of_ble_eq_true rfl) fun F => ?_
            repeat' (first
              | refine swp_seq ?_
              | (refine gk 0 rfl ?_; first | refine sl_op rfl rfl rfl (by first | exact opv_move rfl rfl | exact opv_assign rfl rfl | exact opv_pick_t rfl rfl rfl | exact opv_not_t rfl rfl | exact opv_extract rfl rfl rfl ) ?_ )
              | (refine gk 2 rfl ?_; first | refine sl_no rfl rfl rfl (by first | exact opv_eql rfl rfl rfl ) (by first | omega ) ?_ )
              | (refine gk 3 rfl ?_; first | refine sl_op rfl rfl rfl (by first | exact opv_load rfl (by exact rfl) rfl (by exact rfl) | exact opv_fieldAddr rfl rfl | exact opv_loadA rfl (by exact rfl) rfl (by exact rfl) (by exact rfl) | exact opv_indexAddrI rfl rfl rfl (by omega) (by omega) (by first | omega ) | exact opv_load3 rfl (by exact rfl) (by infer_instance) (by assumption) (by assumption) (by assumption)) ?_ )
              | (refine gk 4 rfl ?_; first | refine sl_op rfl rfl rfl (opv_call rfl rfl rfl rfl rfl (hA)) ?_ | refine sl_yes rfl rfl rfl (opv_call rfl rfl rfl rfl rfl (asking_calls _)) (by first | omega ) ?_ )
              | (refine gk 5 rfl ?_; first | refine sl_op rfl rfl rfl (by first | exact opv_nilCheck rfl rfl ) ?_ | refine sl_alloc rfl rfl rfl rfl (by exact rfl) (fun β => ?_) | refine sl_store rfl rfl rfl rfl rfl rfl (by exact rfl) rfl (by exact rfl) ?_)
              | refine sl_region rfl ?_
              | refine sl_nil ?_
              | refine thn_k ?_
              | refine swp_false rfl ?_
              | refine swp_skip ?_
              )
            refine sl_drawC [.q [1, 2], .h false 0, .q [3, 4, 5, 6, 7, 8]] [] (by kernel_rfl) (by kernel_rfl) (by kernel_rfl) (by kernel_rfl) ?_
            repeat' (first
              | refine sl_op rfl rfl rfl (opv_lookS mpD rfl rfl rfl (v := fnV 59) rfl) ?_
              | refine sl_op rfl rfl rfl (opv_lookS mp rfl rfl rfl hf) ?_
              | refine swp_seq ?_
              | (refine gk 0 rfl ?_; first | refine sl_op rfl rfl rfl (by first | exact opv_move rfl rfl | exact opv_assign rfl rfl | exact opv_not_t rfl rfl | exact opv_extract rfl rfl rfl ) ?_ )
              | (refine gk 3 rfl ?_; first | refine sl_op rfl rfl rfl (by first | exact opv_load rfl (by exact rfl) rfl (by exact rfl) | exact opv_fieldAddr rfl rfl ) ?_ )
              | (refine gk 4 rfl ?_; first | refine sl_op rfl rfl rfl (opv_call rfl rfl rfl rfl rfl (hD3)) ?_)
              | (refine gk 5 rfl ?_; first | refine sl_op rfl rfl rfl (by first | exact opv_nilCheck rfl rfl ) ?_ )
              | refine sl_region rfl ?_
              | refine chu_nil ?_
              | refine chu_q rfl ?_
              | (refine chu_T rfl rfl rfl rfl rfl rfl rfl rfl (does_calls) (by rintro _ _ ⟨hD, bD, rfl, rfl, mpD⟩; exact ⟨_, rfl⟩) ?_; rintro _ _ ⟨hD, bD, rfl, rfl, mpD⟩; refine ⟨_, _, rfl, rfl, ?_⟩)
              | refine sl_nil ?_
              | refine thn_k ?_
              | refine swp_false rfl ?_
              | refine swp_ret ?_
              | refine swp_skip ?_
              )
            exact end_retL [J, wBlk βw p lo st cb cl cc bm ob on oc wr, hM, K] (resOk_two (resV_tmp rfl) (resV_tmp rfl)) ⟨[], rfl, _, _, _, rfl, fun s hs => by cases hs; exact ⟨hym, by omega, ⟨K, List.mem_cons_self .., sl_takeI slK⟩⟩⟩
          · rw [if_neg hy] at hD3
            rw [if_neg (by simpa using hy)]
            refine t_of_body Try.func40 rfl (Nat.le_of_ble_eq_true rfl) fun F => ?_
            repeat' (first
              | refine swp_seq ?_
              | (refine gk 0 rfl ?_; first | refine sl_op rfl rfl rfl (by first | exact opv_move rfl rfl | exact opv_assign rfl rfl | exact opv_pick_t rfl rfl rfl | exact opv_not_t rfl rfl | exact opv_extract rfl rfl rfl ) ?_ )
              | (refine gk 2 rfl ?_; first | refine sl_no rfl rfl rfl (by first | exact opv_eql rfl rfl rfl ) (by first | omega ) ?_ )
              | (refine gk 3 rfl ?_; first | refine sl_op rfl rfl rfl (by first | exact opv_load rfl (by exact rfl) rfl (by exact rfl) | exact opv_fieldAddr rfl rfl | exact opv_loadA rfl (by exact rfl) rfl (by exact rfl) (by exact rfl) | exact opv_indexAddrI rfl rfl rfl (by omega) (by omega) (by first | omega ) | exact opv_load3 rfl (by exact rfl) (by infer_instance) (by assumption) (by assumption) (by assumption)) ?_ )
              | (refine gk 4 rfl ?_; first | refine sl_op rfl rfl rfl (opv_call rfl rfl rfl rfl rfl (hA)) ?_ | refine sl_yes rfl rfl rfl (opv_call rfl rfl rfl rfl rfl (asking_calls _)) (by first | omega ) ?_ )
              | (refine gk 5 rfl ?_; first | refine sl_op rfl rfl rfl (by first | exact opv_nilCheck rfl rfl ) ?_ | refine sl_alloc rfl rfl rfl rfl (by exact rfl) (fun β => ?_) | refine sl_store rfl rfl rfl rfl rfl rfl (by exact rfl) rfl (by exact rfl) ?_)
              | refine sl_region rfl ?_
              | refine sl_nil ?_
              | refine thn_k ?_
              | refine swp_false rfl ?_
              | refine swp_skip ?_
              )
            refine sl_drawC [.q [1, 2], .h false 0, .q [3, 4, 5, 6, 7, 8]] [] (by kernel_rfl) (by kernel_rfl) (by kernel_rfl) (by kernel_rfl) ?_
            repeat' (first
              | refine sl_op rfl rfl rfl (opv_lookS mpD rfl rfl rfl (v := fnV 59) rfl) ?_
              | refine sl_op rfl rfl rfl (opv_lookS mp rfl rfl rfl hf) ?_
              | refine swp_seq ?_
              | (refine gk 0 rfl ?_; first | refine sl_op rfl rfl rfl (by first | exact opv_move rfl rfl | exact opv_assign rfl rfl | exact opv_not_t rfl rfl | exact opv_extract rfl rfl rfl ) ?_ )
              | (refine gk 3 rfl ?_; first | refine sl_op rfl rfl rfl (by first | exact opv_load rfl (by exact rfl) rfl (by exact rfl) | exact opv_fieldAddr rfl rfl ) ?_ )
              | (refine gk 4 rfl ?_; first | refine sl_op rfl rfl rfl (opv_call rfl rfl rfl rfl rfl (hD3)) ?_)
              | (refine gk 5 rfl ?_; first | refine sl_op rfl rfl rfl (by first | exact opv_nilCheck rfl rfl ) ?_ )
              | refine sl_region rfl ?_
              | refine chu_nil ?_
              | refine chu_q rfl ?_
              | (refine chu_T rfl rfl rfl rfl rfl rfl rfl rfl (does_calls) (by rintro _ _ ⟨hD, bD, rfl, rfl, mpD⟩; exact ⟨_, rfl⟩) ?_; rintro _ _ ⟨hD, bD, rfl, rfl, mpD⟩; refine ⟨_, _, rfl, rfl, ?_⟩)
              | refine sl_nil ?_
              | refine thn_k ?_
              | refine swp_false rfl ?_
              | refine swp_ret ?_
              | refine swp_skip ?_
              )
            exact end_retL [J, wBlk βw p lo st cb cl cc bm ob on oc wr, hM, K] (resOk_two (resV_tmp rfl) (resV_tmp rfl)) ⟨[], rfl, _, _, _, rfl, fun s hs => by cases hs⟩
      · have e : doF 14 (if (14 : Int) = 3 then a else (some k).getD 0) xs = if k ∈ xs then some xs else none := rfl
        rw [e]
        have hD1 := does1_calls [K] b n c xs k hn (by omega)
        refine t_of_body Try.func40 rfl (Nat.le_of_ble_eq_true rfl) fun F => ?_
        repeat' (first
          | refine swp_seq ?_
          | (refine gk 0 rfl ?_; first | refine sl_op rfl rfl rfl (by first | exact opv_move rfl rfl | exact opv_assign rfl rfl | exact opv_pick_t rfl rfl rfl | exact opv_not_t rfl rfl | exact opv_extract rfl rfl rfl ) ?_ )
          | (refine gk 2 rfl ?_; first | refine sl_no rfl rfl rfl (by first | exact opv_eql rfl rfl rfl ) (by first | omega ) ?_ )
          | (refine gk 3 rfl ?_; first | refine sl_op rfl rfl rfl (by first | exact opv_load rfl (by exact rfl) rfl (by exact rfl) | exact opv_fieldAddr rfl rfl | exact opv_loadA rfl (by exact rfl) rfl (by exact rfl) (by exact rfl) | exact opv_indexAddrI rfl rfl rfl (by omega) (by omega) (by first | omega ) | exact opv_load3 rfl (by exact rfl) (by infer_instance) (by assumption) (by assumption) (by assumption)) ?_ )
          | (refine gk 4 rfl ?_; first | refine sl_op rfl rfl rfl (opv_call rfl rfl rfl rfl rfl (hA)) ?_ | refine sl_yes rfl rfl rfl (opv_call rfl rfl rfl rfl rfl (asking_calls _)) (by first | omega ) ?_ )
          | (refine gk 5 rfl ?_; first | refine sl_op rfl rfl rfl (by first | exact opv_nilCheck rfl rfl ) ?_ | refine sl_alloc rfl rfl rfl rfl (by exact rfl) (fun β => ?_) | refine sl_store rfl rfl rfl rfl rfl rfl (by exact rfl) rfl (by exact rfl) ?_)
          | refine sl_region rfl ?_
          | refine sl_nil ?_
          | refine thn_k ?_
          | refine swp_false rfl ?_
          | refine swp_skip ?_
          )
        refine sl_drawC [.q [1, 2], .h false 0, .q [3, 4, 5, 6, 7, 8]] [] (by kernel_rfl) (by kernel_rfl) (by kernel_rfl) (by kernel_rfl) ?_
        repeat' (first
          | refine sl_op rfl rfl rfl (opv_lookS mpD rfl rfl rfl (v := fnV 56) rfl) ?_
          | refine sl_op rfl rfl rfl (opv_lookS mp rfl rfl rfl hf) ?_
          | refine swp_seq ?_
          | (refine gk 0 rfl ?_; first | refine sl_op rfl rfl rfl (by first | exact opv_move rfl rfl | exact opv_assign rfl rfl | exact opv_not_t rfl rfl | exact opv_extract rfl rfl rfl ) ?_ )
          | (refine gk 3 rfl ?_; first | refine sl_op rfl rfl rfl (by first | exact opv_load rfl (by exact rfl) rfl (by exact rfl) | exact opv_fieldAddr rfl rfl ) ?_ )
          | (refine gk 4 rfl ?_; first | refine sl_op rfl rfl rfl (opv_call rfl rfl rfl rfl rfl (hD1)) ?_)
          | (refine gk 5 rfl ?_; first | refine sl_op rfl rfl rfl (by first | exact opv_nilCheck rfl rfl ) ?_ )
          | refine sl_region rfl ?_
          | refine chu_nil ?_
          | refine chu_q rfl ?_
          | (refine chu_T rfl rfl rfl rfl rfl rfl rfl rfl (does_calls) (by rintro _ _ ⟨hD, bD, rfl, rfl, mpD⟩; exact ⟨_, rfl⟩) ?_; rintro _ _ ⟨hD, bD, rfl, rfl, mpD⟩; refine ⟨_, _, rfl, rfl, ?_⟩)
          | refine sl_nil ?_
          | refine thn_k ?_
          | refine swp_false rfl ?_
          | refine swp_ret ?_
          | refine swp_skip ?_
          )
        exact end_retL [J, wBlk βw p lo st cb cl cc bm ob on oc wr, hM, K] (resOk_two (resV_tmp rfl) (resV_tmp rfl)) ⟨[], rfl, _, _, _, by rw [isSome_if], fun s hs => by
          split at hs
          · cases hs; exact ⟨hn, hnc, inferInstance⟩
          · cases hs⟩
      · have e : doF 15 (if (15 : Int) = 3 then a else (some k).getD 0) xs = if k ∈ xs then some xs else none := rfl
        rw [e]
        have hD1 := does1_calls [K] b n c xs k hn (by omega)
        refine t_of_body Try.func40 rfl (Nat.le_of_ble_eq_true rfl) fun F => ?_
        repeat' (first
          | refine swp_seq ?_
          | (refine gk 0 rfl ?_; first | refine sl_op rfl rfl rfl (by first | exact opv_move rfl rfl | exact opv_assign rfl rfl | exact opv_pick_t rfl rfl rfl | exact opv_not_t rfl rfl | exact opv_extract rfl rfl rfl ) ?_ )
          | (refine gk 2 rfl ?_; first | refine sl_no rfl rfl rfl (by first | exact opv_eql rfl rfl rfl ) (by first | omega ) ?_ )
          | (refine gk 3 rfl ?_; first | refine sl_op rfl rfl rfl (by first | exact opv_load rfl (by exact rfl) rfl (by exact rfl) | exact opv_fieldAddr rfl rfl | exact opv_loadA rfl (by exact rfl) rfl (by exact rfl) (by exact rfl) | exact opv_indexAddrI rfl rfl rfl (by omega) (by omega) (by first | omega ) | exact opv_load3 rfl (by exact rfl) (by infer_instance) (by assumption) (by assumption) (by assumption)) ?_ )
          | (refine gk 4 rfl ?_; first | refine sl_op rfl rfl rfl (opv_call rfl rfl rfl rfl rfl (hA)) ?_ | refine sl_yes rfl rfl rfl (opv_call rfl rfl rfl rfl rfl (asking_calls _)) (by first | omega ) ?_ )
          | (refine gk 5 rfl ?_; first | refine sl_op rfl rfl rfl (by first | exact opv_nilCheck rfl rfl ) ?_ | refine sl_alloc rfl rfl rfl rfl (by exact rfl) (fun β => ?_) | refine sl_store rfl rfl rfl rfl rfl rfl (by exact rfl) rfl (by exact rfl) ?_)
          | refine sl_region rfl ?_
          | refine sl_nil ?_
          | refine thn_k ?_
          | refine swp_false rfl ?_
          | refine swp_skip ?_
          )
        refine sl_drawC [.q [1, 2], .h false 0, .q [3, 4, 5, 6, 7, 8]] [] (by kernel_rfl) (by kernel_rfl) (by kernel_rfl) (by kernel_rfl) ?_
        repeat' (first
          | refine sl_op rfl rfl rfl (opv_lookS mpD rfl rfl rfl (v := fnV 56) rfl) ?_
          | refine sl_op rfl rfl rfl (opv_lookS mp rfl rfl rfl hf) ?_
          | refine swp_seq ?_
          | (refine gk 0 rfl ?_; first | refine sl_op rfl rfl rfl (by first | exact opv_move rfl rfl | exact opv_assign rfl rfl | exact opv_not_t rfl rfl | exact opv_extract rfl rfl rfl ) ?_ )
          | (refine gk 3 rfl ?_; first | refine sl_op rfl rfl rfl (by first | exact opv_load rfl (by exact rfl) rfl (by exact rfl) | exact opv_fieldAddr rfl rfl ) ?_ )
          | (refine gk 4 rfl ?_; first | refine sl_op rfl rfl rfl (opv_call rfl rfl rfl rfl rfl (hD1)) ?_)
          | (refine gk 5 rfl ?_; first | refine sl_op rfl rfl rfl (by first | exact opv_nilCheck rfl rfl ) ?_ )
          | refine sl_region rfl ?_
          | refine chu_nil ?_
          | refine chu_q rfl ?_
          | (refine chu_T rfl rfl rfl rfl rfl rfl rfl rfl (does_calls) (by rintro _ _ ⟨hD, bD, rfl, rfl, mpD⟩; exact ⟨_, rfl⟩) ?_; rintro _ _ ⟨hD, bD, rfl, rfl, mpD⟩; refine ⟨_, _, rfl, rfl, ?_⟩)
          | refine sl_nil ?_
          | refine thn_k ?_
          | refine swp_false rfl ?_
          | refine swp_ret ?_
          | refine swp_skip ?_
          )
        exact end_retL [J, wBlk βw p lo st cb cl cc bm ob on oc wr, hM, K] (resOk_two (resV_tmp rfl) (resV_tmp rfl)) ⟨[], rfl, _, _, _, by rw [isSome_if], fun s hs => by
          split at hs
          · cases hs; exact ⟨hn, hnc, inferInstance⟩
          · cases hs⟩
      · have e : doF 16 (if (16 : Int) = 3 then a else (some k).getD 0) xs = if k ∈ xs then some xs else none := rfl
        rw [e]
        have hD1 := does1_calls [K] b n c xs k hn (by omega)
        refine t_of_body Try.func40 rfl (Nat.le_of_ble_eq_true rfl) fun F => ?_
        repeat' (first
          | refine swp_seq ?_
          | (refine gk 0 rfl ?_; first | refine sl_op rfl rfl rfl (by first | exact opv_move rfl rfl | exact opv_assign rfl rfl | exact opv_pick_t rfl rfl rfl | exact opv_not_t rfl rfl | exact opv_extract rfl rfl rfl ) ?_ )
          | (refine gk 2 rfl ?_; first | refine sl_no rfl rfl rfl (by first | exact opv_eql rfl rfl rfl ) (by first | omega ) ?_ )
          | (refine gk 3 rfl ?_; first | refine sl_op rfl rfl rfl (by first | exact opv_load rfl (by exact rfl) rfl (by exact rfl) | exact opv_fieldAddr rfl rfl | exact opv_loadA rfl (by exact rfl) rfl (by exact rfl) (by exact rfl) | exact opv_indexAddrI rfl rfl rfl (by omega) (by omega) (by first | omega ) | exact opv_load3 rfl (by exact rfl) (by infer_instance) (by assumption) (by assumption) (by assumption)) ?_ )
          | (refine gk 4 rfl ?_; first | refine sl_op rfl rfl rfl (opv_call rfl rfl rfl rfl rfl (hA)) ?_ | refine sl_yes rfl rfl rfl (opv_call rfl rfl rfl rfl rfl (asking_calls _)) (by first | omega ) ?_ )
          | (refine gk 5 rfl ?_; first | refine sl_op rfl rfl rfl (by first | exact opv_nilCheck rfl rfl ) ?_ | refine sl_alloc rfl rfl rfl rfl (by exact rfl) (fun β => ?_) | refine sl_store rfl rfl rfl rfl rfl rfl (by exact rfl) rfl (by exact rfl) ?_)
          | refine sl_region rfl ?_
          | refine sl_nil ?_
          | refine thn_k ?_
          | refine swp_false rfl ?_
          | refine swp_skip ?_
          )
        refine sl_drawC [.q [1, 2], .h false 0, .q [3, 4, 5, 6, 7, 8]] [] (by kernel_rfl) (by kernel_rfl) (by kernel_rfl) (by kernel_rfl) ?_
        repeat' (first
          | refine sl_op rfl rfl rfl (opv_lookS mpD rfl rfl rfl (v := fnV 56) rfl) ?_
          | refine sl_op rfl rfl rfl (opv_lookS mp rfl rfl rfl hf) ?_
          | refine swp_seq ?_
          | (refine gk 0 rfl ?_; first | refine sl_op rfl rfl rfl (by first | exact opv_move rfl rfl | exact opv_assign rfl rfl | exact opv_not_t rfl rfl | exact opv_extract rfl rfl rfl ) ?_ )
          | (refine gk 3 rfl ?_; first | refine sl_op rfl rfl rfl (by first | exact opv_load rfl (by exact rfl) rfl (by exact rfl) | exact opv_fieldAddr rfl rfl ) ?_ )
          | (refine gk 4 rfl ?_; first | refine sl_op rfl rfl rfl (opv_call rfl rfl rfl rfl rfl (hD1)) ?_)
          | (refine gk 5 rfl ?_; first | refine sl_op rfl rfl rfl (by first | exact opv_nilCheck rfl rfl ) ?_ )
          | refine sl_region rfl ?_
          | refine chu_nil ?_
          | refine chu_q rfl ?_
          | (refine chu_T rfl rfl rfl rfl rfl rfl rfl rfl (does_calls) (by rintro _ _ ⟨hD, bD, rfl, rfl, mpD⟩; exact ⟨_, rfl⟩) ?_; rintro _ _ ⟨hD, bD, rfl, rfl, mpD⟩; refine ⟨_, _, rfl, rfl, ?_⟩)
          | refine sl_nil ?_
          | refine thn_k ?_
          | refine swp_false rfl ?_
          | refine swp_ret ?_
          | refine swp_skip ?_
          )
        exact end_retL [J, wBlk βw p lo st cb cl cc bm ob on oc wr, hM, K] (resOk_two (resV_tmp rfl) (resV_tmp rfl)) ⟨[], rfl, _, _, _, by rw [isSome_if], fun s hs => by
          split at hs
          · cases hs; exact ⟨hn, hnc, inferInstance⟩
          · cases hs⟩
  · rw [if_neg fun h => h5 h.1]
    obtain ⟨k, is, hA⟩ : ∃ k is, PFn Try.prog 10 [mth p lo st cb cl cc, i64 z] [J] (.tuple ⟨[i64 k, .bool is]⟩) := ⟨_, _, Asks_calls J p lo st cb cl cc cs z hl hsm⟩
    by_cases h3 : op = 3
    · subst h3
      rw [if_pos rfl]
      have e : doF 3 a xs = if a ∉ xs then some xs else none := rfl
      rw [e]
      have hD4 := does4_calls [K] b n c xs a hn (by omega)
      refine t_of_body Try.func40 rfl (Nat.le_of_ble_eq_true rfl) fun F => ?_
      repeat' (first
        | refine swp_seq ?_
        | (refine gk 0 rfl ?_; first | refine sl_op rfl rfl rfl (by first | exact opv_move rfl rfl | exact opv_assign rfl rfl | exact opv_pick_f rfl rfl rfl | exact opv_extract rfl rfl rfl ) ?_ | refine sl_pass rfl rfl rfl rfl ?_)
        | (refine gk 2 rfl ?_; first | refine sl_yes rfl rfl rfl (by first | exact opv_eql rfl rfl rfl ) (by first | omega ) ?_ )
        | (refine gk 3 rfl ?_; first | refine sl_op rfl rfl rfl (by first | exact opv_load rfl (by exact rfl) rfl (by exact rfl) | exact opv_fieldAddr rfl rfl | exact opv_loadA rfl (by exact rfl) rfl (by exact rfl) (by exact rfl) | exact opv_indexAddrI rfl rfl rfl (by omega) (by omega) (by first | omega ) | exact opv_load3 rfl (by exact rfl) (by infer_instance) (by assumption) (by assumption) (by assumption)) ?_ )
        | (refine gk 4 rfl ?_; first | refine sl_op rfl rfl rfl (opv_call rfl rfl rfl rfl rfl (hA)) ?_ | refine sl_no rfl rfl rfl (opv_call rfl rfl rfl rfl rfl (asking_calls _)) (by first | omega ) ?_ )
        | (refine gk 5 rfl ?_; first | refine sl_op rfl rfl rfl (by first | exact opv_nilCheck rfl rfl ) ?_ | refine sl_alloc rfl rfl rfl rfl (by exact rfl) (fun β => ?_) | refine sl_store rfl rfl rfl rfl rfl rfl (by exact rfl) rfl (by exact rfl) ?_)
        | refine sl_region rfl ?_
        | refine sl_nil ?_
        | refine thn_k ?_
        | refine swp_true rfl ?_
        | refine swp_false rfl ?_
        | refine swp_skip ?_
        )
      refine sl_drawC [.q [1, 2], .h false 0, .q [3, 4, 5, 6, 7, 8]] [] (by kernel_rfl) (by kernel_rfl) (by kernel_rfl) (by kernel_rfl) ?_
      repeat' (first
        | refine sl_op rfl rfl rfl (opv_lookS mpD rfl rfl rfl (v := fnV 60) rfl) ?_
        | refine sl_op rfl rfl rfl (opv_lookS mp rfl rfl rfl hf) ?_
        | refine swp_seq ?_
        | (refine gk 0 rfl ?_; first | refine sl_op rfl rfl rfl (by first | exact opv_move rfl rfl | exact opv_assign rfl rfl | exact opv_not_t rfl rfl | exact opv_extract rfl rfl rfl ) ?_ )
        | (refine gk 3 rfl ?_; first | refine sl_op rfl rfl rfl (by first | exact opv_load rfl (by exact rfl) rfl (by exact rfl) | exact opv_fieldAddr rfl rfl ) ?_ )
        | (refine gk 4 rfl ?_; first | refine sl_op rfl rfl rfl (opv_call rfl rfl rfl rfl rfl (hD4)) ?_)
        | (refine gk 5 rfl ?_; first | refine sl_op rfl rfl rfl (by first | exact opv_nilCheck rfl rfl ) ?_ )
        | refine sl_region rfl ?_
        | refine chu_nil ?_
        | refine chu_q rfl ?_
        | (refine chu_T rfl rfl rfl rfl rfl rfl rfl rfl (does_calls) (by rintro _ _ ⟨hD, bD, rfl, rfl, mpD⟩; exact ⟨_, rfl⟩) ?_; rintro _ _ ⟨hD, bD, rfl, rfl, mpD⟩; refine ⟨_, _, rfl, rfl, ?_⟩)
        | refine sl_nil ?_
        | refine thn_k ?_
        | refine swp_false rfl ?_
        | refine swp_ret ?_
        | refine swp_skip ?_
        )
      exact end_retL [J, wBlk βw p lo st cb cl cc bm ob on oc wr, hM, K] (resOk_two (resV_tmp rfl) (resV_tmp rfl)) ⟨[], rfl, _, _, _, by rw [isSome_if], fun s hs => by
        split at hs
        · cases hs; exact ⟨hn, hnc, inferInstance⟩
        · cases hs⟩
    · rw [if_neg h3]
      by_cases h20 : op = 20
      · subst h20
        have e : doF 20 ((askO cs z).getD 0) xs = if xs = [] then some xs else none := rfl
        rw [e]
        have hx0 : xs = [] ↔ n = 0 := by rw [← hn]; exact List.length_eq_zero_iff.symm
        have hD5 := does5_calls b n c k
        refine t_of_body Try.func40 rfl (Nat.le_of_ble_eq_true rfl) fun F => ?_
        repeat' (first
          | refine swp_seq ?_
          | (refine gk 0 rfl ?_; first | refine sl_op rfl rfl rfl (by first | exact opv_move rfl rfl | exact opv_assign rfl rfl | exact opv_pick_f rfl rfl rfl | exact opv_extract rfl rfl rfl ) ?_ | refine sl_pass rfl rfl rfl rfl ?_)
          | (refine gk 2 rfl ?_; first | refine sl_no rfl rfl rfl (by first | exact opv_eql rfl rfl rfl ) (by first | omega ) ?_ )
          | (refine gk 3 rfl ?_; first | refine sl_op rfl rfl rfl (by first | exact opv_load rfl (by exact rfl) rfl (by exact rfl) | exact opv_fieldAddr rfl rfl | exact opv_loadA rfl (by exact rfl) rfl (by exact rfl) (by exact rfl) | exact opv_indexAddrI rfl rfl rfl (by omega) (by omega) (by first | omega ) | exact opv_load3 rfl (by exact rfl) (by infer_instance) (by assumption) (by assumption) (by assumption)) ?_ )
          | (refine gk 4 rfl ?_; first | refine sl_op rfl rfl rfl (opv_call rfl rfl rfl rfl rfl (hA)) ?_ | refine sl_no rfl rfl rfl (opv_call rfl rfl rfl rfl rfl (asking_calls _)) (by first | omega ) ?_ )
          | (refine gk 5 rfl ?_; first | refine sl_op rfl rfl rfl (by first | exact opv_nilCheck rfl rfl ) ?_ | refine sl_alloc rfl rfl rfl rfl (by exact rfl) (fun β => ?_) | refine sl_store rfl rfl rfl rfl rfl rfl (by exact rfl) rfl (by exact rfl) ?_)
          | refine sl_region rfl ?_
          | refine sl_nil ?_
          | refine thn_k ?_
          | refine swp_false rfl ?_
          | refine swp_skip ?_
          )
        refine sl_drawC [.q [1, 2], .h false 0, .q [3, 4, 5, 6, 7, 8]] [] (by kernel_rfl) (by kernel_rfl) (by kernel_rfl) (by kernel_rfl) ?_
        repeat' (first
          | refine sl_op rfl rfl rfl (opv_lookS mpD rfl rfl rfl (v := fnV 61) rfl) ?_
          | refine sl_op rfl rfl rfl (opv_lookS mp rfl rfl rfl hf) ?_
          | refine swp_seq ?_
          | (refine gk 0 rfl ?_; first | refine sl_op rfl rfl rfl (by first | exact opv_move rfl rfl | exact opv_assign rfl rfl | exact opv_not_t rfl rfl | exact opv_extract rfl rfl rfl ) ?_ )
          | (refine gk 3 rfl ?_; first | refine sl_op rfl rfl rfl (by first | exact opv_load rfl (by exact rfl) rfl (by exact rfl) | exact opv_fieldAddr rfl rfl ) ?_ )
          | (refine gk 4 rfl ?_; first | refine sl_op rfl rfl rfl (opv_call rfl rfl rfl rfl rfl (hD5)) ?_)
          | (refine gk 5 rfl ?_; first | refine sl_op rfl rfl rfl (by first | exact opv_nilCheck rfl rfl ) ?_ )
          | refine sl_region rfl ?_
          | refine chu_nil ?_
          | refine chu_q rfl ?_
          | (refine chu_T rfl rfl rfl rfl rfl rfl rfl rfl (does_calls) (by rintro _ _ ⟨hD, bD, rfl, rfl, mpD⟩; exact ⟨_, rfl⟩) ?_; rintro _ _ ⟨hD, bD, rfl, rfl, mpD⟩; refine ⟨_, _, rfl, rfl, ?_⟩)
          | refine sl_nil ?_
          | refine thn_k ?_
          | refine swp_false rfl ?_
          | refine swp_ret ?_
          | refine swp_skip ?_
          )
        exact end_retL [J, wBlk βw p lo st cb cl cc bm ob on oc wr, hM, K] (resOk_two (resV_tmp rfl) (resV_tmp rfl)) ⟨[], rfl, _, _, _, by rw [isSome_if, decide_eq_decide.2 hx0], fun s hs => by
          split at hs
          · cases hs; exact ⟨hn, hnc, inferInstance⟩
          · cases hs⟩
      · rw [doF_other h5 h3 h20]
        have hd := doesF_other h5 h3 h20
        refine t_of_body Try.func40 rfl (Nat.le_of_ble_eq_true rfl) fun F => ?_
        repeat' (first
          | refine swp_seq ?_
          | (refine gk 0 rfl ?_; first | refine sl_op rfl rfl rfl (by first | exact opv_move rfl rfl | exact opv_assign rfl rfl | exact opv_pick_f rfl rfl rfl | exact opv_extract rfl rfl rfl ) ?_ | refine sl_pass rfl rfl rfl rfl ?_)
          | (refine gk 2 rfl ?_; first | refine sl_no rfl rfl rfl (by first | exact opv_eql rfl rfl rfl ) (by first | omega ) ?_ )
          | (refine gk 3 rfl ?_; first | refine sl_op rfl rfl rfl (by first | exact opv_load rfl (by exact rfl) rfl (by exact rfl) | exact opv_fieldAddr rfl rfl | exact opv_loadA rfl (by exact rfl) rfl (by exact rfl) (by exact rfl) | exact opv_indexAddrI rfl rfl rfl (by omega) (by omega) (by first | omega ) | exact opv_load3 rfl (by exact rfl) (by infer_instance) (by assumption) (by assumption) (by assumption)) ?_ )
          | (refine gk 4 rfl ?_; first | refine sl_op rfl rfl rfl (opv_call rfl rfl rfl rfl rfl (hA)) ?_ | refine sl_no rfl rfl rfl (opv_call rfl rfl rfl rfl rfl (asking_calls _)) (by first | omega ) ?_ )
          | (refine gk 5 rfl ?_; first | refine sl_op rfl rfl rfl (by first | exact opv_nilCheck rfl rfl ) ?_ | refine sl_alloc rfl rfl rfl rfl (by exact rfl) (fun β => ?_) | refine sl_store rfl rfl rfl rfl rfl rfl (by exact rfl) rfl (by exact rfl) ?_)
          | refine sl_region rfl ?_
          | refine sl_nil ?_
          | refine thn_k ?_
          | refine swp_false rfl ?_
          | refine swp_skip ?_
          )
        refine sl_drawC [.q [1, 2], .h false 0, .q [3, 4, 5, 6, 7, 8]] [] (by kernel_rfl) (by kernel_rfl) (by kernel_rfl) (by kernel_rfl) ?_
        repeat' (first
          | refine sl_op rfl rfl rfl (opv_lookN mpD rfl rfl rfl hd) ?_
          | refine sl_op rfl rfl rfl (opv_lookS mp rfl rfl rfl hf) ?_
          | refine swp_seq ?_
          | (refine gk 0 rfl ?_; first | refine sl_op rfl rfl rfl (by first | exact opv_move rfl rfl | exact opv_assign rfl rfl | exact opv_not_f rfl rfl | exact opv_extract rfl rfl rfl ) ?_ )
          | (refine gk 3 rfl ?_; first | refine sl_op rfl rfl rfl (by first | exact opv_load rfl (by exact rfl) rfl (by exact rfl) | exact opv_fieldAddr rfl rfl ) ?_ )
          | (refine gk 5 rfl ?_; first | refine sl_op rfl rfl rfl (by first | exact opv_nilCheck rfl rfl ) ?_ )
          | refine sl_region rfl ?_
          | refine chu_nil ?_
          | refine chu_q rfl ?_
          | (refine chu_T rfl rfl rfl rfl rfl rfl rfl rfl (does_calls) (by rintro _ _ ⟨hD, bD, rfl, rfl, mpD⟩; exact ⟨_, rfl⟩) ?_; rintro _ _ ⟨hD, bD, rfl, rfl, mpD⟩; refine ⟨_, _, rfl, rfl, ?_⟩)
          | refine sl_nil ?_
          | refine thn_k ?_
          | refine swp_true rfl ?_
          | refine swp_ret ?_
          | refine thn_ret ?_
          )
        exact end_retL [J, wBlk βw p lo st cb cl cc bm ob on oc wr, hM, K] (resOk_two (resV_tmp rfl) (resV_tmp rfl)) ⟨[], rfl, _, _, _, rfl, fun s hs => by cases hs; exact ⟨hn, hnc, inferInstance⟩⟩
end Go.Proofs.Ytifhhfeibnpaoaa
