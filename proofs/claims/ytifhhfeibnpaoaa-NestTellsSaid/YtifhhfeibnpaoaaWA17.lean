/- Going through a method: the document's answer, walked. -/
import Derived.Test.YtifhhfeibnpaoaaWA16
import Derived.Test.YtifhhfeibnpaoaaSlG8
namespace Go.Proofs.Ytifhhfeibnpaoaa
open Go.SL
set_option maxRecDepth 100000
set_option maxHeartbeats 16000000
attribute [local irreducible] SL.T PFn OpV SOL SWP HOp ChU
theorem T_joinN {P : Program} {f : FuncId} {args : List Value} {own : List Heap} {R : Ending → List Heap → Prop}
    (h : SL.T P f args own fun e o => ∃ N, o = own ++ N ∧ R e N) : SL.T P f args own fun e o => ∃ K N, o = own ++ [K] ∧ (∀ k ∈ N, hle k K) ∧ R e N := by
  have h2 := T_joinP (R := fun e A N => A = own ∧ R e N) (h.mono fun e o ⟨N, ho, hR⟩ => ⟨own, N, by rw [ho]; exact List.perm_append_comm, rfl, hR⟩)
  unfold SL.T at h2 ⊢
  intro w X s
  refine (h2 w X s).mono ?_
  rintro e w' ⟨o, s2, A, N, K, rfl, hK, rfl, hR⟩
  exact ⟨A ++ [K], s2.perm ((List.perm_append_comm (l₁ := [K]) (l₂ := A)).append_right X), K, N, rfl, hK, hR⟩
theorem rbehind_N (J K : Heap) (p : Value) (lo st : Int) (cb : Option Addr) (cl cc : Nat) (cs : List Ins) (z : Nat) (b : Option Addr) (n c : Nat) (xs : List Int)
    [Sl J cb (flatI cs)] (slK : Sl K b (xs.map i64)) (hl : cs.length = cl) (hsm : cl ≤ 1000000) (hz : z < cl) (hn : xs.length = n) (hnc : n ≤ c) (hns : n ≤ 1000000) {r : Option (List Int)} (hr : behF cs z xs = r) :
    SL.T Try.prog 24 [mth p lo st cb cl cc, i64 (z : Int), .slice b n c] [J, K] fun e o => ∃ hN, o = [J, K, hN] ∧
      ∃ b' n' c', e = .returned (stV b' n' c' r.isSome) ∧ ∀ s, r = some s → s.length = n' ∧ n' ≤ c' ∧ SlIn [K, hN] b' (s.map i64) := by
  subst hr
  refine (T_joinN (rbehind_calls J K p lo st cb cl cc cs z b n c xs hl hsm hz hn hnc hns)).mono ?_
  rintro e o ⟨hN, N, rfl, hK, b', n', c', rfl, hq⟩
  refine ⟨hN, rfl, b', n', c', rfl, fun s hs => ?_⟩
  obtain ⟨h1, h2, ⟨k, hk, e⟩⟩ := hq s hs
  rcases List.mem_cons.1 hk with rfl | hk
  · exact ⟨h1, h2, ⟨k, by simp, e⟩⟩
  · exact ⟨h1, h2, ⟨hN, by simp, e.mono (hK k hk)⟩⟩
/-- Which places were come to, as a row. -/
def comL (n : Nat) (V : List Int) : List Value := (List.range n).map fun (t : Nat) => .bool (decide ((t : Int) ∈ V))
theorem comL_length (n : Nat) (V : List Int) : (comL n V).length = n := by simp [comL]
theorem comL_at {n : Nat} {V : List Int} {t : Nat} (h : t < n) : (comL n V)[t]? = some (.bool (decide ((t : Int) ∈ V))) := by simp [comL, h]
theorem comL_nil (n : Nat) : comL n [] = List.replicate n (.bool false) := by
  apply List.ext_getElem?
  intro i
  by_cases h : i < n
  · rw [comL_at h]; simp [h]
  · rw [List.getElem?_eq_none (by rw [comL_length]; omega), List.getElem?_eq_none (by simp; omega)]
theorem comL_add {n : Nat} {V : List Int} {t : Nat} (h : t < n) : (comL n V).set t (.bool true) = comL n (V ++ [(t : Int)]) := by
  apply List.ext_getElem?
  intro i
  by_cases hi : i < n
  · by_cases e : i = t
    · subst e; rw [comL_at hi]; simp [comL_length, hi]
    · rw [List.getElem?_set_ne (Ne.symm e), comL_at hi, comL_at hi]
      have : ¬ ((i : Int) = (t : Int)) := by omega
      simp [this]
  · rw [List.getElem?_eq_none (by rw [List.length_set, comL_length]; omega), List.getElem?_eq_none (by rw [comL_length]; omega)]
/-- How far the document's going through is. -/
structure RI (n : Nat) (K : Heap) (hS hC hO : Heap) (sb kb ob : Option Addr) (oc : Nat) (V : List Int) (stk : Int → List Int) (vals : List Value) : Prop where
  os : OS hS sb n n 47 1 vals
  ok : OS hC kb n n 4 1 (comL n V)
  oo : OS hO ob V.length oc 3 1 (V.map i64)
  rows : Rows K stk n vals
  rng : ∀ t ∈ V, 0 ≤ t ∧ t < (n : Int)
  nd : V.Nodup
theorem RI.mono {n : Nat} {K K' hS hC hO : Heap} {sb kb ob : Option Addr} {oc : Nat} {V : List Int} {stk : Int → List Int} {vals : List Value} (h : RI n K hS hC hO sb kb ob oc V stk vals) (hK : hle K K') : RI n K' hS hC hO sb kb ob oc V stk vals :=
  ⟨h.os, h.ok, h.oo, h.rows.mono hK, h.rng, h.nd⟩
theorem Rows.upd {K : Heap} {stk : Int → List Int} {n : Nat} {vals : List Value} (h : Rows K stk n vals) {t : Nat} (hv : vals.length = n) (ht : t < n) {s : List Int} {b : Option Addr} {m c : Nat} (sl : Sl K b (s.map i64)) (h1 : s.length = m) (h2 : m ≤ 8) (h3 : m ≤ c) :
    Rows K (fun q => if q = (t : Int) then s else stk q) n (vals.set t (.slice b m c)) := fun u hu => by
  by_cases e : u = t
  · subst e; exact ⟨b, m, c, by simp [hv, ht], by simpa using sl, by simpa using h1, h2, h3⟩
  · obtain ⟨b, m, c, g1, g2⟩ := h u hu
    have : ¬ ((u : Int) = (t : Int)) := by omega
    exact ⟨b, m, c, by rw [List.getElem?_set_ne (Ne.symm e)]; exact g1, by simpa [this] using g2⟩
theorem rng_add {n : Nat} {V : List Int} {t : Int} (h : ∀ t ∈ V, 0 ≤ t ∧ t < (n : Int)) (ht : 0 ≤ t ∧ t < (n : Int)) : ∀ u ∈ V ++ [t], 0 ≤ u ∧ u < (n : Int) := fun u hu => by
  rcases List.mem_append.1 hu with hu | hu
  · exact h u hu
  · rw [List.mem_singleton.1 hu]; exact ht
theorem nd_add {V : List Int} {t : Int} (h : V.Nodup) (ht : t ∉ V) : (V ++ [t]).Nodup := by
  rw [List.nodup_append]
  exact ⟨h, by simp, fun a ha b hb => by rw [List.mem_singleton.1 hb]; rintro rfl; exact ht ha⟩
structure GR where
  i : Nat
  K : Heap
  hS : Heap
  hC : Heap
  hO : Heap
  ob : Option Addr
  oc : Nat
  V : List Int
  stk : Int → List Int
  vals : List Value
  n : Nat
abbrev rBlk (β : Nat) (sb kb : Option Addr) (n : Nat) (wr : Int) : Heap := blk β (.cells ⟨[.slice sb n n, .slice kb n n, i64 wr]⟩ 38 (0, 0))
abbrev r0Blk (β : Nat) : Heap := blk β (.cells ⟨[.slice none 0 0, .slice none 0 0, i64 0]⟩ 38 (0, 0))
theorem rGo_big (J : Heap) (p : Value) (lo st : Int) (cb : Option Addr) (cl cc : Nat) (cs : List Ins) [iJ : Sl J cb (flatI cs)] (hl : cs.length = cl) (hsm : cl ≤ 1000000) (h0 : 0 < cl) :
    SL.T Try.prog 8 [mth p lo st cb cl cc] [J] fun e o => ∃ K hS hC hO sb kb ob oc V stk vals i k n wr, o = [J, hS, K] ∧ e = .returned (.agg ⟨[.slice sb cl cl, .slice kb cl cl, i64 wr]⟩) ∧
      RI cl K hS hC hO sb kb ob oc V stk vals ∧ GS.run cs n = ⟨V, stk, i, k, some wr⟩ := by
  refine t_of_body Try.func8 rfl (Nat.le_of_ble_eq_true rfl) fun F => ?_
  refine swp_emp ?_
  repeat' (first
    | refine swp_seq ?_
    | (refine gk 0 rfl ?_; first | refine sl_op rfl rfl rfl (by first | exact opv_assign rfl rfl ) ?_ )
    | (refine gk 3 rfl ?_; first | refine sl_op rfl rfl rfl (by first | exact opv_load rfl (by exact rfl) rfl (by exact rfl) | exact opv_fieldAddr rfl rfl ) ?_ )
    | (refine gk 4 rfl ?_; first | refine sl_op rfl rfl rfl (by first | exact opv_len rfl rfl rfl rfl rfl ) ?_)
    | (refine gk 5 rfl ?_; first | refine sl_box rfl rfl rfl rfl rfl rfl (fun β => ?_) | refine sl_alloc rfl rfl rfl rfl (by exact rfl) (fun β => ?_) )
    | refine sl_region rfl ?_
    | refine sl_nil ?_
    )
  refine sl_drawC [.q [0], .an 1, .q [2], .an 3, .an 5, .rv 1, .rv 3, .q [4], .rv 5, .h true 6] [] (by kernel_rfl) (by kernel_rfl) (by kernel_rfl) (by kernel_rfl) ?_
  repeat' (first
    | refine sl_op rfl rfl rfl (opv_indexAddrI (cs := List.replicate cl (.bool false)) rfl rfl rfl (by omega) (by omega) (by rw [List.length_replicate]; omega)) ?_
    | refine swp_seq ?_
    | (refine gk 0 rfl ?_; first | refine sl_op rfl rfl rfl (by first | exact opv_move rfl rfl | exact opv_assign rfl rfl ) ?_ )
    | (refine gk 2 rfl ?_; first | refine sl_no rfl rfl rfl (by first | exact opv_eql rfl rfl rfl ) (by first | omega ) ?_ )
    | (refine gk 3 rfl ?_; first | refine sl_op rfl rfl rfl (by first | exact opv_load rfl (by exact rfl) rfl (by exact rfl) | exact opv_fieldAddr rfl rfl ) ?_ )
    | (refine gk 5 rfl ?_; first | refine sl_op rfl rfl rfl (by first | exact opv_build rfl rfl (by exact rfl) ) ?_ | refine sl_buildSlice rfl rfl rfl rfl rfl (by exact rfl) (by exact rfl) (by exact rfl) (by exact rfl) rfl (fun b => ?_) )
    | refine sl_region rfl ?_
    | refine chu_nil ?_
    | refine chu_q rfl ?_
    | refine chu_new rfl rfl (by first | exact new_alloc rfl (by exact rfl) | exact new_makeSlice rfl rfl rfl rfl (by omega) (by omega) ) ?_
    | refine chu_rv rfl rfl rfl (fun β => ?_)
    | refine chu_store rfl rfl rfl rfl rfl rfl (by exact rfl) rfl (by exact rfl) (by exact rfl) ?_
    | refine sl_nil ?_
    | refine thn_k ?_
    | refine swp_false rfl ?_
    | refine swp_skip ?_
    )
  rename_i β1 β2 β3 β4
  refine sl_storeE rfl rfl rfl rfl rfl (OS.blk (b := β4) (T := 4) (len := cl) (sz := 1) (cs := List.replicate cl (.bool false)) (by simp)) rfl rfl rfl (Nat.succ_pos _) (by simp; omega) (set_val (j := 0) (by simp) (by simp; omega)) (fun hC os1 => ?_)
  obtain ⟨β5, rfl⟩ : ∃ x, x = β := ⟨_, rfl⟩
  obtain ⟨β6, rfl⟩ : ∃ x, x = b := ⟨_, rfl⟩
  have e0 : (List.replicate cl (Value.bool false)).set 0 (Value.bool true) = comL cl [0] := by
    rw [← comL_nil, comL_add h0]; rfl
  rw [e0] at os1
  repeat' (first
    | refine swp_seq ?_
    | (refine gk 0 rfl ?_; first | refine sl_op rfl rfl rfl (by first | exact opv_assign rfl rfl ) ?_ )
    | refine sl_region rfl ?_
    | refine sl_nil ?_
    | refine thn_k ?_
    | refine swp_block ?_
    )
  refine swp_loopS (fun s : GR => [(1, .pointer (some ⟨β1, 0, none⟩)), (2, .pointer (some ⟨β2, 0, none⟩)), (3, i64 (cl : Int)), (4, .pointer (some ⟨β5, 0, none⟩)), (5, .slice s.ob s.V.length s.oc), (6, i64 (s.i : Int))])
    (fun s => [rBlk β5 (some ⟨β3, 0, none⟩) (some ⟨β4, 0, none⟩) cl (-1), s.hS, s.hC, s.hO, r0Blk β2, mBlk β1 p lo st cb cl cc, s.K, J])
    (fun s => s.i ≤ s.V.length ∧ RI cl s.K s.hS s.hC s.hO (some ⟨β3, 0, none⟩) (some ⟨β4, 0, none⟩) s.ob s.oc s.V s.stk s.vals ∧ GS.run cs s.n = ⟨s.V, s.stk, s.i, 0, none⟩)
    (fun s => cl - s.i) ⟨0, emp, blk β3 (.cells ⟨List.replicate cl (.slice none 0 0)⟩ 47 (0, 0)), hC, blk β6 (.cells ⟨[i64 0]⟩ 3 (0, 0)), some ⟨β6, 0, none⟩, 1, [0], fun _ => [], List.replicate cl (.slice none 0 0), 0⟩ (by repeat first | exact Sub.nil _ | refine Sub.cons rfl ?_)
    ⟨Nat.zero_le _, ⟨OS.blk (by simp), os1, OS.blk rfl, fun t ht => ⟨none, 0, 0, by simp [ht], Sl.none, rfl, by omega, Nat.le_refl _⟩, fun t ht => by rw [List.mem_singleton.1 ht]; omega, by simp⟩, rfl⟩ ?_
  clear os1
  rintro ⟨i, K, hS, hC, hO, ob, oc, V, stk, vals, n⟩ ⟨hi, ri, hg⟩
  dsimp only at hi ri hg ⊢
  have hVl : V.length ≤ cl := nodup_len ri.nd ri.rng
  have hvl : vals.length = cl := by simpa using ri.os.hlen
  haveI slS := ri.os.sl
  haveI slC := ri.ok.sl
  haveI slO := ri.oo.sl
  by_cases hi2 : i < V.length
  · obtain ⟨z, hV⟩ : ∃ z, V[i]? = some z := ⟨_, List.getElem?_eq_getElem hi2⟩
    have hzm := List.mem_of_getElem? hV
    obtain ⟨hz0, hz1⟩ := ri.rng z hzm
    obtain ⟨zn, rfl⟩ := Int.eq_ofNat_of_zero_le hz0
    have hcV : (V.map i64)[((i : Nat) : Int).toNat * 1]? = some (i64 (zn : Int)) := by simp [hV]
    obtain ⟨b1, m1, c1, hv1, sl1, hl1, h81, hc1⟩ := ri.rows zn (by omega)
    have hcv : vals[((zn : Nat) : Int).toNat * 1]? = some (.slice b1 m1 c1) := by simpa using hv1
    have hql : ((zn : Nat) : Int).toNat * 1 < vals.length := by omega
    obtain ⟨r, hb⟩ : ∃ r, behF cs zn (stk zn) = r := ⟨_, rfl⟩
    have hB := rbehind_N J K p lo st cb cl cc cs zn b1 m1 c1 (stk zn) sl1 hl hsm (by omega) hl1 hc1 (by omega) hb
    repeat' (first
      | refine swp_seq ?_
      | (refine gk 0 rfl ?_; first | refine sl_op rfl rfl rfl (by first | exact opv_move rfl rfl | exact opv_assign rfl rfl ) ?_ )
      | (refine gk 2 rfl ?_; first | refine sl_yes rfl rfl rfl (by first | exact opv_lss rfl rfl rfl ) (by first | omega ) ?_ )
      | (refine gk 3 rfl ?_; first | refine sl_op rfl rfl rfl (by first | exact opv_indexAddrI rfl rfl rfl (by omega) (by omega) (by first | omega | (simp only [List.length_map]; omega) ) | exact opv_loadEx rfl (by exact rfl) (by infer_instance) (by first | assumption ) ) ?_ )
      | (refine gk 4 rfl ?_; first | refine sl_op rfl rfl rfl (by first | exact opv_len rfl rfl rfl rfl rfl ) ?_)
      | refine sl_region rfl ?_
      | refine sl_nil ?_
      | refine thn_k ?_
      | refine swp_true rfl ?_
      | refine swp_block ?_
      | refine swp_skip ?_
      )
    refine sl_drawC [.q [0, 1, 2, 3, 4, 5, 6], .h false 7, .q [8, 9, 10, 11, 12]] [] (by kernel_rfl) (by kernel_rfl) (by kernel_rfl) (by kernel_rfl) ?_
    repeat' (first
      | refine swp_seq ?_
      | (refine gk 0 rfl ?_; first | refine sl_op rfl rfl rfl (by first | exact opv_move rfl rfl | exact opv_assign rfl rfl | exact opv_not rfl rfl | exact opv_extract rfl rfl rfl ) ?_ )
      | (refine gk 3 rfl ?_; first | refine sl_op rfl rfl rfl (by first | exact opv_load rfl (by exact rfl) rfl (by exact rfl) | exact opv_fieldAddr rfl rfl | exact opv_loadA rfl (by exact rfl) rfl (by exact rfl) (by exact rfl) | exact opv_indexAddrI rfl rfl rfl (by omega) (by omega) (by first | omega ) | exact opv_loadEx rfl (by exact rfl) (by infer_instance) (by first | assumption ) ) ?_ )
      | refine sl_region rfl ?_
      | refine chu_nil ?_
      | refine chu_q rfl ?_
      | (refine chu_T rfl rfl rfl rfl rfl rfl rfl rfl (hB) (by rintro _ _ ⟨hN, rfl, b', n', c', rfl, hS'⟩; exact ⟨_, rfl⟩) ?_; rintro _ _ ⟨hN, rfl, b', n', c', rfl, hS'⟩; refine ⟨_, _, rfl, rfl, ?_⟩)
      | refine sl_nil ?_
      | refine thn_k ?_
      )
    refine swp_merge [K, hN] fun K' hK' => ?_
    have hKK : hle K K' := hK' K (by simp)
    rcases r with _ | s
    · repeat' (first
        | refine swp_seq ?_
        | (refine gk 0 rfl ?_; first | refine sl_op rfl rfl rfl (by first | exact opv_move rfl rfl ) ?_ )
        | (refine gk 3 rfl ?_; first | refine sl_op rfl rfl rfl (by first | exact opv_fieldAddr rfl rfl | exact opv_loadA rfl (by exact rfl) rfl (by exact rfl) (by exact rfl) ) ?_ )
        | (refine gk 5 rfl ?_; first | refine sl_store rfl rfl rfl rfl rfl rfl (by exact rfl) rfl (by exact rfl) ?_)
        | refine sl_region rfl ?_
        | refine sl_nil ?_
        | refine thn_k ?_
        | refine swp_true rfl ?_
        | refine swp_ret ?_
        | refine thn_ret ?_
        | refine inb_ret ?_
        )
      exact end_retL [J, hS, K'] (resOk_one (resV_cellA rfl rfl rfl rfl)) ⟨K', hS, hC, hO, _, _, ob, oc, V, stk, vals, i, 0, n + 1, zn, rfl, rfl, ri.mono hKK, by rw [run_step hg, step_bad hV hb]⟩
    · obtain ⟨hs1, hs2, hs3⟩ := hS' s rfl
      have hs3 : Sl K' b' (s.map i64) := hs3.allK hK'
      have hs8 := behF_len hb (by omega)
      have ri2 := ri.mono hKK
      have hnl := nxt_length cs (zn : Int)
      clear hB hK' hS' hKK
      repeat' (first
        | refine swp_seq ?_
        | (refine gk 0 rfl ?_; first | refine sl_op rfl rfl rfl (by first | exact opv_move rfl rfl | exact opv_assign rfl rfl ) ?_ )
        | (refine gk 3 rfl ?_; first | refine sl_op rfl rfl rfl (by first | exact opv_loadA rfl (by exact rfl) rfl (by exact rfl) (by exact rfl) ) ?_ )
        | (refine gk 4 rfl ?_; first | (refine sl_callW rfl rfl rfl rfl rfl rfl rfl rfl (rNext_W _ p lo st cb cl cc cs (zn : Int) hl (by omega)) ?_; rintro _ _ ⟨hN2, bN, cN, rfl, rfl, osN⟩; haveI slN := osN.sl; refine ⟨_, _, rfl, rfl, ?_⟩))
        | refine sl_region rfl ?_
        | refine sl_nil ?_
        | refine thn_k ?_
        | refine swp_false rfl ?_
        | refine swp_block ?_
        | refine swp_skip ?_
        )
      clear osN
      refine swp_loopS (fun s : GR => [(1, .pointer (some ⟨β1, 0, none⟩)), (2, .pointer (some ⟨β2, 0, none⟩)), (3, i64 (cl : Int)), (4, .pointer (some ⟨β5, 0, none⟩)), (5, .slice s.ob s.V.length s.oc), (6, i64 (i : Int)), (8, .slice b' n' c'), (10, .slice bN (nxt cs (zn : Int)).length cN), (11, i64 (s.i : Int))])
        (fun s => [hN2, rBlk β5 (some ⟨β3, 0, none⟩) (some ⟨β4, 0, none⟩) cl (-1), s.hS, s.hC, s.hO, r0Blk β2, mBlk β1 p lo st cb cl cc, K', J])
        (fun q => q.i ≤ (nxt cs (zn : Int)).length ∧ RI cl K' q.hS q.hC q.hO (some ⟨β3, 0, none⟩) (some ⟨β4, 0, none⟩) q.ob q.oc q.V q.stk q.vals ∧ GS.run cs q.n = ⟨q.V, q.stk, i, q.i, none⟩ ∧ q.V[i]? = some (zn : Int) ∧ q.stk zn = stk zn)
        (fun s => (nxt cs (zn : Int)).length - s.i) ⟨0, K', hS, hC, hO, ob, oc, V, stk, vals, n⟩ (by repeat first | exact Sub.nil _ | refine Sub.cons rfl ?_) ⟨Nat.zero_le _, ri2, hg, hV, rfl⟩ ?_
      clear slS slC slO ri2 ri hg hV hcV hv1 hcv hql hVl hvl
      rintro ⟨k, K0, hS, hC, hO, ob, oc, V, stk', vals, n⟩ ⟨hk, ri, hg, hV, hst⟩
      dsimp only at hk ri hg hV hst ⊢
      have hVl : V.length ≤ cl := nodup_len ri.nd ri.rng
      have hvl : vals.length = cl := by simpa using ri.os.hlen
      have hcl := comL_length cl V
      haveI slS := ri.os.sl
      haveI slC := ri.ok.sl
      have hb : behF cs zn (stk' zn) = some s := by rw [hst]; exact hb
      have hi3 := (List.getElem?_eq_some_iff.1 hV).1
      by_cases hk2 : k < (nxt cs (zn : Int)).length
      · obtain ⟨t, ht⟩ : ∃ t, (nxt cs (zn : Int))[k]? = some t := ⟨_, List.getElem?_eq_getElem hk2⟩
        have hct : ((nxt cs (zn : Int)).map i64)[((k : Nat) : Int).toNat * 1]? = some (i64 t) := by simp [ht]
        by_cases hr : 0 ≤ t ∧ t < (cl : Int)
        · have hr' : 0 ≤ t ∧ t < (cs.length : Int) := by rw [hl]; exact hr
          obtain ⟨tn, rfl⟩ := Int.eq_ofNat_of_zero_le hr.1
          have hq1 : ((tn : Nat) : Int).toNat * 1 < (comL cl V).length := by omega
          have hq2 : ((tn : Nat) : Int).toNat * 1 < vals.length := by omega
          have hcm := comL_at (V := V) (show tn < cl by omega)
          have hcm : (comL cl V)[((tn : Nat) : Int).toNat * 1]? = some (.bool (decide ((tn : Int) ∈ V))) := by simpa using hcm
          by_cases hv : (tn : Int) ∈ V
          · rw [decide_eq_true hv] at hcm
            obtain ⟨b2, m2, c2, hv2, sl2, hl2, h82, hc2⟩ := ri.rows tn (by omega)
            have hcv2 : vals[((tn : Nat) : Int).toNat * 1]? = some (.slice b2 m2 c2) := by simpa using hv2
            haveI := hs3
            haveI := sl2
            have hC2 := rSame_calls [K'] b2 b' m2 n' c2 c' (stk' tn) s hl2 hs1 (by omega)
            by_cases he : stk' tn = s
            · rw [decide_eq_true he] at hC2
              repeat' (first
                | refine swp_seq ?_
                | (refine gk 0 rfl ?_; first | refine sl_op rfl rfl rfl (by first | exact opv_move rfl rfl | exact opv_assign rfl rfl | exact opv_pick_t rfl rfl rfl | exact opv_pick_f rfl rfl rfl | exact opv_not_t rfl rfl ) ?_ )
                | (refine gk 1 rfl ?_; first | refine sl_op rfl rfl rfl (by first | exact opv_add64 rfl rfl rfl (by omega) (by omega) ) ?_ )
                | (refine gk 2 rfl ?_; first | refine sl_yes rfl rfl rfl (by first | exact opv_lss rfl rfl rfl | exact opv_geq rfl rfl rfl ) (by first | omega ) ?_ | refine sl_no rfl rfl rfl (by first | exact opv_lss rfl rfl rfl | exact opv_geq rfl rfl rfl ) (by first | omega ) ?_ )
                | (refine gk 3 rfl ?_; first | refine sl_op rfl rfl rfl (by first | exact opv_load rfl (by exact rfl) rfl (by exact rfl) | exact opv_fieldAddr rfl rfl | exact opv_indexAddrI rfl rfl rfl (by omega) (by omega) (by first | omega | (simp only [List.length_map]; omega) ) | exact opv_loadEx rfl (by exact rfl) (by infer_instance) (by first | assumption ) ) ?_ )
                | (refine gk 4 rfl ?_; first | refine sl_op rfl rfl rfl (by first | exact opv_len rfl rfl rfl rfl rfl ) ?_ | refine sl_op rfl rfl rfl (opv_call rfl rfl rfl rfl rfl (hC2)) ?_)
                | refine sl_region rfl ?_
                | refine sl_nil ?_
                | refine thn_k ?_
                | refine swp_true rfl ?_
                | refine swp_false rfl ?_
                | refine swp_block ?_
                | refine swp_skip ?_
                )
              exact ⟨rfl, ⟨k + 1, K', hS, hC, hO, ob, oc, V, stk', vals, n + 1⟩, next_ok (by repeat first | exact Sub.nil _ | refine Sub.cons rfl ?_), ⟨hk2, ri, by rw [run_step hg, step_same hV hb ht hr' hv he], hV, hst⟩, by dsimp only; omega⟩
            · rw [decide_eq_false he] at hC2
              repeat' (first
                | refine swp_seq ?_
                | (refine gk 0 rfl ?_; first | refine sl_op rfl rfl rfl (by first | exact opv_move rfl rfl | exact opv_assign rfl rfl | exact opv_pick_t rfl rfl rfl | exact opv_pick_f rfl rfl rfl | exact opv_not_f rfl rfl ) ?_ )
                | (refine gk 2 rfl ?_; first | refine sl_yes rfl rfl rfl (by first | exact opv_lss rfl rfl rfl | exact opv_geq rfl rfl rfl ) (by first | omega ) ?_ | refine sl_no rfl rfl rfl (by first | exact opv_lss rfl rfl rfl | exact opv_geq rfl rfl rfl ) (by first | omega ) ?_ )
                | (refine gk 3 rfl ?_; first | refine sl_op rfl rfl rfl (by first | exact opv_load rfl (by exact rfl) rfl (by exact rfl) | exact opv_fieldAddr rfl rfl | exact opv_loadA rfl (by exact rfl) rfl (by exact rfl) (by exact rfl) | exact opv_indexAddrI rfl rfl rfl (by omega) (by omega) (by first | omega | (simp only [List.length_map]; omega) ) | exact opv_loadEx rfl (by exact rfl) (by infer_instance) (by first | assumption ) ) ?_ )
                | (refine gk 4 rfl ?_; first | refine sl_op rfl rfl rfl (by first | exact opv_len rfl rfl rfl rfl rfl ) ?_ | refine sl_op rfl rfl rfl (opv_call rfl rfl rfl rfl rfl (hC2)) ?_)
                | (refine gk 5 rfl ?_; first | refine sl_store rfl rfl rfl rfl rfl rfl (by exact rfl) rfl (by exact rfl) ?_)
                | refine sl_region rfl ?_
                | refine sl_nil ?_
                | refine thn_k ?_
                | refine swp_true rfl ?_
                | refine swp_false rfl ?_
                | refine swp_block ?_
                | refine swp_ret ?_
                | refine swp_skip ?_
                | refine thn_ret ?_
                | refine inb_ret ?_
                )
              exact end_retL [J, hS, K'] (resOk_one (resV_cellA rfl rfl rfl rfl)) ⟨K', hS, hC, hO, _, _, ob, oc, V, stk', vals, i, k, n + 1, tn, rfl, rfl, ri, by rw [run_step hg, step_other hV hb ht hr' hv he]⟩
          · rw [decide_eq_false hv] at hcm
            repeat' (first
              | refine sl_storeE rfl rfl rfl rfl rfl ri.ok rfl rfl rfl (by exact Nat.succ_pos _) (by simp only [List.length_cons, List.length_nil]; omega) (set_val (j := tn) (by simp) (by omega)) (fun hC2 ok2 => ?_)
              | refine sl_storeE rfl rfl rfl rfl rfl ri.os rfl rfl rfl (by exact Nat.succ_pos _) (by simp only [List.length_cons, List.length_nil]; omega) (set_val (j := tn) (by simp) (by omega)) (fun hS2 os2 => ?_)
              | refine swp_seq ?_
              | (refine gk 0 rfl ?_; first | refine sl_op rfl rfl rfl (by first | exact opv_move rfl rfl | exact opv_assign rfl rfl | exact opv_pick_f rfl rfl rfl | exact opv_not_f rfl rfl ) ?_ | refine sl_pass rfl rfl rfl rfl ?_)
              | (refine gk 1 rfl ?_; first | refine sl_op rfl rfl rfl (by first | exact opv_add64 rfl rfl rfl (by omega) (by omega) ) ?_ )
              | (refine gk 2 rfl ?_; first | refine sl_yes rfl rfl rfl (by first | exact opv_lss rfl rfl rfl | exact opv_geq rfl rfl rfl ) (by first | omega ) ?_ | refine sl_no rfl rfl rfl (by first | exact opv_lss rfl rfl rfl | exact opv_geq rfl rfl rfl ) (by first | omega ) ?_ )
              | (refine gk 3 rfl ?_; first | refine sl_op rfl rfl rfl (by first | exact opv_load rfl (by exact rfl) rfl (by exact rfl) | exact opv_fieldAddr rfl rfl | exact opv_indexAddrI rfl rfl rfl (by omega) (by omega) (by first | omega | (simp only [List.length_map]; omega) ) | exact opv_loadEx rfl (by exact rfl) (by infer_instance) (by first | assumption ) ) ?_ | refine sl_pass rfl rfl rfl rfl ?_)
              | (refine gk 4 rfl ?_; first | refine sl_pass rfl rfl rfl rfl ?_ | refine sl_op rfl rfl rfl (by first | exact opv_len rfl rfl rfl rfl rfl ) ?_ | (refine sl_append rfl rfl rfl rfl rfl rfl rfl rfl rfl ri.oo (by decide) rfl (by decide) rfl (by omega) (by omega) (fun hO2 ob2 oc2 oo2 => ?_)))
              | (refine gk 5 rfl ?_; first | refine sl_buildSlice rfl rfl rfl rfl rfl (by exact rfl) (by exact rfl) (by exact rfl) (by exact rfl) rfl (fun b => ?_) )
              | refine sl_region rfl ?_
              | refine sl_nil ?_
              | refine thn_k ?_
              | refine swp_true rfl ?_
              | refine swp_false rfl ?_
              | refine swp_block ?_
              | refine swp_skip ?_
              )
            rw [comL_add (show tn < cl by omega)] at ok2
            refine ⟨rfl, ⟨k + 1, K', hS2, hC2, hO2, ob2, oc2, V ++ [(tn : Int)], fun q => if q = (tn : Int) then s else stk' q, _, n + 1⟩, ?_, ⟨hk2, ⟨os2, ok2, by rw [List.length_append, List.map_append]; exact oo2, ri.rows.upd hvl (by omega) hs3 hs1 (by omega) hs2, rng_add ri.rng (by omega), nd_add ri.nd hv⟩, by rw [run_step hg, step_new hV hb ht hr' hv], ?_, ?_⟩, by dsimp only; omega⟩
            · dsimp only
              rw [List.length_append]
              exact next_ok (by repeat first | exact Sub.nil _ | refine Sub.cons rfl ?_)
            · dsimp only
              rw [List.getElem?_append_left hi3]; exact hV
            · dsimp only
              rw [if_neg (fun e => hv (by rw [← e]; exact List.mem_of_getElem? hV))]; exact hst
        · have hr' : ¬ (0 ≤ t ∧ t < (cs.length : Int)) := by rw [hl]; exact hr
          repeat' (first
            | refine swp_seq ?_
            | (refine gk 0 rfl ?_; first | refine sl_op rfl rfl rfl (by first | exact opv_move rfl rfl | exact opv_assign rfl rfl | exact opv_pick_t rfl rfl rfl | exact opv_pick_f rfl rfl rfl ) ?_ | refine sl_pass rfl rfl rfl rfl ?_)
            | (refine gk 1 rfl ?_; first | refine sl_op rfl rfl rfl (by first | exact opv_add64 rfl rfl rfl (by omega) (by omega) ) ?_ )
            | (refine gk 2 rfl ?_; first | refine sl_pass rfl rfl rfl rfl ?_ | refine sl_yes rfl rfl rfl (by first | exact opv_lss rfl rfl rfl | exact opv_geq rfl rfl rfl ) (by first | omega ) ?_ | refine sl_if rfl rfl rfl (by first | exact opv_lss rfl rfl rfl ) (fun h => ?_) (fun h => ?_) )
            | (refine gk 3 rfl ?_; first | refine sl_op rfl rfl rfl (by first | exact opv_indexAddrI rfl rfl rfl (by omega) (by omega) (by first | (simp only [List.length_map]; omega) ) | exact opv_loadEx rfl (by exact rfl) (by infer_instance) (by first | assumption ) ) ?_ )
            | (refine gk 4 rfl ?_; first | refine sl_op rfl rfl rfl (by first | exact opv_len rfl rfl rfl rfl rfl ) ?_)
            | refine sl_region rfl ?_
            | refine sl_nil ?_
            | refine thn_k ?_
            | refine swp_true rfl ?_
            | refine swp_block ?_
            | refine swp_exit ?_
            | refine swp_skip ?_
            )
          all_goals first | (exfalso; omega) | exact ⟨rfl, ⟨k + 1, K', hS, hC, hO, ob, oc, V, stk', vals, n + 1⟩, next_ok (by repeat first | exact Sub.nil _ | refine Sub.cons rfl ?_), ⟨hk2, ri, by rw [run_step hg, step_out hV hb ht hr'], hV, hst⟩, by dsimp only; omega⟩
      · have hkn : (nxt cs (zn : Int))[k]? = none := List.getElem?_eq_none (by omega)
        repeat' (first
          | refine swp_seq ?_
          | (refine gk 0 rfl ?_; first | refine sl_op rfl rfl rfl (by first | exact opv_move rfl rfl | exact opv_assign rfl rfl ) ?_ )
          | (refine gk 1 rfl ?_; first | refine sl_op rfl rfl rfl (by first | exact opv_add64 rfl rfl rfl (by omega) (by omega) ) ?_ )
          | (refine gk 2 rfl ?_; first | refine sl_no rfl rfl rfl (by first | exact opv_lss rfl rfl rfl ) (by first | omega ) ?_ )
          | (refine gk 4 rfl ?_; first | refine sl_op rfl rfl rfl (by first | exact opv_len rfl rfl rfl rfl rfl ) ?_)
          | refine sl_region rfl ?_
          | refine sl_nil ?_
          | refine thn_k ?_
          | refine swp_false rfl ?_
          | refine swp_exit ?_
          )
        exact ⟨rfl, ⟨i + 1, K', hS, hC, hO, ob, oc, V, stk', vals, n + 1⟩, next_ok (by repeat first | exact Sub.nil _ | refine Sub.cons rfl ?_), ⟨by dsimp only; omega, ri, by rw [run_step hg, step_next hV hb hkn]⟩, by dsimp only; omega⟩
  · have hV : V[i]? = none := List.getElem?_eq_none (by omega)
    repeat' (first
      | refine swp_seq ?_
      | (refine gk 0 rfl ?_; first | refine sl_op rfl rfl rfl (by first | exact opv_move rfl rfl ) ?_ )
      | (refine gk 2 rfl ?_; first | refine sl_no rfl rfl rfl (by first | exact opv_lss rfl rfl rfl ) (by first | omega ) ?_ )
      | (refine gk 3 rfl ?_; first | refine sl_op rfl rfl rfl (by first | exact opv_loadA rfl (by exact rfl) rfl (by exact rfl) (by exact rfl) ) ?_ )
      | (refine gk 4 rfl ?_; first | refine sl_op rfl rfl rfl (by first | exact opv_len rfl rfl rfl rfl rfl ) ?_)
      | (refine gk 5 rfl ?_; first | refine sl_store rfl rfl rfl rfl rfl rfl (by exact rfl) rfl (by exact rfl) ?_)
      | refine sl_region rfl ?_
      | refine sl_nil ?_
      | refine thn_k ?_
      | refine swp_false rfl ?_
      | refine swp_ret ?_
      | refine swp_exit ?_
      )
    exact end_retL [J, hS, K] (resOk_one (resV_cellA rfl rfl rfl rfl)) ⟨K, hS, hC, hO, _, _, ob, oc, V, stk, vals, i, 0, n + 1, -1, rfl, rfl, ri, by rw [run_step hg, step_done hV]⟩
end Go.Proofs.Ytifhhfeibnpaoaa
