/- The document's automaton is made. -/
import Derived.Test.YtimmclibnfdjhaaWD6
import Derived.Test.YtimmclibnfdjhaaSlG9
import Derived.Test.YtimmclibnfdjhaaWB18
set_option linter.unusedVariables false
set_option linter.unusedSimpArgs false
set_option linter.unusedSectionVars false
section
namespace Go.Proofs.Ytimmclibnfdjhaa
open Go.SL
set_option maxRecDepth 100000
set_option maxHeartbeats 16000000
attribute [local irreducible] SL.T PFn OpV SOL SWP HOp ChU
abbrev d0 : DT := ⟨0, false, 0, 0, 0, 0, 0, 0, false, 0, 0⟩
def newD (t o : Nat) : DS := ⟨List.replicate o (-1), List.replicate o 0, List.replicate t d0, 0⟩
theorem dts_new (t : Nat) : dts (List.replicate t d0) = (List.replicate t (dcells d0)).flatten := by
  unfold dts
  rw [List.map_replicate]
theorem NN.of_OS {h : Heap} {base : Option Addr} {len cap sz : Nat} {T : TypeId} {cs : List Value} (o : OS h base len cap T sz cs) (hp : 0 < len) : NN base := by
  rcases o.shape with ⟨-, h2, -⟩ | ⟨b, off, arr, h1, -⟩
  · omega
  · exact ⟨_, h1⟩
structure DN where
  j : Nat
  b1 : Option Addr
  c1 : Nat
  HW : Heap
theorem dnew_calls (t o : Nat) (ht1 : 1 ≤ t) (ht : t ≤ 100) (ho1 : 1 ≤ o) (ho : o ≤ 100) :
    SL.T Try.prog 36 [i64 (t : Int), i64 (o : Int)] [] fun en w => ∃ βd b1 b2 b3 c1 HW HP HT, en = .returned (ptr βd) ∧ w = [specD βd b1 b2 b3 t o c1 o t 0, HW, HP, HT] ∧ MemD b1 b2 b3 t o c1 o t HW HP HT (newD t o) ∧ NN b1 ∧ NN b2 ∧ NN b3 := by
  refine t_of_body Try.func36 rfl (Nat.le_of_ble_eq_true rfl) fun F => ?_
  repeat' (first
    | refine swp_seq ?_
    | (refine gk 0 rfl ?_; first | refine sl_op rfl rfl rfl (by first | exact opv_assign rfl rfl ) ?_ )
    | refine sl_region rfl ?_
    | refine sl_nil ?_
    )
  refine sl_drawC [.q [0], .an 1, .q [2], .an 3, .rv 1, .rv 3, .q [4], .an 5, .rv 5, .q [6]] [] (by kernel_rfl) (by kernel_rfl) (by kernel_rfl) (by kernel_rfl) ?_
  repeat' (first
    | refine swp_seq ?_
    | (refine gk 0 rfl ?_; first | refine sl_op rfl rfl rfl (by first | exact opv_move rfl rfl | exact opv_assign rfl rfl ) ?_ )
    | (refine gk 5 rfl ?_; first | refine sl_op rfl rfl rfl (by first | exact opv_build rfl rfl (by exact rfl) ) ?_ )
    | refine sl_region rfl ?_
    | refine chu_nil ?_
    | refine chu_q rfl ?_
    | refine chu_new rfl rfl (by first | exact new_box rfl rfl rfl | exact new_makeSlice rfl rfl rfl rfl (by omega) (by omega) ) ?_
    | refine chu_rv rfl rfl rfl (fun β => ?_)
    | refine chu_new rfl rfl (new_makeSliceW (m := t) rfl rfl rfl (by exact rfl) (by exact rfl) (by omega) (by omega) (by omega)) ?_
    | refine sl_nil ?_
    | refine thn_k ?_
    | refine swp_block ?_
    )
  rename_i βt βp
  refine swp_emp ?_
  refine swp_loopS (fun s : DN => [(1, i64 (o : Int)), (5, ptr β), (6, i64 (s.j : Int))])
    (fun s => [s.HW, blk β (.cells ⟨[.slice s.b1 s.j s.c1, .slice (some ⟨βp, 0, none⟩) o o, .slice (some ⟨βt, 0, none⟩) t t, i64 0]⟩ 107 (0, 0)), blk βp (.cells ⟨List.replicate o (i64 0)⟩ 3 (0, 0)), blk βt (.cells ⟨(List.replicate t (dcells d0)).flatten⟩ 109 (0, 0))])
    (fun s => s.j ≤ o ∧ OS s.HW s.b1 s.j s.c1 3 1 ((List.replicate s.j (-1)).map i64)) (fun s => o - s.j) ⟨0, none, 0, emp⟩ (by repeat first | exact Sub.nil _ | refine Sub.cons rfl ?_) ⟨Nat.zero_le _, OS.nil⟩ ?_
  rintro ⟨j, b1, c1, HW⟩ ⟨hj, osW⟩
  dsimp only at hj osW ⊢
  by_cases hj2 : j < o
  · repeat' (first
      | refine swp_seq ?_
      | (refine gk 0 rfl ?_; first | refine sl_op rfl rfl rfl (by first | exact opv_move rfl rfl | exact opv_assign rfl rfl ) ?_ )
      | (refine gk 1 rfl ?_; first | refine sl_op rfl rfl rfl (by first | exact opv_add64 rfl rfl rfl (by omega) (by omega) ) ?_ )
      | (refine gk 2 rfl ?_; first | refine sl_yes rfl rfl rfl (by first | exact opv_lss rfl rfl rfl ) (by first | omega ) ?_ )
      | (refine gk 3 rfl ?_; first | refine sl_op rfl rfl rfl (by first | exact opv_load rfl (by exact rfl) rfl (by exact rfl) | exact opv_fieldAddr rfl rfl ) ?_ )
      | (refine gk 4 rfl ?_; first | refine sl_appendG rfl rfl rfl rfl rfl rfl rfl rfl rfl (by assumption) (by first | rfl ) (by decide) (by first | rfl ) (by omega) (by omega) (fun h' b' c' os' hb' => ?_))
      | (refine gk 5 rfl ?_; first | refine sl_op rfl rfl rfl (by first | exact opv_nilCheck rfl rfl ) ?_ | refine sl_buildSlice rfl rfl rfl rfl rfl (by exact rfl) (by exact rfl) (by exact rfl) (by exact rfl) rfl (fun b => ?_) | refine sl_store rfl rfl rfl rfl rfl rfl (by exact rfl) rfl (by exact rfl) ?_)
      | refine sl_region rfl ?_
      | refine sl_nil ?_
      | refine thn_k ?_
      | refine swp_true rfl ?_
      | refine swp_block ?_
      | refine swp_skip ?_
      )
    have e : (List.replicate j (-1)).map i64 ++ [i64 (-1)] = (List.replicate (j + 1) (-1)).map i64 := by rw [List.replicate_succ']; simp
    have os2 : OS h' b' (j + 1) c' 3 1 ((List.replicate (j + 1) (-1)).map i64) := by rw [← e]; exact os'
    exact ⟨rfl, ⟨j + 1, b', c', h'⟩, next_ok (by repeat first | exact Sub.nil _ | refine Sub.cons rfl ?_), ⟨by dsimp only; omega, os2⟩, by dsimp only; omega⟩
  · obtain rfl : j = o := by omega
    repeat' (first
      | refine swp_seq ?_
      | (refine gk 0 rfl ?_; first | refine sl_op rfl rfl rfl (by first | exact opv_move rfl rfl | exact opv_assign rfl rfl ) ?_ )
      | (refine gk 2 rfl ?_; first | refine sl_no rfl rfl rfl (by first | exact opv_lss rfl rfl rfl ) (by first | omega ) ?_ )
      | refine sl_region rfl ?_
      | refine sl_nil ?_
      | refine thn_k ?_
      | refine swp_false rfl ?_
      | refine swp_ret ?_
      | refine swp_exit ?_
      )
    refine end_retL [specD β b1 (some ⟨βp, 0, none⟩) (some ⟨βt, 0, none⟩) t j c1 j t 0, HW, blk βp (.cells ⟨List.replicate j (i64 0)⟩ 3 (0, 0)), blk βt (.cells ⟨(List.replicate t (dcells d0)).flatten⟩ 109 (0, 0))] (resOk_one (resV_tmp rfl)) ⟨β, b1, _, _, c1, _, _, _, rfl, rfl, ⟨osW, ?_, ?_, by simp [newD], by simp [newD], by simp [newD]⟩, NN.of_OS osW (by omega), ⟨_, rfl⟩, ⟨_, rfl⟩⟩
    · have e : (newD t j).dp.map i64 = List.replicate j (i64 0) := by simp [newD]
      rw [e]
      exact OS.blk (by simp)
    · have e : dts (newD t j).th = (List.replicate t (dcells d0)).flatten := dts_new t
      rw [e]
      exact OS.blk (by simp)
end Go.Proofs.Ytimmclibnfdjhaa
end
section
/- The document's automaton is copied. -/
namespace Go.Proofs.Ytimmclibnfdjhaa
open Go.SL
set_option maxRecDepth 100000
set_option maxHeartbeats 16000000
attribute [local irreducible] SL.T PFn OpV SOL SWP HOp ChU
-- FIELDS_READ
theorem ints_one (l : List Int) : (l.map i64).all (·.oneCell') = true := by simp [Value.oneCell']
theorem dts_one (l : List DT) : (dts l).all (·.oneCell') = true := by
  unfold dts
  induction l with
  | nil => rfl
  | cons x l ih =>
    rw [List.map_cons, List.flatten_cons, List.all_append, ih]
    rfl
def CopyD (βd : Nat) (b1 b2 b3 : Option Addr) (n k c1 c2 c3 : Nat) (HW HP HT : Heap) (δ : DS) (en : Ending) (w : List Heap) : Prop :=
  ∃ βc d1 d2 d3 e1 e2 e3 KW KP KT, en = .returned (ptr βc) ∧ w = [specD βd b1 b2 b3 n k c1 c2 c3 δ.rel, HW, HP, HT, specD βc d1 d2 d3 n k e1 e2 e3 δ.rel, KW, KP, KT] ∧ MemD d1 d2 d3 n k e1 e2 e3 KW KP KT δ ∧ NN d1 ∧ NN d2 ∧ NN d3
theorem dcopy_calls {βd : Nat} {b1 b2 b3 : Option Addr} {n k c1 c2 c3 : Nat} {HW HP HT : Heap} {δ : DS} [nn : NN b3] [n1 : NN b1] [n2 : NN b2] (m : MemD b1 b2 b3 n k c1 c2 c3 HW HP HT δ) (h0n : 0 < n) (h0k : 0 < k) (hsm : n ≤ 1000000) (hsk : k ≤ 1000000) :
    SL.T Try.prog 53 [ptr βd] [specD βd b1 b2 b3 n k c1 c2 c3 δ.rel, HW, HP, HT] (CopyD βd b1 b2 b3 n k c1 c2 c3 HW HP HT δ) := by
  obtain ⟨a1, rfl⟩ := n1.ex
  obtain ⟨a2, rfl⟩ := n2.ex
  obtain ⟨a3, rfl⟩ := nn.ex
  obtain ⟨osW, osP, os, hn, hk, hd⟩ := id m
  haveI slT := os.sl
  haveI slW := osW.sl
  haveI slP := osP.sl
  have hl := dts_length δ.th
  have oT := dts_one δ.th
  have oW := ints_one δ.ow
  have oP := ints_one δ.dp
  have lW : (δ.ow.map i64).length = k * 1 := by simp [hk]
  have lP : (δ.dp.map i64).length = k * 1 := by simp [hd]
  rw [hn] at hl
  unfold CopyD
  refine t_of_body Try.func53 rfl (Nat.le_of_ble_eq_true rfl) fun F => ?_
  repeat' (first
    | refine swp_seq ?_
    | (refine gk 0 rfl ?_; first | refine sl_op rfl rfl rfl (by first | exact opv_assign rfl rfl ) ?_ )
    | refine sl_region rfl ?_
    | refine sl_nil ?_
    )
  refine sl_drawC [.an 0, .q [1, 2, 3, 4], .an 6, .f [7], .r [8, 9, 10], .an 12, .f [13], .r [14, 15, 16], .f [18], .r [19, 20, 21], .rv 0, .h true 5, .rv 6, .h true 11, .rv 12, .h true 17, .q [22], .an 23, .rv 23, .q [24]] [specD βd (some a1) (some a2) (some a3) n k c1 c2 c3 δ.rel] (by kernel_rfl) (by kernel_rfl) (by kernel_rfl) (by kernel_rfl) ?_
  repeat' (first
    | (refine gk 0 rfl ?_; first | refine sl_op rfl rfl rfl (by first | exact opv_move rfl rfl | exact opv_assign rfl rfl ) ?_ )
    | (refine gk 3 rfl ?_; first | refine sl_op rfl rfl rfl (by first | exact opv_load rfl (by exact rfl) rfl (by exact rfl) | exact opv_fieldAddr rfl rfl ) ?_ )
    | (refine gk 5 rfl ?_; first | refine sl_op rfl rfl rfl (by first | exact opv_nilCheck rfl rfl | exact opv_build rfl rfl (by exact rfl) ) ?_ )
    | refine chu_nil ?_
    | refine chu_q rfl ?_
    | refine chu_f rfl ?_
    | refine chu_r rfl ?_
    | refine chu_new rfl rfl (by first | exact new_box rfl rfl rfl | exact new_buildSlice rfl rfl (by exact rfl) (by exact rfl) (by exact rfl) (by exact rfl) (by exact rfl)) ?_
    | refine chu_rv rfl rfl rfl (fun β => ?_)
    | (refine chu_append (hh := blk β (.cells ⟨[]⟩ 3 (0, 0))) rfl rfl rfl rfl rfl rfl rfl rfl rfl (OS.blk (len := 0) rfl) h0k (by assumption) (by decide) (by assumption) (by omega) (by omega) (fun h' b' c' os' => ?_); rw [Nat.zero_add k] at os' ⊢)
    | (refine chu_append (hh := blk β (.cells ⟨[]⟩ 109 (0, 0))) rfl rfl rfl rfl rfl rfl rfl rfl rfl (OS.blk (len := 0) rfl) h0n (by assumption) (by decide) (by assumption) (by omega) (by omega) (fun hX bX cX osX => ?_); rw [Nat.zero_add n] at osX ⊢)
    | refine sl_nil ?_
    | refine thn_k ?_
    | refine swp_ret ?_
    )
  rename_i hY bY cY osY β2 β3
  exact end_retL [specD βd (some a1) (some a2) (some a3) n k c1 c2 c3 δ.rel, HW, HP, HT, specD β bY b' bX n k cY c' cX δ.rel, hY, h', hX] (resOk_one (resV_tmp rfl)) ⟨β, bY, b', bX, cY, c', cX, hY, h', hX, rfl, rfl, ⟨osY, os', osX, hn, hk, hd⟩, NN.of_OS osY h0k, NN.of_OS os' h0k, NN.of_OS osX h0n⟩
end Go.Proofs.Ytimmclibnfdjhaa
end
section
/- What a thread could do next: some events. -/
namespace Go.Proofs.Ytimmclibnfdjhaa
open Go.SL
set_option maxRecDepth 100000
set_option maxHeartbeats 16000000
attribute [local irreducible] SL.T PFn OpV SOL SWP HOp ChU
theorem evs_snoc (es : List Ev) (e : Ev) : evs (es ++ [e]) = evs es ++ ecells e := by simp [evs]
structure DE where
  i : Nat
  es : List Ev
  ob : Option Addr
  oc : Nat
  HD : Heap
section
variable {βd : Nat} {b1 b2 b3 : Option Addr} {n k c1 c2 c3 : Nat} {rel : Int}
theorem devents_calls {HT : Heap} {th : List DT} {t : Nat} {x : DT} [nn : NN b3] [slT : Sl HT b3 (dts th)] (hn : th.length = n) (hsm : n ≤ 1000000) (h : th[t]? = some x) :
    SL.T Try.prog 52 [ptr βd, i64 (t : Int)] [specD βd b1 b2 b3 n k c1 c2 c3 rel, HT] fun en w => ∃ N b c es, en = .returned (.slice b 101 c) ∧ w = [specD βd b1 b2 b3 n k c1 c2 c3 rel, HT, N] ∧ OS N b 101 c 37 8 (evs es) ∧ es.length = 101 := by
  have hl := dts_length th
  have htl : t < th.length := (List.getElem?_eq_some_iff.1 h).1
  have hl1 : ((t : Nat) : Int).toNat * 11 < (dts th).length := by simp; omega
  have hta : ∀ (i : Nat) (v : Value), (dcells x)[i]? = some v → (dts th)[((t : Nat) : Int).toNat * 11 + i]? = some v := dts_at h
  refine t_of_body Try.func52 rfl (Nat.le_of_ble_eq_true rfl) fun F => ?_
  repeat' (first
    | refine sl_op rfl rfl rfl (opv_loadEA (vs := dcells x) rfl rfl (Nat.succ_pos _) rfl hta) ?_
    | refine swp_seq ?_
    | (refine gk 0 rfl ?_; first | refine sl_op rfl rfl rfl (by first | exact opv_move rfl rfl | exact opv_assign rfl rfl ) ?_ )
    | (refine gk 3 rfl ?_; first | refine sl_op rfl rfl rfl (by first | exact opv_load rfl (by exact rfl) rfl (by exact rfl) | exact opv_fieldAddr rfl rfl | exact opv_indexAddrI rfl rfl rfl (by omega) (by omega) (by first | omega ) ) ?_ )
    | (refine gk 5 rfl ?_; first | refine sl_op rfl rfl rfl (by first | exact opv_nilCheck rfl rfl ) ?_ | refine sl_buildSlice rfl rfl rfl rfl rfl (by exact rfl) (by exact rfl) (by exact rfl) (by exact rfl) rfl (fun b => ?_) | refine sl_alloc rfl rfl rfl rfl (by exact rfl) (fun β => ?_) | refine sl_store rfl rfl rfl rfl rfl rfl (by exact rfl) rfl (by exact rfl) ?_)
    | refine sl_region rfl ?_
    | refine sl_nil ?_
    | refine thn_k ?_
    | refine swp_block ?_
    )
  have slO : Sl (blk b (.cells ⟨[i64 0, i64 (-1), i64 1, i64 2, i64 3, i64 4, i64 5, i64 3, i64 x.arg]⟩ 3 (0, 0))) (some ⟨b, 0, none⟩) ([0, -1, 1, 2, 3, 4, 5, 3, x.arg].map i64) := Sl.blk
  refine swp_emp ?_
  refine swp_loopS (fun s : DE => [(0, ptr βd), (1, i64 (t : Int)), (5, ptr β), (6, .slice s.ob s.es.length s.oc), (7, .slice (some ⟨b, 0, none⟩) 9 9), (8, i64 (s.i : Int))])
    (fun s => [s.HD, blk β (.cells ⟨dcells x⟩ 109 (0, 0)), blk b (.cells ⟨[i64 0, i64 (-1), i64 1, i64 2, i64 3, i64 4, i64 5, i64 3, i64 x.arg]⟩ 3 (0, 0)), specD βd b1 b2 b3 n k c1 c2 c3 rel, HT])
    (fun s => s.i ≤ 11 ∧ s.es.length = s.i * 9 ∧ OS s.HD s.ob s.es.length s.oc 37 8 (evs s.es)) (fun s => 11 - s.i) ⟨0, [], none, 0, emp⟩ (by repeat first | exact Sub.nil _ | refine Sub.cons rfl ?_) ⟨by decide, rfl, OS.nil⟩ ?_
  rintro ⟨a, es, ob, oc, HD⟩ ⟨ha, hel, osD⟩
  dsimp only at ha hel osD ⊢
  by_cases ha2 : a < 11
  · repeat' (first
      | refine swp_seq ?_
      | (refine gk 0 rfl ?_; first | refine sl_op rfl rfl rfl (by first | exact opv_move rfl rfl | exact opv_assign rfl rfl ) ?_ )
      | (refine gk 2 rfl ?_; first | refine sl_yes rfl rfl rfl (by first | exact opv_lss rfl rfl rfl ) (by first | omega ) ?_ )
      | refine sl_region rfl ?_
      | refine sl_nil ?_
      | refine thn_k ?_
      | refine swp_true rfl ?_
      | refine swp_block ?_
      | refine swp_skip ?_
      )
    refine swp_loopS (fun s : DE => [(0, ptr βd), (1, i64 (t : Int)), (5, ptr β), (6, .slice s.ob s.es.length s.oc), (7, .slice (some ⟨b, 0, none⟩) 9 9), (8, i64 (a : Int)), (9, i64 (s.i : Int))])
      (fun s => [s.HD, blk β (.cells ⟨dcells x⟩ 109 (0, 0)), blk b (.cells ⟨[i64 0, i64 (-1), i64 1, i64 2, i64 3, i64 4, i64 5, i64 3, i64 x.arg]⟩ 3 (0, 0)), specD βd b1 b2 b3 n k c1 c2 c3 rel, HT])
      (fun s => s.i ≤ 9 ∧ s.es.length = a * 9 + s.i ∧ OS s.HD s.ob s.es.length s.oc 37 8 (evs s.es)) (fun s => 9 - s.i) ⟨0, es, ob, oc, HD⟩ (by repeat first | exact Sub.nil _ | refine Sub.cons rfl ?_) ⟨Nat.zero_le _, hel, osD⟩ ?_
    clear osD hel es ob oc HD
    rintro ⟨i, es, ob, oc, HD⟩ ⟨hi, hel, osD⟩
    dsimp only at hi hel osD ⊢
    by_cases hi2 : i < 9
    · obtain ⟨z, hz⟩ : ∃ z, [0, -1, 1, 2, 3, 4, 5, 3, x.arg][i]? = some z := ⟨_, List.getElem?_eq_getElem (by simpa using hi2)⟩
      have hzc : ([0, -1, 1, 2, 3, 4, 5, 3, x.arg].map i64)[((i : Nat) : Int).toNat * 1]? = some (i64 z) := by
        rw [List.getElem?_map]
        have e : ((i : Nat) : Int).toNat * 1 = i := by simp
        rw [e, hz]; rfl
      have hzl : ((i : Nat) : Int).toNat * 1 < ([0, -1, 1, 2, 3, 4, 5, 3, x.arg].map i64).length := by simp; omega
      repeat' (first
        | refine swp_seq ?_
        | (refine gk 0 rfl ?_; first | refine sl_op rfl rfl rfl (by first | exact opv_move rfl rfl ) ?_ )
        | (refine gk 2 rfl ?_; first | refine sl_yes rfl rfl rfl (by first | exact opv_lss rfl rfl rfl ) (by first | omega ) ?_ )
        | (refine gk 4 rfl ?_; first | refine sl_op rfl rfl rfl (by first | exact opv_len rfl rfl rfl rfl rfl ) ?_)
        | refine sl_region rfl ?_
        | refine sl_nil ?_
        | refine thn_k ?_
        | refine swp_true rfl ?_
        | refine swp_block ?_
        | refine swp_skip ?_
        )
      refine sl_drawC [.q [0, 1, 2, 3, 4, 5, 6, 7, 8, 9, 10], .an 11, .rv 11, .h true 12, .q [13]] [] (by kernel_rfl) (by kernel_rfl) (by kernel_rfl) (by kernel_rfl) ?_
      repeat' (first
        | (refine gk 0 rfl ?_; first | refine sl_op rfl rfl rfl (by first | exact opv_move rfl rfl | exact opv_assign rfl rfl ) ?_ )
        | (refine gk 1 rfl ?_; first | refine sl_op rfl rfl rfl (by first | exact opv_add64 rfl rfl rfl (by omega) (by omega) ) ?_ )
        | (refine gk 3 rfl ?_; first | refine sl_op rfl rfl rfl (by first | exact opv_load rfl (by exact rfl) rfl (by exact rfl) | exact opv_fieldAddr rfl rfl | exact opv_indexAddrI rfl rfl rfl (by omega) (by omega) (by first | omega ) | exact opv_loadEx rfl (by exact rfl) (by infer_instance) (by first | assumption ) ) ?_ )
        | (refine gk 5 rfl ?_; first | refine sl_op rfl rfl rfl (by first | exact opv_build rfl rfl (by exact rfl) ) ?_ )
        | refine sl_region rfl ?_
        | refine chu_nil ?_
        | refine chu_q rfl ?_
        | refine chu_new rfl rfl (by first | exact new_buildSlice rfl rfl (by exact rfl) (by exact rfl) (by exact rfl) (by exact rfl) (by exact rfl)) ?_
        | refine chu_rv rfl rfl rfl (fun β => ?_)
        | refine chu_append rfl rfl rfl rfl rfl rfl rfl rfl rfl osD (by decide) rfl (by decide) rfl (by omega) (by omega) (fun hD2 ob2 oc2 osD2 => ?_)
        | refine sl_nil ?_
        | refine thn_k ?_
        )
      have e2 : evs es ++ ecells ⟨1, (t : Int), 0, (a : Int), x.obj, z, 0, 0⟩ = evs (es ++ [⟨1, (t : Int), 0, (a : Int), x.obj, z, 0, 0⟩]) := (evs_snoc _ _).symm
      have e3 : (es ++ [(⟨1, (t : Int), 0, (a : Int), x.obj, z, 0, 0⟩ : Ev)]).length = es.length + 1 := by simp
      have os3 : OS hD2 ob2 (es ++ [(⟨1, (t : Int), 0, (a : Int), x.obj, z, 0, 0⟩ : Ev)]).length oc2 37 8 (evs (es ++ [⟨1, (t : Int), 0, (a : Int), x.obj, z, 0, 0⟩])) := by rw [e3, ← e2]; exact osD2
      rw [← e3]
      exact ⟨rfl, ⟨i + 1, _, ob2, oc2, hD2⟩, next_ok (by repeat first | exact Sub.nil _ | refine Sub.cons rfl ?_), ⟨by dsimp only; omega, by dsimp only; omega, os3⟩, by dsimp only; omega⟩
    · repeat' (first
        | refine swp_seq ?_
        | (refine gk 0 rfl ?_; first | refine sl_op rfl rfl rfl (by first | exact opv_move rfl rfl | exact opv_assign rfl rfl ) ?_ )
        | (refine gk 1 rfl ?_; first | refine sl_op rfl rfl rfl (by first | exact opv_add64 rfl rfl rfl (by omega) (by omega) ) ?_ )
        | (refine gk 2 rfl ?_; first | refine sl_no rfl rfl rfl (by first | exact opv_lss rfl rfl rfl ) (by first | omega ) ?_ )
        | (refine gk 4 rfl ?_; first | refine sl_op rfl rfl rfl (by first | exact opv_len rfl rfl rfl rfl rfl ) ?_)
        | refine sl_region rfl ?_
        | refine sl_nil ?_
        | refine thn_k ?_
        | refine swp_false rfl ?_
        | refine swp_exit ?_
        )
      exact ⟨rfl, ⟨a + 1, es, ob, oc, HD⟩, next_ok (by repeat first | exact Sub.nil _ | refine Sub.cons rfl ?_), ⟨by dsimp only; omega, by dsimp only; omega, osD⟩, by dsimp only; omega⟩
  · have hel2 : es.length = 99 := by omega
    rw [hel2] at osD ⊢
    repeat' (first
      | refine swp_seq ?_
      | (refine gk 0 rfl ?_; first | refine sl_op rfl rfl rfl (by first | exact opv_move rfl rfl | exact opv_assign rfl rfl ) ?_ )
      | (refine gk 1 rfl ?_; first | refine sl_op rfl rfl rfl (by first | exact opv_sub rfl rfl rfl ) ?_ )
      | (refine gk 2 rfl ?_; first | refine sl_no rfl rfl rfl (by first | exact opv_lss rfl rfl rfl ) (by first | omega ) ?_ )
      | (refine gk 3 rfl ?_; first | refine sl_op rfl rfl rfl (by first | exact opv_load rfl (by exact rfl) rfl (by exact rfl) | exact opv_fieldAddr rfl rfl | exact opv_loadA rfl (by exact rfl) rfl (by exact rfl) (by exact rfl) ) ?_ )
      | (refine gk 4 rfl ?_; first | refine sl_appendG rfl rfl rfl rfl rfl rfl rfl rfl rfl (by assumption) (by first | rfl ) (by decide) (by first | rfl ) (by omega) (by omega) (fun h' b' c' os' hb' => ?_))
      | (refine gk 5 rfl ?_; first | refine sl_op rfl rfl rfl (by first | exact opv_build rfl rfl (by exact rfl) ) ?_ | refine sl_buildSlice rfl rfl rfl rfl rfl (by exact rfl) (by exact rfl) (by exact rfl) (by exact rfl) rfl (fun b => ?_) )
      | refine sl_region rfl ?_
      | refine sl_nil ?_
      | refine thn_k ?_
      | refine swp_false rfl ?_
      | refine swp_ret ?_
      | refine swp_exit ?_
      )
    have e2 : evs es ++ ecells ⟨2, (t : Int), dec x.calls, 0, 0, 0, x.code, x.val⟩ ++ ecells ⟨2, (t : Int), dec x.calls, 0, 0, 0, 2, 0⟩ = evs (es ++ [⟨2, (t : Int), dec x.calls, 0, 0, 0, x.code, x.val⟩] ++ [⟨2, (t : Int), dec x.calls, 0, 0, 0, 2, 0⟩]) := by rw [evs_snoc, evs_snoc]
    have os3 : OS h' b' 101 c' 37 8 (evs (es ++ [⟨2, (t : Int), dec x.calls, 0, 0, 0, x.code, x.val⟩] ++ [⟨2, (t : Int), dec x.calls, 0, 0, 0, 2, 0⟩])) := by rw [← e2]; exact os'
    exact end_retL [specD βd b1 b2 b3 n k c1 c2 c3 rel, HT, h'] (resOk_one (resV_tmp rfl)) ⟨h', b', c', _, rfl, rfl, os3, by simp [hel2]⟩
end
end Go.Proofs.Ytimmclibnfdjhaa
end
