/- Frames joined. -/
import Derived.Test.YtnfepffmlhmmhaaWB2
import Derived.Test.YtnfepffmlhmmhaaSlG8
namespace Go.Proofs.Ytnfepffmlhmmhaa
open Go.SL
set_option maxRecDepth 100000
set_option maxHeartbeats 16000000
attribute [local irreducible] T PFn OpV SOL SWP HOp ChU
theorem set_cells {gs : List Int} {k : Nat} {z : Int} (hk : k < gs.length) : (gs.map i64).take k ++ [i64 z] ++ (gs.map i64).drop (k + 1) = (gs.set k z).map i64 := by
  rw [List.map_set, List.set_eq_take_append_cons_drop, if_pos (by simpa using hk)]
  simp
theorem set_cellsK {gs : List Int} {k j : Nat} {z : Int} (e : k = j) (hk : j < gs.length) : (gs.map i64).take k ++ [i64 z] ++ (gs.map i64).drop (k + 1) = (gs.set j z).map i64 := by
  subst e; exact set_cells hk
def joinL (xs ys : List Int) : List Int := List.zipWith (fun x y => if x = y then x else -1) xs ys
def joinP (xs ys : List Int) (j : Nat) : List Int := (joinL xs ys).take j ++ xs.drop j
theorem joinL_length {xs ys : List Int} (h : xs.length = ys.length) : (joinL xs ys).length = xs.length := by simp [joinL, h]
theorem joinP_length {xs ys : List Int} {j : Nat} (h : xs.length = ys.length) (hj : j ≤ xs.length) : (joinP xs ys j).length = xs.length := by
  simp [joinP, joinL_length h]; omega
theorem joinP_at {xs ys : List Int} {j : Nat} (h : xs.length = ys.length) (hj : j < xs.length) : (joinP xs ys j)[j]? = xs[j]? := by
  have hm : min j xs.length = j := by omega
  rw [joinP, List.getElem?_append_right (by rw [List.length_take, joinL_length h, hm]; omega), List.length_take, joinL_length h, List.getElem?_drop, hm]
  congr 1; omega
theorem joinP_set {xs ys : List Int} {j : Nat} {x y : Int} (h : xs.length = ys.length) (hx : xs[j]? = some x) (hy : ys[j]? = some y) : (joinP xs ys j).set j (if x = y then x else -1) = joinP xs ys (j + 1) := by
  obtain ⟨hj, ex⟩ := List.getElem?_eq_some_iff.1 hx
  have hl := joinL_length h
  have hz : (joinL xs ys)[j]? = some (if x = y then x else -1) := by simp [joinL, List.getElem?_zipWith, hx, hy]
  have e1 : min j xs.length = j := by omega
  have e2 : min (j + 1) xs.length = j + 1 := by omega
  have e3 : j + (xs.length - j) = xs.length := by omega
  apply List.ext_getElem?
  intro i
  simp only [joinP, List.getElem?_set, List.getElem?_append, List.getElem?_take, List.getElem?_drop, List.length_append, List.length_take, List.length_drop, hl, e1, e2, e3]
  rcases Nat.lt_trichotomy i j with hi | rfl | hi
  · rw [if_neg (by omega), if_pos hi, if_pos hi, if_pos (by omega), if_pos (by omega)]
  · rw [if_pos rfl, if_pos hj, if_pos (Nat.lt_succ_self _), if_pos (Nat.lt_succ_self _), hz]
  · rw [if_neg (by omega), if_neg (by omega), if_neg (by omega)]
    congr 1; omega
theorem joinP_ne {xs ys : List Int} {j : Nat} {x y : Int} (h : xs.length = ys.length) (hx : xs[j]? = some x) (hy : ys[j]? = some y) (hxy : x ≠ y) : (joinP xs ys j).set j (-1) = joinP xs ys (j + 1) := by
  rw [← joinP_set h hx hy, if_neg hxy]
theorem joinP_eq {xs ys : List Int} {j : Nat} {x : Int} (h : xs.length = ys.length) (hx : xs[j]? = some x) (hy : ys[j]? = some x) : joinP xs ys j = joinP xs ys (j + 1) := by
  rw [← joinP_set h hx hy, if_pos rfl]
  obtain ⟨hj, ex⟩ := List.getElem?_eq_some_iff.1 hx
  have := joinP_at h hj
  rw [hx] at this
  obtain ⟨g1, g2⟩ := List.getElem?_eq_some_iff.1 this
  rw [← g2, List.set_getElem_self]
structure SJ where
  j : Nat
  h : Heap
theorem Join_calls (J : Heap) (a b a' b' : Option Addr) (n m n' m' c d c' d' : Nat) (xs ys xs' ys' : List Int) [Sl J a (xs.map i64)] [Sl J b (ys.map i64)] [Sl J a' (xs'.map i64)] [Sl J b' (ys'.map i64)]
    (h1 : xs.length = n) (h2 : ys.length = m) (h3 : xs'.length = n') (h4 : ys'.length = m') (hsm : n ≤ 4000000) (hsm2 : m ≤ 4000000) (hn : n = n') (hy : ys = ys') :
    T Try.prog 8 [fr a b n m c d, fr a' b' n' m' c' d'] [J] fun e o => ∃ N, o = J :: N ∧ ∃ h1 h2 b1 c1 b2 c2, e = .returned (.tuple #[fr b1 b2 n m c1 c2, .bool true]) ∧ N = [h1, h2] ∧ OS h1 b1 n c1 27 1 ((joinL xs xs').map i64) ∧ OS h2 b2 m c2 27 1 (ys.map i64) := by
  have he := Equal_calls [J] b b' m m' d d' ys ys' h2 h4 (by omega)
  rw [decide_eq_true hy] at he
  have hxx : xs.length = xs'.length := by omega
  subst hn
  refine t_of_body Try.func8 rfl (Nat.le_of_ble_eq_true rfl) fun F => ?_
  repeat' (first
    | refine swp_seq ?_
    | (refine gk 0 rfl ?_; first | refine sl_op rfl rfl rfl (by first | exact opv_move rfl rfl | exact opv_assign rfl rfl | exact opv_pick_f rfl rfl rfl | exact opv_not_t rfl rfl ) ?_ )
    | (refine gk 2 rfl ?_; first | refine sl_no rfl rfl rfl (by first | exact opv_neq rfl rfl rfl) (by first | omega ) ?_ )
    | (refine gk 3 rfl ?_; first | refine sl_op rfl rfl rfl (by first | exact opv_load rfl (by exact rfl) rfl (by exact rfl) | exact opv_fieldAddr rfl rfl ) ?_ )
    | (refine gk 4 rfl ?_; first | refine sl_op rfl rfl rfl (by first | exact opv_len rfl rfl rfl rfl rfl ) ?_ | refine sl_op rfl rfl rfl (opv_call rfl rfl rfl rfl rfl (he)) ?_)
    | (refine gk 5 rfl ?_; first | refine sl_box rfl rfl rfl rfl rfl rfl (fun β => ?_) | refine sl_alloc rfl rfl rfl rfl (by exact rfl) (fun β => ?_) )
    | refine sl_region rfl ?_
    | refine sl_nil ?_
    | refine thn_k ?_
    | refine swp_false rfl ?_
    | refine swp_skip ?_
    )
  rename_i β2 β3
  refine sl_drawC [.q [0, 1, 3, 4], .an 7, .h false 2, .h false 5, .q [6], .rv 7, .h true 8] [] (by kernel_rfl) (by kernel_rfl) (by kernel_rfl) (by kernel_rfl) ?_
  repeat' (first
    | refine swp_seq ?_
    | (refine gk 0 rfl ?_; first | refine sl_op rfl rfl rfl (by first | exact opv_move rfl rfl ) ?_ )
    | (refine gk 3 rfl ?_; first | refine sl_op rfl rfl rfl (by first | exact opv_load rfl (by exact rfl) rfl (by exact rfl) | exact opv_fieldAddr rfl rfl ) ?_ )
    | (refine gk 4 rfl ?_; first | refine sl_op rfl rfl rfl (by first | exact opv_len rfl rfl rfl rfl rfl ) ?_ )
    | (refine gk 5 rfl ?_; first | refine sl_op rfl rfl rfl (by first | exact opv_build rfl rfl (by exact rfl) ) ?_ )
    | refine sl_region rfl ?_
    | refine chu_nil ?_
    | refine chu_q rfl ?_
    | refine chu_new rfl rfl (by first | exact new_alloc rfl (by exact rfl) ) ?_
    | refine chu_rv rfl rfl rfl (fun β => ?_)
    | refine chu_store rfl rfl rfl rfl rfl rfl (by exact rfl) rfl (by exact rfl) (by exact rfl) ?_
    | (refine chu_callW rfl rfl rfl rfl rfl rfl rfl rfl (Clone_W _ _ _ _ _ h1 hsm) ?_; rintro _ _ ⟨hA, bA, cA, rfl, rfl, osA⟩; haveI slA := osA.sl; refine ⟨_, _, rfl, rfl, ?_⟩)
    | (refine chu_callW rfl rfl rfl rfl rfl rfl rfl rfl (Clone_W _ _ _ _ _ h2 hsm2) ?_; rintro _ _ ⟨hB, bB, cB, rfl, rfl, osB⟩; haveI slB := osB.sl; refine ⟨_, _, rfl, rfl, ?_⟩)
    | refine sl_nil ?_
    | refine thn_k ?_
    | refine swp_block ?_
    )
  rename_i β4
  clear slA
  refine swp_loopS (fun s : SJ => [(4, .pointer (some ⟨β4, 0, none⟩)), (6, .pointer (some ⟨β, 0, none⟩)), (33, .slice a' n c'), (34, i64 (n : Int)), (35, i64 (s.j : Int))])
    (fun s => [s.h, hB, J, blk β (.cells ⟨[.slice bA n cA, .slice bB m cB]⟩ 26 (0, 0)), blk β4 (.cells ⟨[.slice none 0 0, .slice none 0 0]⟩ 26 (0, 0))])
    (fun s => s.j ≤ n ∧ OS s.h bA n cA 27 1 ((joinP xs xs' s.j).map i64)) (fun s => n - s.j) ⟨0, hA⟩ (by repeat first | exact Sub.nil _ | refine Sub.cons rfl ?_) ⟨Nat.zero_le _, by simpa [joinP] using osA⟩ ?_
  rintro ⟨j, H⟩ ⟨hj1, os⟩
  dsimp only at hj1 os ⊢
  haveI slH := os.sl
  by_cases hj : j < n
  · obtain ⟨x, hx⟩ : ∃ z, xs[j]? = some z := ⟨_, List.getElem?_eq_getElem (by omega)⟩
    obtain ⟨y, hy2⟩ : ∃ z, xs'[j]? = some z := ⟨_, List.getElem?_eq_getElem (by omega)⟩
    have hcx : ((joinP xs xs' j).map i64)[((j : Nat) : Int).toNat * 1]? = some (i64 x) := by simp [joinP_at hxx (show j < xs.length by omega), hx]
    have hcy : (xs'.map i64)[((j : Nat) : Int).toNat * 1]? = some (i64 y) := by simp [hy2]
    have hpl := joinP_length hxx (show j ≤ xs.length by omega)
    by_cases hxy : x = y
    · subst hxy
      repeat' (first
        | refine swp_seq ?_
        | (refine gk 0 rfl ?_; first | refine sl_op rfl rfl rfl (by first | exact opv_move rfl rfl | exact opv_assign rfl rfl ) ?_ )
        | (refine gk 1 rfl ?_; first | refine sl_op rfl rfl rfl (by first | exact opv_add64 rfl rfl rfl (by omega) (by omega) ) ?_ )
        | (refine gk 2 rfl ?_; first | refine sl_yes rfl rfl rfl (by first | exact opv_lss rfl rfl rfl | exact opv_neq rfl rfl rfl) (by first | omega ) ?_ | refine sl_no rfl rfl rfl (by first | exact opv_neq rfl rfl rfl) (by first | omega ) ?_ )
        | (refine gk 3 rfl ?_; first | refine sl_op rfl rfl rfl (by first | exact opv_load rfl (by exact rfl) rfl (by exact rfl) | exact opv_fieldAddr rfl rfl | exact opv_indexAddrI rfl rfl rfl (by omega) (by omega) (by first | (simp only [List.length_map]; omega) ) | exact opv_loadEx rfl (by exact rfl) (by infer_instance) (by first | assumption ) ) ?_ )
        | refine sl_region rfl ?_
        | refine sl_nil ?_
        | refine thn_k ?_
        | refine swp_true rfl ?_
        | refine swp_false rfl ?_
        | refine swp_block ?_
        | refine swp_skip ?_
        )
      refine ⟨rfl, ⟨j + 1, H⟩, next_ok (by repeat first | exact Sub.nil _ | refine Sub.cons rfl ?_), ⟨by dsimp only; omega, ?_⟩, by dsimp only; omega⟩
      dsimp only
      rw [← joinP_eq hxx hx hy2]; exact os
    · repeat' (first
        | refine sl_storeE rfl rfl rfl rfl rfl os rfl rfl rfl (by decide) (by simp; omega) (set_cellsK (j := j) (by simp) (by omega)) (fun h' os' => ?_)
        | refine swp_seq ?_
        | (refine gk 0 rfl ?_; first | refine sl_op rfl rfl rfl (by first | exact opv_move rfl rfl | exact opv_assign rfl rfl ) ?_ )
        | (refine gk 1 rfl ?_; first | refine sl_op rfl rfl rfl (by first | exact opv_add64 rfl rfl rfl (by omega) (by omega) ) ?_ )
        | (refine gk 2 rfl ?_; first | refine sl_yes rfl rfl rfl (by first | exact opv_lss rfl rfl rfl | exact opv_neq rfl rfl rfl) (by first | omega ) ?_ )
        | (refine gk 3 rfl ?_; first | refine sl_op rfl rfl rfl (by first | exact opv_load rfl (by exact rfl) rfl (by exact rfl) | exact opv_fieldAddr rfl rfl | exact opv_indexAddrI rfl rfl rfl (by omega) (by omega) (by first | (simp only [List.length_map]; omega) ) | exact opv_loadEx rfl (by exact rfl) (by infer_instance) (by first | assumption ) ) ?_ )
        | refine sl_region rfl ?_
        | refine sl_nil ?_
        | refine thn_k ?_
        | refine swp_true rfl ?_
        | refine swp_block ?_
        | refine swp_skip ?_
        )
      refine ⟨rfl, ⟨j + 1, h'⟩, next_ok (by repeat first | exact Sub.nil _ | refine Sub.cons rfl ?_), ⟨by dsimp only; omega, ?_⟩, by dsimp only; omega⟩
      dsimp only
      rw [← joinP_ne hxx hx hy2 hxy]; exact os'
  · obtain rfl : j = n := by omega
    have hjp : joinP xs xs' j = joinL xs xs' := by
      rw [joinP, List.take_of_length_le (by rw [joinL_length hxx]; omega), List.drop_eq_nil_of_le (by omega), List.append_nil]
    rw [hjp] at os
    repeat' (first
      | refine swp_seq ?_
      | (refine gk 0 rfl ?_; first | refine sl_op rfl rfl rfl (by first | exact opv_assign rfl rfl ) ?_ )
      | (refine gk 2 rfl ?_; first | refine sl_no rfl rfl rfl (by first | exact opv_lss rfl rfl rfl ) (by first | omega ) ?_ )
      | (refine gk 3 rfl ?_; first | refine sl_op rfl rfl rfl (by first | exact opv_loadA rfl (by exact rfl) rfl (by exact rfl) (by exact rfl) ) ?_ )
      | (refine gk 5 rfl ?_; first | refine sl_store rfl rfl rfl rfl rfl rfl (by exact rfl) rfl (by exact rfl) ?_)
      | refine sl_region rfl ?_
      | refine sl_nil ?_
      | refine thn_k ?_
      | refine swp_false rfl ?_
      | refine swp_ret ?_
      | refine swp_exit ?_
      )
    exact end_retL [J, H, hB] (resOk_two (resV_cellA rfl rfl rfl rfl) (resV_tmp rfl)) ⟨[H, hB], rfl, H, hB, bA, cA, bB, cB, rfl, rfl, os, osB⟩
theorem Join_none (J : Heap) (a b a' b' : Option Addr) (n m n' m' c d c' d' : Nat) (xs ys xs' ys' : List Int) [Sl J a (xs.map i64)] [Sl J b (ys.map i64)] [Sl J a' (xs'.map i64)] [Sl J b' (ys'.map i64)]
    (h1 : xs.length = n) (h2 : ys.length = m) (h3 : xs'.length = n') (h4 : ys'.length = m') (hsm : n ≤ 4000000) (hsm2 : m ≤ 4000000) (hn : ¬ (n = n' ∧ ys = ys')) :
    PFn Try.prog 8 [fr a b n m c d, fr a' b' n' m' c' d'] [J] (.tuple #[nilFr, .bool false]) := by
  have he := Equal_calls [J] b b' m m' d d' ys ys' h2 h4 (by omega)
  by_cases hnn : n = n'
  · rw [decide_eq_false fun e => hn ⟨hnn, e⟩] at he
    refine pure_of_body Try.func8 rfl (Nat.le_of_ble_eq_true rfl) fun F => ?_
    repeat' (first
      | refine swp_seq ?_
      | (refine gk 0 rfl ?_; first | refine sl_op rfl rfl rfl (by first | exact opv_move rfl rfl | exact opv_assign rfl rfl | exact opv_pick_f rfl rfl rfl | exact opv_not_f rfl rfl ) ?_ )
      | (refine gk 2 rfl ?_; first | refine sl_no rfl rfl rfl (by first | exact opv_neq rfl rfl rfl) (by first | omega ) ?_ )
      | (refine gk 3 rfl ?_; first | refine sl_op rfl rfl rfl (by first | exact opv_load rfl (by exact rfl) rfl (by exact rfl) | exact opv_fieldAddr rfl rfl ) ?_ )
      | (refine gk 4 rfl ?_; first | refine sl_op rfl rfl rfl (by first | exact opv_len rfl rfl rfl rfl rfl ) ?_ | refine sl_op rfl rfl rfl (opv_call rfl rfl rfl rfl rfl (he)) ?_)
      | (refine gk 5 rfl ?_; first | refine sl_op rfl rfl rfl (by first | exact opv_build rfl rfl (by exact rfl) ) ?_ | refine sl_box rfl rfl rfl rfl rfl rfl (fun β => ?_) | refine sl_alloc rfl rfl rfl rfl (by exact rfl) (fun β => ?_) | refine sl_store rfl rfl rfl rfl rfl rfl (by exact rfl) rfl (by exact rfl) ?_)
      | refine sl_region rfl ?_
      | refine sl_nil ?_
      | refine thn_k ?_
      | refine swp_true rfl ?_
      | refine swp_ret ?_
      | refine thn_ret ?_
      )
    exact end_pure (resOk_two (resV_cellA rfl rfl rfl rfl) (resV_tmp rfl)) rfl
  · skip
    refine pure_of_body Try.func8 rfl (Nat.le_of_ble_eq_true rfl) fun F => ?_
    repeat' (first
      | refine swp_seq ?_
      | (refine gk 0 rfl ?_; first | refine sl_op rfl rfl rfl (by first | exact opv_move rfl rfl | exact opv_assign rfl rfl | exact opv_pick_t rfl rfl rfl ) ?_ | refine sl_pass rfl rfl rfl rfl ?_)
      | (refine gk 2 rfl ?_; first | refine sl_yes rfl rfl rfl (by first | exact opv_neq rfl rfl rfl) (by first | omega ) ?_ )
      | (refine gk 3 rfl ?_; first | refine sl_op rfl rfl rfl (by first | exact opv_load rfl (by exact rfl) rfl (by exact rfl) | exact opv_fieldAddr rfl rfl ) ?_ | refine sl_pass rfl rfl rfl rfl ?_)
      | (refine gk 4 rfl ?_; first | refine sl_pass rfl rfl rfl rfl ?_ | refine sl_op rfl rfl rfl (by first | exact opv_len rfl rfl rfl rfl rfl ) ?_ )
      | (refine gk 5 rfl ?_; first | refine sl_op rfl rfl rfl (by first | exact opv_build rfl rfl (by exact rfl) ) ?_ | refine sl_box rfl rfl rfl rfl rfl rfl (fun β => ?_) | refine sl_alloc rfl rfl rfl rfl (by exact rfl) (fun β => ?_) | refine sl_store rfl rfl rfl rfl rfl rfl (by exact rfl) rfl (by exact rfl) ?_)
      | refine sl_region rfl ?_
      | refine sl_nil ?_
      | refine thn_k ?_
      | refine swp_true rfl ?_
      | refine swp_ret ?_
      | refine thn_ret ?_
      )
    exact end_pure (resOk_two (resV_cellA rfl rfl rfl rfl) (resV_tmp rfl)) rfl
theorem Join_W (own : List Heap) (a b a' b' : Option Addr) (n m n' m' c d c' d' : Nat) (xs ys xs' ys' : List Int) [s1 : SlIn own a (xs.map i64)] [s2 : SlIn own b (ys.map i64)] [s3 : SlIn own a' (xs'.map i64)] [s4 : SlIn own b' (ys'.map i64)]
    (h1 : xs.length = n) (h2 : ys.length = m) (h3 : xs'.length = n') (h4 : ys'.length = m') (hsm : n ≤ 4000000) (hsm2 : m ≤ 4000000) (hn : n = n') (hy : ys = ys') :
    T Try.prog 8 [fr a b n m c d, fr a' b' n' m' c' d'] own fun e o => ∃ N, o = own ++ N ∧ ∃ h1 h2 b1 c1 b2 c2, e = .returned (.tuple #[fr b1 b2 n m c1 c2, .bool true]) ∧ N = [h1, h2] ∧ OS h1 b1 n c1 27 1 ((joinL xs xs').map i64) ∧ OS h2 b2 m c2 27 1 (ys.map i64) :=
  T_whole fun J hJ => by
    haveI := s1.all hJ
    haveI := s2.all hJ
    haveI := s3.all hJ
    haveI := s4.all hJ
    exact Join_calls J a b a' b' n m n' m' c d c' d' xs ys xs' ys' h1 h2 h3 h4 hsm hsm2 hn hy
theorem Join_none_W (own : List Heap) (a b a' b' : Option Addr) (n m n' m' c d c' d' : Nat) (xs ys xs' ys' : List Int) [s1 : SlIn own a (xs.map i64)] [s2 : SlIn own b (ys.map i64)] [s3 : SlIn own a' (xs'.map i64)] [s4 : SlIn own b' (ys'.map i64)]
    (h1 : xs.length = n) (h2 : ys.length = m) (h3 : xs'.length = n') (h4 : ys'.length = m') (hsm : n ≤ 4000000) (hsm2 : m ≤ 4000000) (hn : ¬ (n = n' ∧ ys = ys')) :
    PFn Try.prog 8 [fr a b n m c d, fr a' b' n' m' c' d'] own (.tuple #[nilFr, .bool false]) :=
  P_whole fun J hJ => by
    haveI := s1.all hJ
    haveI := s2.all hJ
    haveI := s3.all hJ
    haveI := s4.all hJ
    exact Join_none J a b a' b' n m n' m' c d c' d' xs ys xs' ys' h1 h2 h3 h4 hsm hsm2 hn
end Go.Proofs.Ytnfepffmlhmmhaa
