/- Codes that are cut. -/
import Derived.Test.YtgcajldkegdllaaWN
namespace Go.Proofs.Ytgcajldkegdllaa
open Go.SL
set_option maxRecDepth 100000
set_option maxHeartbeats 16000000
attribute [local irreducible] SL.T PFn OpV SOL SWP HOp ChU
theorem flatI_set {cs : List Ins} {k : Nat} {x y : Ins} (hk : cs[k]? = some x) : (flatI cs).take (k * 3) ++ [i64 y.1, i64 y.2.1, i64 y.2.2] ++ (flatI cs).drop (k * 3 + 3) = flatI (cs.set k y) := by
  have hl := (List.getElem?_eq_some_iff.1 hk).1
  have e : k * 3 + 3 = (k + 1) * 3 := by omega
  rw [e, flatI_take, flatI_drop, List.set_eq_take_append_cons_drop, if_pos hl, flatI_append, flatI, List.append_assoc]
  rfl
theorem flatI_split {cs : List Ins} {k : Nat} {x : Ins} (hk : cs[k]? = some x) : flatI cs = (flatI cs).take (k * 3) ++ [i64 x.1, i64 x.2.1, i64 x.2.2] ++ (flatI cs).drop (k * 3 + 3) := by
  have := flatI_set (y := x) hk
  rw [this]
  obtain ⟨hl, he⟩ := List.getElem?_eq_some_iff.1 hk
  rw [← he, List.set_getElem_self]
theorem cut3 {A B : List Value} {n : Nat} (hA : A.length = n) (a b c z : Value) :
    ((A ++ [a, b, c] ++ B).take n ++ [z] ++ (A ++ [a, b, c] ++ B).drop (n + 1) = A ++ [z, b, c] ++ B) ∧ ((A ++ [a, b, c] ++ B).take (n + 1) ++ [z] ++ (A ++ [a, b, c] ++ B).drop (n + 1 + 1) = A ++ [a, z, c] ++ B) := by
  subst hA
  have e1 : A ++ [a, b, c] ++ B = A ++ ([a, b, c] ++ B) := by simp
  have e2 : A ++ [a, b, c] ++ B = (A ++ [a]) ++ ([b, c] ++ B) := by simp
  have e3 : A ++ [a, b, c] ++ B = (A ++ [a, b]) ++ ([c] ++ B) := by simp
  have t1 : (A ++ [a, b, c] ++ B).take A.length = A := by rw [e1, List.take_left']; rfl
  have t2 : (A ++ [a, b, c] ++ B).take (A.length + 1) = A ++ [a] := by rw [e2, List.take_left']; simp
  have d1 : (A ++ [a, b, c] ++ B).drop (A.length + 1) = [b, c] ++ B := by rw [e2, List.drop_left']; simp
  have d2 : (A ++ [a, b, c] ++ B).drop (A.length + 1 + 1) = [c] ++ B := by rw [e3, List.drop_left']; simp
  rw [t1, t2, d1, d2]
  constructor <;> simp
theorem set_op {cs : List Ins} {k j : Nat} {op a b z : Int} (hk : cs[k]? = some (op, a, b)) (hj : j = k * 3) : (flatI cs).take j ++ [i64 z] ++ (flatI cs).drop (j + 1) = flatI (cs.set k (z, a, b)) := by
  subst hj
  have hl := (List.getElem?_eq_some_iff.1 hk).1
  have h3 : ((flatI cs).take (k * 3)).length = k * 3 := by rw [List.length_take, flatI_length]; omega
  rw [flatI_split hk, (cut3 h3 _ _ _ _).1, ← flatI_set (y := (z, a, b)) hk]
theorem set_A {cs : List Ins} {k j : Nat} {op a b z : Int} (hk : cs[k]? = some (op, a, b)) (hj : j = k * 3 + 1) : (flatI cs).take j ++ [i64 z] ++ (flatI cs).drop (j + 1) = flatI (cs.set k (op, z, b)) := by
  subst hj
  have hl := (List.getElem?_eq_some_iff.1 hk).1
  have h3 : ((flatI cs).take (k * 3)).length = k * 3 := by rw [List.length_take, flatI_length]; omega
  rw [flatI_split hk, (cut3 h3 _ _ _ _).2, ← flatI_set (y := (op, z, b)) hk]
theorem u64_pos {x : Nat} (hx : x ≤ 100) : IntKind.u64.wrap ((x : Int) + 2) ≠ 0 := by
  have e : IntKind.u64.wrap ((x : Int) + 2) = ((x : Int) + 2) % 18446744073709551616 := by simp [IntKind.wrap, IntKind.bits, IntKind.signed]
  omega
abbrev nilS : Value := .slice none 0 0
structure SC where
  j : Nat
  h : Heap
  cs : List Ins
set_option linter.unusedVariables false in
theorem cut_near (J : Heap) (lb : Option Addr) (ll lc : Nat) (ls : List Ins) [Sl J lb (flatI ls)] (hl : ls.length = ll) (hsm : ll ≤ 9223372036854775807) (hlc : ll ≤ lc) :
    SL.T Try.prog 7 [.slice lb ll lc, .bool true] [J] fun e o => ∃ N, o = J :: N ∧ ∃ h b n c cs, e = .returned (mth nilS 0 0 b n c) ∧ N = [h] ∧ OS h b n c 40 3 (flatI cs) ∧ cs.length = n ∧ n ≤ 40 := by
  obtain ⟨n, hn⟩ : ∃ n : Nat, n = (min (ll : Int) 40).toNat := ⟨_, rfl⟩
  have hn1 : n ≤ ll := by omega
  have hn2 : n ≤ 40 := by omega
  haveI : Sl J lb (flatI (ls.take n)) := by rw [← flatI_take]; exact Sl.take ‹_› _
  have htl : (ls.take n).length = n := by rw [List.length_take]; omega
  refine t_of_body Try.func7 rfl (Nat.le_of_ble_eq_true rfl) fun F => ?_
  repeat' (first
    | refine swp_seq ?_
    | (refine gk 0 rfl ?_; first | refine sl_op rfl rfl rfl (by first | exact opv_move rfl rfl ) ?_ )
    | (refine gk 4 rfl ?_; first | refine sl_op rfl rfl rfl (by first | exact opv_len rfl rfl rfl rfl rfl | exact opv_min rfl rfl rfl rfl rfl ) ?_)
    | (refine gk 5 rfl ?_; first | refine sl_op rfl rfl rfl (by first | exact opv_sliceHi rfl rfl rfl (by omega) (by omega) ) ?_ | refine sl_buildSlice rfl rfl rfl rfl rfl (by exact rfl) (by exact rfl) (by exact rfl) (by exact rfl) rfl (fun b => ?_) | refine sl_alloc rfl rfl rfl rfl (by exact rfl) (fun β => ?_) )
    | refine sl_region rfl ?_
    | refine sl_nil ?_
    )
  rw [← hn]
  refine sl_appendG rfl rfl rfl rfl rfl rfl rfl rfl rfl (OS.blk (len := 0) (sz := 3) (cs := []) rfl) (news := flatI (ls.take n)) (by rw [flatI_length, htl]) (by decide) (flatI_one _) (by omega) (by omega) (fun h' b' c' os' hb' => ?_)
  rw [Nat.zero_add, List.nil_append] at os'
  rw [Nat.zero_add]
  repeat' (first
    | refine swp_seq ?_
    | (refine gk 0 rfl ?_; first | refine sl_op rfl rfl rfl (by first | exact opv_assign rfl rfl ) ?_ )
    | refine sl_region rfl ?_
    | refine sl_nil ?_
    | refine thn_k ?_
    | refine swp_block ?_
    )
  obtain ⟨β4, rfl⟩ : ∃ x, x = β := ⟨_, rfl⟩
  refine swp_loopS (fun s : SC => [(0, .slice b' n c'), (1, .bool true), (4, .pointer (some ⟨β4, 0, none⟩)), (5, i64 (s.j : Int))])
    (fun s => [s.h, J, blk β4 (.cells ⟨[nilS, i64 0, i64 0, nilS]⟩ 26 (0, 0))]) (fun s => s.j ≤ n ∧ s.cs.length = n ∧ OS s.h b' n c' 40 3 (flatI s.cs)) (fun s => n - s.j) ⟨0, h', ls.take n⟩ (by repeat first | exact Sub.nil _ | refine Sub.cons rfl ?_) ⟨Nat.zero_le _, htl, os'⟩ ?_
  rintro ⟨j, H, cs⟩ ⟨hj1, hcl, os⟩
  dsimp only at hj1 hcl os ⊢
  haveI sl := os.sl
  have hfl := flatI_length cs
  by_cases hj : j < n
  · obtain ⟨⟨op, a, b⟩, hx⟩ : ∃ x, cs[j]? = some x := ⟨_, List.getElem?_eq_getElem (by omega)⟩
    obtain ⟨c0, c1, c2⟩ := flatI_at hx
    have c0 : (flatI cs)[((j : Nat) : Int).toNat * 3]? = some (i64 op) := c0
    have hq : ((j : Nat) : Int).toNat * 3 < (flatI cs).length := by simp; omega
    have hu := u64_pos (x := n) (by omega)
    repeat' (first
      | refine swp_seq ?_
      | (refine gk 0 rfl ?_; first | refine sl_op rfl rfl rfl (by first | exact opv_move rfl rfl | exact opv_pick_t rfl rfl rfl ) ?_ )
      | (refine gk 1 rfl ?_; first | refine sl_op rfl rfl rfl (by first | exact opv_rem rfl rfl rfl (by omega) ) ?_ )
      | (refine gk 2 rfl ?_; first | refine sl_yes rfl rfl rfl (by first | exact opv_lss rfl rfl rfl ) (by first | omega ) ?_ )
      | (refine gk 3 rfl ?_; first | refine sl_op rfl rfl rfl (by first | exact opv_indexAddrI rfl rfl rfl (by omega) (by omega) (by first | omega ) | exact opv_fieldAddrE rfl rfl (by first | assumption ) | exact opv_loadEx rfl (by exact rfl) (by infer_instance) (by first | assumption ) ) ?_ )
      | (refine gk 4 rfl ?_; first | refine sl_op rfl rfl rfl (by first | exact opv_len rfl rfl rfl rfl rfl ) ?_)
      | (refine gk 5 rfl ?_; first | refine sl_op rfl rfl rfl (by first | exact opv_convert rfl rfl ) ?_ )
      | refine sl_region rfl ?_
      | refine sl_nil ?_
      | refine thn_k ?_
      | refine swp_true rfl ?_
      | refine swp_block ?_
      | refine swp_skip ?_
      )
    obtain ⟨op1, ho1⟩ : ∃ z, z = IntKind.i64.wrap ((IntKind.u64.wrap op).tmod 21) := ⟨_, rfl⟩
    rw [← ho1]
    refine sl_storeE rfl rfl rfl rfl rfl os rfl rfl rfl (Nat.succ_pos _) (by simp; omega) (set_op hx (by simp)) (fun h1 os1 => ?_)
    have hx1 : (cs.set j (op1, a, b))[j]? = some (op1, a, b) := by rw [List.getElem?_set, if_pos rfl, if_pos (by omega)]
    have hcl1 : (cs.set j (op1, a, b)).length = n := by simpa using hcl
    generalize cs.set j (op1, a, b) = cs1 at *
    haveI sl1 := os1.sl
    have hfl1 := flatI_length cs1
    obtain ⟨-, c1, -⟩ := flatI_at hx1
    have c1 : (flatI cs1)[((j : Nat) : Int).toNat * 3 + 1]? = some (i64 a) := c1
    have hq1 : ((j : Nat) : Int).toNat * 3 < (flatI cs1).length := by simp; omega
    clear c0 hq hx os sl
    repeat' (first
      | refine swp_seq ?_
      | (refine gk 0 rfl ?_; first | refine sl_op rfl rfl rfl (by first | exact opv_move rfl rfl ) ?_ )
      | (refine gk 1 rfl ?_; first | refine sl_op rfl rfl rfl (by first | exact opv_add64 rfl rfl rfl (by omega) (by omega) | exact opv_sub rfl rfl rfl | exact opv_rem rfl rfl rfl (by omega) ) ?_ )
      | (refine gk 3 rfl ?_; first | refine sl_op rfl rfl rfl (by first | exact opv_indexAddrI rfl rfl rfl (by omega) (by omega) (by first | omega ) | exact opv_fieldAddrE rfl rfl (by first | assumption ) | exact opv_loadEx rfl (by exact rfl) (by infer_instance) (by first | assumption ) ) ?_ )
      | (refine gk 4 rfl ?_; first | refine sl_op rfl rfl rfl (by first | exact opv_len rfl rfl rfl rfl rfl ) ?_)
      | (refine gk 5 rfl ?_; first | refine sl_op rfl rfl rfl (by first | exact opv_convert rfl rfl ) ?_ )
      | refine sl_region rfl ?_
      | refine sl_nil ?_
      )
    obtain ⟨a1, ha1⟩ : ∃ z, z = IntKind.i64.wrap (IntKind.i64.wrap ((IntKind.u64.wrap a).tmod (IntKind.u64.wrap ((n : Int) + 2))) - 1) := ⟨_, rfl⟩
    rw [← ha1]
    refine sl_storeE rfl rfl rfl rfl rfl os1 rfl rfl rfl (Nat.succ_pos _) (by simp; omega) (set_A hx1 (by simp)) (fun h2 os2 => ?_)
    have hx2 : (cs1.set j (op1, a1, b))[j]? = some (op1, a1, b) := by rw [List.getElem?_set, if_pos rfl, if_pos (by omega)]
    have hcl2 : (cs1.set j (op1, a1, b)).length = n := by simpa using hcl1
    generalize cs1.set j (op1, a1, b) = cs2 at *
    haveI sl2 := os2.sl
    have hfl2 := flatI_length cs2
    obtain ⟨-, c1, -⟩ := flatI_at hx2
    have c1 : (flatI cs2)[((j : Nat) : Int).toNat * 3 + 1]? = some (i64 a1) := c1
    have hq2 : ((j : Nat) : Int).toNat * 3 < (flatI cs2).length := by simp; omega
    clear hq1 hx1 os1 sl1
    by_cases hz : a1 < 0 ∧ 0 < ((j : Nat) : Int).tmod 5
    · obtain ⟨hz1, hz2⟩ := hz
      repeat' (first
        | refine swp_seq ?_
        | (refine gk 0 rfl ?_; first | refine sl_op rfl rfl rfl (by first | exact opv_move rfl rfl | exact opv_pick_t rfl rfl rfl ) ?_ )
        | (refine gk 1 rfl ?_; first | refine sl_op rfl rfl rfl (by first | exact opv_rem rfl rfl rfl (by omega) ) ?_ )
        | (refine gk 2 rfl ?_; first | refine sl_yes rfl rfl rfl (by first | exact opv_lss rfl rfl rfl | exact opv_gtr rfl rfl rfl ) (by first | omega ) ?_ )
        | (refine gk 3 rfl ?_; first | refine sl_op rfl rfl rfl (by first | exact opv_indexAddrI rfl rfl rfl (by omega) (by omega) (by first | omega ) | exact opv_fieldAddrE rfl rfl (by first | assumption ) | exact opv_loadEx rfl (by exact rfl) (by infer_instance) (by first | assumption ) ) ?_ )
        | refine sl_region rfl ?_
        | refine sl_nil ?_
        | refine thn_k ?_
        | refine swp_true rfl ?_
        )
      refine sl_storeE rfl rfl rfl rfl rfl os2 rfl rfl rfl (by decide) (by simp; omega) (set_A (z := 0) hx2 (by simp)) (fun h3 os3 => ?_)
      repeat' (first
        | (refine gk 0 rfl ?_; first | refine sl_op rfl rfl rfl (by first | exact opv_move rfl rfl | exact opv_assign rfl rfl ) ?_ )
        | (refine gk 1 rfl ?_; first | refine sl_op rfl rfl rfl (by first | exact opv_add64 rfl rfl rfl (by omega) (by omega) ) ?_ )
        | refine sl_region rfl ?_
        | refine sl_nil ?_
        | refine thn_k ?_
        )
      exact ⟨rfl, ⟨j + 1, h3, cs2.set j (op1, 0, b)⟩, next_ok (by repeat first | exact Sub.nil _ | refine Sub.cons rfl ?_), ⟨by dsimp only; omega, by simpa using hcl2, os3⟩, by dsimp only; omega⟩
    · repeat' (first
        | refine swp_seq ?_
        | (refine gk 0 rfl ?_; first | refine sl_op rfl rfl rfl (by first | exact opv_move rfl rfl | exact opv_assign rfl rfl | exact opv_pick_t rfl rfl rfl | exact opv_pick_f rfl rfl rfl ) ?_ | refine sl_pass rfl rfl rfl rfl ?_)
        | (refine gk 1 rfl ?_; first | refine sl_op rfl rfl rfl (by first | exact opv_add64 rfl rfl rfl (by omega) (by omega) | exact opv_rem rfl rfl rfl (by omega) ) ?_ | refine sl_pass rfl rfl rfl rfl ?_)
        | (refine gk 2 rfl ?_; first | refine sl_pass rfl rfl rfl rfl ?_ | refine sl_no rfl rfl rfl (by first | exact opv_lss rfl rfl rfl | exact opv_gtr rfl rfl rfl ) (by first | omega ) ?_ | refine sl_if rfl rfl rfl (by first | exact opv_lss rfl rfl rfl ) (fun h => ?_) (fun h => ?_) )
        | (refine gk 3 rfl ?_; first | refine sl_op rfl rfl rfl (by first | exact opv_indexAddrI rfl rfl rfl (by omega) (by omega) (by first | omega ) | exact opv_fieldAddrE rfl rfl (by first | assumption ) | exact opv_loadEx rfl (by exact rfl) (by infer_instance) (by first | assumption ) ) ?_ )
        | refine sl_region rfl ?_
        | refine sl_nil ?_
        | refine thn_k ?_
        | refine swp_false rfl ?_
        | refine swp_skip ?_
        )
      all_goals first | (exfalso; omega) | exact ⟨rfl, ⟨j + 1, h2, cs2⟩, next_ok (by repeat first | exact Sub.nil _ | refine Sub.cons rfl ?_), ⟨by dsimp only; omega, hcl2, os2⟩, by dsimp only; omega⟩
  · obtain rfl : j = n := by omega
    repeat' (first
      | refine swp_seq ?_
      | (refine gk 0 rfl ?_; first | refine sl_op rfl rfl rfl (by first | exact opv_move rfl rfl | exact opv_pick_f rfl rfl rfl ) ?_ | refine sl_pass rfl rfl rfl rfl ?_)
      | (refine gk 2 rfl ?_; first | refine sl_no rfl rfl rfl (by first | exact opv_lss rfl rfl rfl ) (by first | omega ) ?_ )
      | (refine gk 4 rfl ?_; first | refine sl_op rfl rfl rfl (by first | exact opv_len rfl rfl rfl rfl rfl ) ?_)
      | (refine gk 5 rfl ?_; first | refine sl_op rfl rfl rfl (by first | exact opv_build rfl rfl (by exact rfl) ) ?_ | refine sl_store rfl rfl rfl rfl rfl rfl (by exact rfl) rfl (by exact rfl) ?_)
      | refine sl_region rfl ?_
      | refine sl_nil ?_
      | refine thn_k ?_
      | refine swp_false rfl ?_
      | refine swp_ret ?_
      | refine swp_exit ?_
      )
    exact end_retL [J, H] (resOk_one (resV_cellA rfl rfl rfl rfl)) ⟨[H], rfl, H, b', j, c', cs, rfl, rfl, os, hcl, hn2⟩
end Go.Proofs.Ytgcajldkegdllaa
