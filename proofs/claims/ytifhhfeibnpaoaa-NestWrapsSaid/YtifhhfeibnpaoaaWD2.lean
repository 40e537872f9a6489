/- Methods that are drawn: bytes that come, pieces put together, walked. -/
import Derived.Test.YtifhhfeibnpaoaaWD1
namespace Go.Proofs.Ytifhhfeibnpaoaa
open Go.SL
set_option maxRecDepth 100000
set_option maxHeartbeats 16000000
attribute [local irreducible] SL.T PFn OpV SOL SWP HOp ChU
abbrev u8 (a : Int) : Value := .int .u8 a
abbrev dBlk (β : Nat) (bb : Option Addr) (bl bc : Nat) (odd at8 x0 x1 : Value) (a : Int) : Heap := blk β (.cells ⟨[.slice bb bl bc, odd, at8, x0, x1, i64 a]⟩ 25 (0, 0))
section
variable {P : Program} {own : List Heap} {n : Nat} {env : Env} {o : Oper}
theorem opv_remE {t u : TypeId} {x y : Operand} {k : IntKind} {a b : Int} (ho : o.op = .binOp .rem t x y u) (hx : ev env x = some (.int k a)) (hy : ev env y = some (.int k b)) (h0 : 0 ≤ a) (hb : 0 < b) : OpV P own n o env (.int k (a % b)) :=
  (opv_rem ho hx hy (by omega)).to (by rw [Int.tmod_eq_emod_of_nonneg h0])
theorem opv_convert8 {s t : TypeId} {x : Operand} {a : Int} {z zt : Value} {i j : TypeInfo} [h1 : Ty P s (.int .u8) z i] [h2 : Ty P t (.int .i64) zt j] (ho : o.op = .convert s t x) (hx : ev env x = some (.int .u8 a)) (h0 : 0 ≤ a) (hb : a ≤ 255) : OpV P own n o env (.int .i64 a) :=
  (opv_convert ho hx).to (by rw [wrap64_id (by omega) (by omega)])
end
theorem next_calls (J : Heap) (βd : Nat) (bb : Option Addr) (bl bc : Nat) (odd at8 x0 x1 : Value) (a : Int) (B : List Int) [Sl J bb (B.map u8)] (hl : B.length = bl) (hB : ∀ x ∈ B, 0 ≤ x ∧ x ≤ 255) (h0 : 0 ≤ a) (hsm : a ≤ 1000000) :
    SL.T Try.prog 22 [.pointer (some ⟨βd, 0, none⟩)] [dBlk βd bb bl bc odd at8 x0 x1 a, J] fun e o => o = [dBlk βd bb bl bc odd at8 x0 x1 (a + 1), J] ∧ e = .returned (i64 (nextV B a)) := by
  by_cases ha : a < bl
  · obtain ⟨x, hx⟩ : ∃ x, B[a.toNat]? = some x := ⟨_, List.getElem?_eq_getElem (by omega)⟩
    have hn : nextV B a = x := by unfold nextV; rw [List.getD_eq_getElem?_getD, hx]; rfl
    have hb := nextV_byte hB a
    rw [hn] at hb ⊢
    have hcx : (B.map u8)[(a + 1 - 1).toNat * 1]? = some (u8 x) := by
      rw [show (a + 1 - 1).toNat * 1 = a.toNat by omega, List.getElem?_map, hx]; rfl
    refine t_of_body Try.func22 rfl (Nat.le_of_ble_eq_true rfl) fun F => ?_
    repeat' (first
      | refine swp_seq ?_
      | (refine gk 0 rfl ?_; first | refine sl_op rfl rfl rfl (by first | exact opv_move rfl rfl | exact opv_assign rfl rfl ) ?_ )
      | (refine gk 1 rfl ?_; first | refine sl_op rfl rfl rfl (by first | exact opv_add64 rfl rfl rfl (by omega) (by omega) ) ?_ )
      | (refine gk 3 rfl ?_; first | refine sl_op rfl rfl rfl (by first | exact opv_load rfl (by exact rfl) rfl (by exact rfl) | exact opv_fieldAddr rfl rfl ) ?_ )
      | (refine gk 5 rfl ?_; first | refine sl_op rfl rfl rfl (by first | exact opv_nilCheck rfl rfl ) ?_ | refine sl_store rfl rfl rfl rfl rfl rfl (by exact rfl) rfl (by exact rfl) ?_)
      | refine sl_region rfl ?_
      | refine sl_nil ?_
      )
    refine sl_draw (by kernel_rfl) (by kernel_rfl) rfl ?_
    repeat' (first
      | refine swp_seq ?_
      | (refine gk 0 rfl ?_; first | refine sl_op rfl rfl rfl (by first | exact opv_move rfl rfl ) ?_ )
      | (refine gk 2 rfl ?_; first | refine sl_no rfl rfl rfl (by first | exact opv_gtr rfl rfl rfl ) (by first | omega ) ?_ )
      | (refine gk 3 rfl ?_; first | refine sl_op rfl rfl rfl (by first | exact opv_load rfl (by exact rfl) rfl (by exact rfl) | exact opv_fieldAddr rfl rfl ) ?_ )
      | (refine gk 4 rfl ?_; first | refine sl_op rfl rfl rfl (by first | exact opv_len rfl rfl rfl rfl rfl ) ?_)
      | (refine gk 5 rfl ?_; first | refine sl_op rfl rfl rfl (by first | exact opv_nilCheck rfl rfl ) ?_ )
      | refine sl_nil ?_
      | refine thn_k ?_
      | refine swp_false rfl ?_
      | refine swp_skip ?_
      )
    refine sl_draw (by kernel_rfl) (by kernel_rfl) rfl ?_
    repeat' (first
      | refine sl_op rfl rfl rfl (opv_convert8 rfl rfl (by omega) (by omega)) ?_
      | (refine gk 0 rfl ?_; first | refine sl_op rfl rfl rfl (by first | exact opv_move rfl rfl | exact opv_assign rfl rfl ) ?_ )
      | (refine gk 1 rfl ?_; first | refine sl_op rfl rfl rfl (by first | exact opv_sub64 rfl rfl rfl (by omega) (by omega) ) ?_ )
      | (refine gk 3 rfl ?_; first | refine sl_op rfl rfl rfl (by first | exact opv_load rfl (by exact rfl) rfl (by exact rfl) | exact opv_fieldAddr rfl rfl | exact opv_indexAddrI rfl rfl rfl (by omega) (by omega) (by first | (simp only [List.length_map]; omega) ) | exact opv_loadEx rfl (by exact rfl) (by infer_instance) (by first | assumption ) ) ?_ )
      | (refine gk 5 rfl ?_; first | refine sl_op rfl rfl rfl (by first | exact opv_nilCheck rfl rfl ) ?_ )
      | refine sl_nil ?_
      | refine thn_k ?_
      | refine swp_ret ?_
      )
    exact end_retL [dBlk βd bb bl bc odd at8 x0 x1 (a + 1), J] (resOk_one (resV_tmp rfl)) ⟨rfl, rfl⟩
  · have hn : nextV B a = 0 := by unfold nextV; rw [List.getD_eq_getElem?_getD, List.getElem?_eq_none (by omega)]; rfl
    rw [hn]
    refine t_of_body Try.func22 rfl (Nat.le_of_ble_eq_true rfl) fun F => ?_
    repeat' (first
      | refine swp_seq ?_
      | (refine gk 0 rfl ?_; first | refine sl_op rfl rfl rfl (by first | exact opv_move rfl rfl | exact opv_assign rfl rfl ) ?_ )
      | (refine gk 1 rfl ?_; first | refine sl_op rfl rfl rfl (by first | exact opv_add64 rfl rfl rfl (by omega) (by omega) ) ?_ )
      | (refine gk 3 rfl ?_; first | refine sl_op rfl rfl rfl (by first | exact opv_load rfl (by exact rfl) rfl (by exact rfl) | exact opv_fieldAddr rfl rfl ) ?_ )
      | (refine gk 5 rfl ?_; first | refine sl_op rfl rfl rfl (by first | exact opv_nilCheck rfl rfl ) ?_ | refine sl_store rfl rfl rfl rfl rfl rfl (by exact rfl) rfl (by exact rfl) ?_)
      | refine sl_region rfl ?_
      | refine sl_nil ?_
      )
    refine sl_draw (by kernel_rfl) (by kernel_rfl) rfl ?_
    repeat' (first
      | refine swp_seq ?_
      | (refine gk 0 rfl ?_; first | refine sl_op rfl rfl rfl (by first | exact opv_move rfl rfl | exact opv_assign rfl rfl ) ?_ )
      | (refine gk 2 rfl ?_; first | refine sl_yes rfl rfl rfl (by first | exact opv_gtr rfl rfl rfl ) (by first | omega ) ?_ )
      | (refine gk 3 rfl ?_; first | refine sl_op rfl rfl rfl (by first | exact opv_load rfl (by exact rfl) rfl (by exact rfl) | exact opv_fieldAddr rfl rfl ) ?_ )
      | (refine gk 4 rfl ?_; first | refine sl_op rfl rfl rfl (by first | exact opv_len rfl rfl rfl rfl rfl ) ?_)
      | (refine gk 5 rfl ?_; first | refine sl_op rfl rfl rfl (by first | exact opv_nilCheck rfl rfl ) ?_ )
      | refine sl_region rfl ?_
      | refine sl_nil ?_
      | refine thn_k ?_
      | refine swp_true rfl ?_
      | refine swp_ret ?_
      | refine thn_ret ?_
      )
    exact end_retL [dBlk βd bb bl bc odd at8 x0 x1 (a + 1), J] (resOk_one (resV_tmp rfl)) ⟨rfl, rfl⟩
theorem one_calls (op a : Int) : SL.T Try.prog 23 [i64 op, i64 a] [] fun e o => ∃ h b, o = [h] ∧ e = .returned (.slice b 1 1) ∧ OS h b 1 1 29 3 (flatI [(op, a, 0)]) := by
  refine t_of_body Try.func23 rfl (Nat.le_of_ble_eq_true rfl) fun F => ?_
  repeat' (first
    | refine swp_seq ?_
    | (refine gk 0 rfl ?_; first | refine sl_op rfl rfl rfl (by first | exact opv_move rfl rfl | exact opv_assign rfl rfl ) ?_ )
    | (refine gk 5 rfl ?_; first | refine sl_op rfl rfl rfl (by first | exact opv_build rfl rfl (by exact rfl) ) ?_ | refine sl_buildSlice rfl rfl rfl rfl rfl (by exact rfl) (by exact rfl) (by exact rfl) (by exact rfl) rfl (fun b => ?_) )
    | refine sl_region rfl ?_
    | refine sl_nil ?_
    | refine thn_k ?_
    | refine swp_ret ?_
    )
  exact end_retL [blk b (.cells ⟨[i64 op, i64 a, i64 0]⟩ 29 (0, 0))] (resOk_one (resV_tmp rfl)) ⟨_, _, rfl, rfl, OS.blk (cs := flatI [(op, a, 0)]) rfl⟩
/-- Pieces, as a slice of slices has them. -/
abbrev PV (own : List Heap) (v : Value) (l : List Ins) : Prop := ∃ b c, v = .slice b l.length c ∧ SlIn own b (flatI l)
structure JW where
  i : Nat
  h : Heap
  b : Option Addr
  n : Nat
  c : Nat
structure JK where
  k : Nat
  h : Heap
  b : Option Addr
  n : Nat
  c : Nat
theorem flatten_take_le : ∀ (ls : List (List Ins)) (k : Nat), (ls.take k).flatten.length ≤ ls.flatten.length
  | [], k => by simp
  | p :: r, 0 => by simp
  | p :: r, k + 1 => by
    have := flatten_take_le r k
    simp only [List.take_succ_cons, List.flatten_cons, List.length_append]; omega
theorem jmp_iff {op : Int} : jmp op ↔ op = 6 ∨ op = 7 ∨ op = 8 := by unfold jmp; simp
theorem flatI_snoc (l : List Ins) (op a b : Int) : flatI (l ++ [(op, a, b)]) = flatI l ++ [i64 op, i64 a, i64 b] := by rw [flatI_append]; rfl
theorem map_take_snoc {p : List Ins} {k n : Nat} {x : Ins} (h : p[k]? = some x) : (p.take (k + 1)).map (mv n) = (p.take k).map (mv n) ++ [mv n x] := by
  rw [List.take_add_one, h]; simp
theorem joinF_take {ls : List (List Ins)} {i : Nat} {p : List Ins} (h : ls[i]? = some p) : joinF 0 (ls.take (i + 1)) = joinF 0 (ls.take i) ++ p.map (mv (joinF 0 (ls.take i)).length) := by
  rw [List.take_add_one, h, Option.toList_some, joinF_append, joinF_length]
  simp [joinF]
theorem join_calls (J : Heap) (lb : Option Addr) (ll lc : Nat) (vs : List Value) (ls : List (List Ins)) [Sl J lb vs] (h2 : ∀ (i : Nat) (l : List Ins), ls[i]? = some l → ∃ v, vs[i]? = some v ∧ PV [J] v l) (hl : ls.length = ll) (hv : vs.length = ll) (hsm : ll ≤ 100)
    (hlen : ls.flatten.length ≤ 1000) (hA : ∀ l ∈ ls, ∀ x ∈ l, -1000000 ≤ x.2.1 ∧ x.2.1 ≤ 1000000) :
    SL.T Try.prog 20 [.slice lb ll lc] [J] fun e o => ∃ N, o = J :: N ∧ ∃ h b c, N = [h] ∧ e = .returned (.slice b (joinF 0 ls).length c) ∧ OS h b (joinF 0 ls).length c 29 3 (flatI (joinF 0 ls)) := by
  refine t_of_body Try.func20 rfl (Nat.le_of_ble_eq_true rfl) fun F => ?_
  refine swp_emp ?_
  repeat' (first
    | refine swp_seq ?_
    | (refine gk 0 rfl ?_; first | refine sl_op rfl rfl rfl (by first | exact opv_assign rfl rfl ) ?_ )
    | refine sl_region rfl ?_
    | refine sl_nil ?_
    | refine thn_k ?_
    | refine swp_block ?_
    )
  refine swp_loopS (fun s : JW => [(0, .slice lb ll lc), (3, .slice s.b s.n s.c), (4, i64 (s.i : Int))])
    (fun s => [s.h, J]) (fun s => s.i ≤ ll ∧ s.n = (joinF 0 (ls.take s.i)).length ∧ OS s.h s.b s.n s.c 29 3 (flatI (joinF 0 (ls.take s.i)))) (fun s => ll - s.i) ⟨0, emp, none, 0, 0⟩ (by repeat first | exact Sub.nil _ | refine Sub.cons rfl ?_) ⟨Nat.zero_le _, rfl, OS.nil⟩ ?_
  rintro ⟨i, h, b, n, c⟩ ⟨hi, hn, os⟩
  dsimp only at hi hn os ⊢
  by_cases hi2 : i < ll
  · obtain ⟨p, hp⟩ : ∃ p, ls[i]? = some p := ⟨_, List.getElem?_eq_getElem (by omega)⟩
    obtain ⟨v, hvi, b2, c2, rfl, slp⟩ := h2 i p hp
    have hcv : vs[((i : Nat) : Int).toNat * 1]? = some (.slice b2 p.length c2) := by simpa using hvi
    have hql : ((i : Nat) : Int).toNat * 1 < vs.length := by omega
    have hjt := joinF_take hp
    have htot : (joinF 0 (ls.take (i + 1))).length ≤ 1000 := by
      rw [joinF_length]
      exact Nat.le_trans (flatten_take_le _ _) hlen
    have hjl : (joinF 0 (ls.take (i + 1))).length = n + p.length := by rw [hjt, hn]; simp
    have hpA := hA p (List.mem_of_getElem? hp)
    obtain ⟨hj, hjm, slJ⟩ := slp.mem
    rw [List.mem_singleton] at hjm
    subst hjm
    repeat' (first
      | refine swp_seq ?_
      | (refine gk 0 rfl ?_; first | refine sl_op rfl rfl rfl (by first | exact opv_move rfl rfl | exact opv_assign rfl rfl ) ?_ )
      | (refine gk 2 rfl ?_; first | refine sl_yes rfl rfl rfl (by first | exact opv_lss rfl rfl rfl ) (by first | omega ) ?_ )
      | (refine gk 4 rfl ?_; first | refine sl_op rfl rfl rfl (by first | exact opv_len rfl rfl rfl rfl rfl ) ?_)
      | refine sl_region rfl ?_
      | refine sl_nil ?_
      | refine thn_k ?_
      | refine swp_true rfl ?_
      | refine swp_block ?_
      | refine swp_skip ?_
      )
    refine swp_loopS (fun s : JK => [(0, .slice lb ll lc), (3, .slice s.b s.n s.c), (4, i64 (i : Int)), (5, i64 (n : Int)), (6, i64 (s.k : Int))])
      (fun s => [s.h, hj]) (fun s => s.k ≤ p.length ∧ s.n = n + s.k ∧ OS s.h s.b s.n s.c 29 3 (flatI (joinF 0 (ls.take i) ++ (p.take s.k).map (mv n)))) (fun s => p.length - s.k) ⟨0, h, b, n, c⟩ (by repeat first | exact Sub.nil _ | refine Sub.cons rfl ?_) ⟨Nat.zero_le _, rfl, by simpa using os⟩ ?_
    clear os
    rintro ⟨k, h, b, m, c⟩ ⟨hk, hm, os2⟩
    dsimp only at hk hm os2 ⊢
    by_cases hk2 : k < p.length
    · obtain ⟨⟨op, a, b0⟩, hx⟩ : ∃ x, p[k]? = some x := ⟨_, List.getElem?_eq_getElem hk2⟩
      obtain ⟨d0', d1', d2'⟩ := flatI_at hx
      have d0 : (flatI p)[((k : Nat) : Int).toNat * 3]? = some (i64 op) := d0'
      have d1 : (flatI p)[((k : Nat) : Int).toNat * 3 + 1]? = some (i64 a) := d1'
      have d2 : (flatI p)[((k : Nat) : Int).toNat * 3 + 2]? = some (i64 b0) := d2'
      clear d0' d1' d2'
      have hfl := flatI_length p
      have hq : ((k : Nat) : Int).toNat * 3 < (flatI p).length := by rw [hfl]; omega
      have hxA := hpA _ (List.mem_of_getElem? hx)
      dsimp only at hxA
      have hsn := map_take_snoc (n := n) hx
      by_cases hjm : jmp op
      · have hmv : mv n (op, a, b0) = (op, a + n, b0) := if_pos hjm
        rw [hmv] at hsn
        rcases jmp_iff.1 hjm with rfl | rfl | rfl
        · repeat' (first
            | refine swp_seq ?_
            | (refine gk 0 rfl ?_; first | refine sl_op rfl rfl rfl (by first | exact opv_move rfl rfl | exact opv_assign rfl rfl | exact opv_pick_t rfl rfl rfl ) ?_ )
            | (refine gk 1 rfl ?_; first | refine sl_op rfl rfl rfl (by first | exact opv_add64 rfl rfl rfl (by omega) (by omega) ) ?_ )
            | (refine gk 2 rfl ?_; first | refine sl_pass rfl rfl rfl rfl ?_ | refine sl_yes rfl rfl rfl (by first | exact opv_lss rfl rfl rfl | exact opv_eql rfl rfl rfl ) (by first | omega ) ?_ )
            | (refine gk 3 rfl ?_; first | refine sl_op rfl rfl rfl (by first | exact opv_load rfl (by exact rfl) rfl (by exact rfl) | exact opv_fieldAddr rfl rfl | exact opv_loadA rfl (by exact rfl) rfl (by exact rfl) (by exact rfl) | exact opv_indexAddrI rfl rfl rfl (by omega) (by omega) (by first | omega ) | exact opv_loadEx rfl (by exact rfl) (by infer_instance) (by first | assumption ) | exact opv_load3 rfl (by exact rfl) (by infer_instance) (by assumption) (by assumption) (by assumption)) ?_ | refine sl_pass rfl rfl rfl rfl ?_)
            | (refine gk 4 rfl ?_; first | refine sl_op rfl rfl rfl (by first | exact opv_len rfl rfl rfl rfl rfl ) ?_ | (refine sl_append rfl rfl rfl rfl rfl rfl rfl rfl rfl os2 (by decide) rfl (by decide) rfl (by omega) (by omega) (fun h3 b3 c3 os3 => ?_)))
            | (refine gk 5 rfl ?_; first | refine sl_buildSlice rfl rfl rfl rfl rfl (by exact rfl) (by exact rfl) (by exact rfl) (by exact rfl) rfl (fun b => ?_) | refine sl_alloc rfl rfl rfl rfl (by exact rfl) (fun β => ?_) | refine sl_store rfl rfl rfl rfl rfl rfl (by exact rfl) rfl (by exact rfl) ?_)
            | refine sl_region rfl ?_
            | refine sl_nil ?_
            | refine thn_k ?_
            | refine swp_true rfl ?_
            | refine swp_block ?_
            | refine swp_skip ?_
            )
          exact ⟨rfl, ⟨k + 1, h3, b3, m + 1, c3⟩, next_ok (by repeat first | exact Sub.nil _ | refine Sub.cons rfl ?_), ⟨hk2, by dsimp only; omega, by rw [hsn, ← List.append_assoc, flatI_snoc]; exact os3⟩, by dsimp only; omega⟩
        · repeat' (first
            | refine swp_seq ?_
            | (refine gk 0 rfl ?_; first | refine sl_op rfl rfl rfl (by first | exact opv_move rfl rfl | exact opv_assign rfl rfl | exact opv_pick_t rfl rfl rfl | exact opv_pick_f rfl rfl rfl ) ?_ )
            | (refine gk 1 rfl ?_; first | refine sl_op rfl rfl rfl (by first | exact opv_add64 rfl rfl rfl (by omega) (by omega) ) ?_ )
            | (refine gk 2 rfl ?_; first | refine sl_pass rfl rfl rfl rfl ?_ | refine sl_yes rfl rfl rfl (by first | exact opv_lss rfl rfl rfl | exact opv_eql rfl rfl rfl ) (by first | omega ) ?_ | refine sl_no rfl rfl rfl (by first | exact opv_eql rfl rfl rfl ) (by first | omega ) ?_ )
            | (refine gk 3 rfl ?_; first | refine sl_op rfl rfl rfl (by first | exact opv_load rfl (by exact rfl) rfl (by exact rfl) | exact opv_fieldAddr rfl rfl | exact opv_loadA rfl (by exact rfl) rfl (by exact rfl) (by exact rfl) | exact opv_indexAddrI rfl rfl rfl (by omega) (by omega) (by first | omega ) | exact opv_loadEx rfl (by exact rfl) (by infer_instance) (by first | assumption ) | exact opv_load3 rfl (by exact rfl) (by infer_instance) (by assumption) (by assumption) (by assumption)) ?_ | refine sl_pass rfl rfl rfl rfl ?_)
            | (refine gk 4 rfl ?_; first | refine sl_op rfl rfl rfl (by first | exact opv_len rfl rfl rfl rfl rfl ) ?_ | (refine sl_append rfl rfl rfl rfl rfl rfl rfl rfl rfl os2 (by decide) rfl (by decide) rfl (by omega) (by omega) (fun h3 b3 c3 os3 => ?_)))
            | (refine gk 5 rfl ?_; first | refine sl_buildSlice rfl rfl rfl rfl rfl (by exact rfl) (by exact rfl) (by exact rfl) (by exact rfl) rfl (fun b => ?_) | refine sl_alloc rfl rfl rfl rfl (by exact rfl) (fun β => ?_) | refine sl_store rfl rfl rfl rfl rfl rfl (by exact rfl) rfl (by exact rfl) ?_)
            | refine sl_region rfl ?_
            | refine sl_nil ?_
            | refine thn_k ?_
            | refine swp_true rfl ?_
            | refine swp_block ?_
            | refine swp_skip ?_
            )
          exact ⟨rfl, ⟨k + 1, h3, b3, m + 1, c3⟩, next_ok (by repeat first | exact Sub.nil _ | refine Sub.cons rfl ?_), ⟨hk2, by dsimp only; omega, by rw [hsn, ← List.append_assoc, flatI_snoc]; exact os3⟩, by dsimp only; omega⟩
        · repeat' (first
            | refine swp_seq ?_
            | (refine gk 0 rfl ?_; first | refine sl_op rfl rfl rfl (by first | exact opv_move rfl rfl | exact opv_assign rfl rfl | exact opv_pick_f rfl rfl rfl ) ?_ )
            | (refine gk 1 rfl ?_; first | refine sl_op rfl rfl rfl (by first | exact opv_add64 rfl rfl rfl (by omega) (by omega) ) ?_ )
            | (refine gk 2 rfl ?_; first | refine sl_yes rfl rfl rfl (by first | exact opv_lss rfl rfl rfl | exact opv_eql rfl rfl rfl ) (by first | omega ) ?_ | refine sl_no rfl rfl rfl (by first | exact opv_eql rfl rfl rfl ) (by first | omega ) ?_ )
            | (refine gk 3 rfl ?_; first | refine sl_op rfl rfl rfl (by first | exact opv_load rfl (by exact rfl) rfl (by exact rfl) | exact opv_fieldAddr rfl rfl | exact opv_loadA rfl (by exact rfl) rfl (by exact rfl) (by exact rfl) | exact opv_indexAddrI rfl rfl rfl (by omega) (by omega) (by first | omega ) | exact opv_loadEx rfl (by exact rfl) (by infer_instance) (by first | assumption ) | exact opv_load3 rfl (by exact rfl) (by infer_instance) (by assumption) (by assumption) (by assumption)) ?_ )
            | (refine gk 4 rfl ?_; first | refine sl_op rfl rfl rfl (by first | exact opv_len rfl rfl rfl rfl rfl ) ?_ | (refine sl_append rfl rfl rfl rfl rfl rfl rfl rfl rfl os2 (by decide) rfl (by decide) rfl (by omega) (by omega) (fun h3 b3 c3 os3 => ?_)))
            | (refine gk 5 rfl ?_; first | refine sl_buildSlice rfl rfl rfl rfl rfl (by exact rfl) (by exact rfl) (by exact rfl) (by exact rfl) rfl (fun b => ?_) | refine sl_alloc rfl rfl rfl rfl (by exact rfl) (fun β => ?_) | refine sl_store rfl rfl rfl rfl rfl rfl (by exact rfl) rfl (by exact rfl) ?_)
            | refine sl_region rfl ?_
            | refine sl_nil ?_
            | refine thn_k ?_
            | refine swp_true rfl ?_
            | refine swp_block ?_
            | refine swp_skip ?_
            )
          exact ⟨rfl, ⟨k + 1, h3, b3, m + 1, c3⟩, next_ok (by repeat first | exact Sub.nil _ | refine Sub.cons rfl ?_), ⟨hk2, by dsimp only; omega, by rw [hsn, ← List.append_assoc, flatI_snoc]; exact os3⟩, by dsimp only; omega⟩
      · have hmv : mv n (op, a, b0) = (op, a, b0) := if_neg hjm
        rw [hmv] at hsn
        have hjn := mt jmp_iff.2 hjm
        repeat' (first
          | refine swp_seq ?_
          | (refine gk 0 rfl ?_; first | refine sl_op rfl rfl rfl (by first | exact opv_move rfl rfl | exact opv_assign rfl rfl | exact opv_pick_f rfl rfl rfl ) ?_ )
          | (refine gk 1 rfl ?_; first | refine sl_op rfl rfl rfl (by first | exact opv_add64 rfl rfl rfl (by omega) (by omega) ) ?_ )
          | (refine gk 2 rfl ?_; first | refine sl_yes rfl rfl rfl (by first | exact opv_lss rfl rfl rfl | exact opv_eql rfl rfl rfl ) (by first | omega ) ?_ | refine sl_no rfl rfl rfl (by first | exact opv_eql rfl rfl rfl ) (by first | omega ) ?_ )
          | (refine gk 3 rfl ?_; first | refine sl_op rfl rfl rfl (by first | exact opv_load rfl (by exact rfl) rfl (by exact rfl) | exact opv_fieldAddr rfl rfl | exact opv_loadA rfl (by exact rfl) rfl (by exact rfl) (by exact rfl) | exact opv_indexAddrI rfl rfl rfl (by omega) (by omega) (by first | omega ) | exact opv_loadEx rfl (by exact rfl) (by infer_instance) (by first | assumption ) | exact opv_load3 rfl (by exact rfl) (by infer_instance) (by assumption) (by assumption) (by assumption)) ?_ )
          | (refine gk 4 rfl ?_; first | refine sl_op rfl rfl rfl (by first | exact opv_len rfl rfl rfl rfl rfl ) ?_ | (refine sl_append rfl rfl rfl rfl rfl rfl rfl rfl rfl os2 (by decide) rfl (by decide) rfl (by omega) (by omega) (fun h3 b3 c3 os3 => ?_)))
          | (refine gk 5 rfl ?_; first | refine sl_buildSlice rfl rfl rfl rfl rfl (by exact rfl) (by exact rfl) (by exact rfl) (by exact rfl) rfl (fun b => ?_) | refine sl_alloc rfl rfl rfl rfl (by exact rfl) (fun β => ?_) | refine sl_store rfl rfl rfl rfl rfl rfl (by exact rfl) rfl (by exact rfl) ?_)
          | refine sl_region rfl ?_
          | refine sl_nil ?_
          | refine thn_k ?_
          | refine swp_true rfl ?_
          | refine swp_false rfl ?_
          | refine swp_block ?_
          | refine swp_skip ?_
          )
        exact ⟨rfl, ⟨k + 1, h3, b3, m + 1, c3⟩, next_ok (by repeat first | exact Sub.nil _ | refine Sub.cons rfl ?_), ⟨hk2, by dsimp only; omega, by rw [hsn, ← List.append_assoc, flatI_snoc]; exact os3⟩, by dsimp only; omega⟩
    · have hkp : k = p.length := by omega
      repeat' (first
        | refine swp_seq ?_
        | (refine gk 0 rfl ?_; first | refine sl_op rfl rfl rfl (by first | exact opv_move rfl rfl | exact opv_assign rfl rfl ) ?_ )
        | (refine gk 1 rfl ?_; first | refine sl_op rfl rfl rfl (by first | exact opv_add64 rfl rfl rfl (by omega) (by omega) ) ?_ )
        | (refine gk 2 rfl ?_; first | refine sl_no rfl rfl rfl (by first | exact opv_lss rfl rfl rfl ) (by first | omega ) ?_ )
        | (refine gk 3 rfl ?_; first | refine sl_op rfl rfl rfl (by first | exact opv_indexAddrI rfl rfl rfl (by omega) (by omega) (by first | omega ) | exact opv_loadEx rfl (by exact rfl) (by infer_instance) (by first | assumption ) ) ?_ )
        | (refine gk 4 rfl ?_; first | refine sl_op rfl rfl rfl (by first | exact opv_len rfl rfl rfl rfl rfl ) ?_)
        | refine sl_region rfl ?_
        | refine sl_nil ?_
        | refine thn_k ?_
        | refine swp_false rfl ?_
        | refine swp_exit ?_
        )
      refine ⟨rfl, ⟨i + 1, h, b, m, c⟩, next_ok (by repeat first | exact Sub.nil _ | refine Sub.cons rfl ?_), ⟨hi2, by dsimp only; omega, ?_⟩, by dsimp only; omega⟩
      dsimp only
      rw [hjt, ← hn]
      rw [hkp, List.take_length] at os2
      exact os2
  · have hil : i = ll := by omega
    rw [hil, ← hl, List.take_length] at os hn
    subst hn
    repeat' (first
      | refine swp_seq ?_
      | (refine gk 0 rfl ?_; first | refine sl_op rfl rfl rfl (by first | exact opv_move rfl rfl | exact opv_assign rfl rfl ) ?_ )
      | (refine gk 2 rfl ?_; first | refine sl_no rfl rfl rfl (by first | exact opv_lss rfl rfl rfl ) (by first | omega ) ?_ )
      | (refine gk 4 rfl ?_; first | refine sl_op rfl rfl rfl (by first | exact opv_len rfl rfl rfl rfl rfl ) ?_)
      | refine sl_region rfl ?_
      | refine sl_nil ?_
      | refine thn_k ?_
      | refine swp_false rfl ?_
      | refine swp_ret ?_
      | refine swp_exit ?_
      )
    exact end_retL [J, h] (resOk_one (resV_tmp rfl)) ⟨[h], rfl, h, b, c, rfl, rfl, os⟩
inductive PVs (own : List Heap) : List Value → List (List Ins) → Prop
  | nil : PVs own [] []
  | cons {v : Value} {vs : List Value} {l : List Ins} {ls : List (List Ins)} (h : PV own v l) (r : PVs own vs ls) : PVs own (v :: vs) (l :: ls)
theorem PVs.len {own : List Heap} : ∀ {vs : List Value} {ls : List (List Ins)}, PVs own vs ls → vs.length = ls.length
  | _, _, .nil => rfl
  | _, _, .cons _ r => by simp [r.len]
theorem PVs.at {own : List Heap} : ∀ {vs : List Value} {ls : List (List Ins)}, PVs own vs ls → ∀ {i : Nat} {l : List Ins}, ls[i]? = some l → ∃ v, vs[i]? = some v ∧ PV own v l
  | _, _, .nil, i, l, h => by simp at h
  | _, _, .cons h r, 0, l, e => by simp at e; subst e; exact ⟨_, rfl, h⟩
  | _, _, .cons h r, i + 1, l, e => by simp at e; simpa using r.at e
theorem join_W (own : List Heap) (lb : Option Addr) (ll lc : Nat) (vs : List Value) (ls : List (List Ins)) [s : SlIn own lb vs] (h2 : PVs own vs ls) (hl : ls.length = ll) (hsm : ll ≤ 100)
    (hlen : ls.flatten.length ≤ 1000) (hA : ∀ l ∈ ls, ∀ x ∈ l, -1000000 ≤ x.2.1 ∧ x.2.1 ≤ 1000000) :
    SL.T Try.prog 20 [.slice lb ll lc] own fun e o => ∃ N, o = own ++ N ∧ ∃ h b c, N = [h] ∧ e = .returned (.slice b (joinF 0 ls).length c) ∧ OS h b (joinF 0 ls).length c 29 3 (flatI (joinF 0 ls)) :=
  T_whole fun J hJ => by
    haveI := s.all hJ
    refine join_calls J lb ll lc vs ls (fun i l hl => ?_) hl (by rw [← hl]; exact h2.len) hsm hlen hA
    obtain ⟨v, hv, b, c, e, sl⟩ := h2.at hl
    exact ⟨v, hv, b, c, e, ⟨J, List.mem_singleton_self _, sl.all hJ⟩⟩
end Go.Proofs.Ytifhhfeibnpaoaa
