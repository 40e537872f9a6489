/- The stacks of a method, walked. -/
import Derived.Test.YtifhhfeibnpaoaaWA14
namespace Go.Proofs.Ytifhhfeibnpaoaa
open Go.SL
set_option maxRecDepth 100000
set_option maxHeartbeats 16000000
theorem Clone_raw (own : List Heap) (b : Option Addr) (n c : Nat) (xs : List Int) [SlIn own b (xs.map i64)] (h1 : xs.length = n) (hsm : n ≤ 4000000) :
    SL.T Try.prog 32 [.slice b n c] own fun e o => ∃ h b' c', o = h :: own ∧ e = .returned (.slice b' n c') ∧ OS h b' n c' 3 1 (xs.map i64) := by
  intro w X s
  rcases Nat.eq_zero_or_pos n with h0 | hp
  · subst h0
    obtain rfl : xs = [] := List.length_eq_zero_iff.1 h1
    rcases b with _ | a
    · refine (Try.slices_Clone_int_nil 0 c w).mono ?_
      rintro e w' ⟨h1, h2⟩
      subst h2
      exact ⟨emp :: own, ⟨fun h hh => by
        rcases List.mem_cons.1 hh with rfl | hh
        · intro b o e; cases e
        · exact s.le h hh, List.pairwise_cons.2 ⟨fun _ _ _ _ _ e _ => (by cases e), s.dj⟩⟩, emp, none, 0, rfl, h1, OS.nil⟩
    · refine (Try.slices_Clone_int_zero a c w).mono ?_
      rintro e w' ⟨v, h1, h2, -, h4⟩
      obtain ⟨h, b', c', rfl, os, s'⟩ := owns_row s h4 h2
      exact ⟨h :: own, s', h, b', c', rfl, h1, os⟩
  · obtain ⟨bb, off, rfl, hc⟩ := SlIn.rowc (own := own) (b := b) h1 hp
    have := Try.slices_Clone_int bb off n c xs w (by omega) (by omega) (hc X w s)
    rw [List.take_of_length_le (by omega)] at this
    refine this.mono ?_
    rintro e w' ⟨v, h1, h2, -, h4⟩
    obtain ⟨h, b', c', rfl, os, s'⟩ := owns_row s h4 h2
    exact ⟨h :: own, s', h, b', c', rfl, h1, os⟩
attribute [local irreducible] SL.T PFn OpV SOL SWP HOp ChU
theorem Clone_K (K : Heap) (b : Option Addr) (n c : Nat) (xs : List Int) [slK : Sl K b (xs.map i64)] (h1 : xs.length = n) (hsm : n ≤ 4000000) :
    SL.T Try.prog 32 [.slice b n c] [K] fun e o => ∃ K', o = [K'] ∧ hle K K' ∧ ∃ b' c', e = .returned (.slice b' n c') ∧ Sl K' b' (xs.map i64) ∧ n ≤ c' := by
  refine (T_joinP (R := fun e A N => A = [] ∧ ∃ h b' c', N = [h, K] ∧ e = .returned (.slice b' n c') ∧ OS h b' n c' 3 1 (xs.map i64)) ((Clone_raw [K] b n c xs h1 hsm).mono ?_)).mono ?_
  · rintro e o ⟨h, b', c', rfl, rfl, os⟩
    exact ⟨[], [h, K], List.Perm.refl _, rfl, h, b', c', rfl, rfl, os⟩
  · rintro e o ⟨A, N, K', rfl, hK, rfl, h, b', c', rfl, rfl, os⟩
    exact ⟨K', rfl, hK K (by simp), b', c', rfl, os.sl.mono (hK h (by simp)), os.hle⟩
/-- A row of stacks. -/
def Rows (K : Heap) (stk : Int → List Int) (k : Nat) (vals : List Value) : Prop := ∀ t : Nat, t < k → ∃ b m c, vals[t]? = some (.slice b m c) ∧ Sl K b ((stk t).map i64) ∧ (stk t).length = m ∧ m ≤ 8 ∧ m ≤ c
theorem Rows.mono {K K' : Heap} {stk : Int → List Int} {k : Nat} {vals : List Value} (h : Rows K stk k vals) (hK : hle K K') : Rows K' stk k vals := fun t ht => by
  obtain ⟨b, m, c, h1, h2, h3⟩ := h t ht; exact ⟨b, m, c, h1, h2.mono hK, h3⟩
theorem Rows.set {K : Heap} {stk : Int → List Int} {k : Nat} {vals : List Value} (h : Rows K stk k vals) (hk : k < vals.length) {b : Option Addr} {m c : Nat} (sl : Sl K b ((stk k).map i64)) (h1 : (stk k).length = m) (h2 : m ≤ 8) (h3 : m ≤ c) : Rows K stk (k + 1) (vals.set k (.slice b m c)) := fun t ht => by
  by_cases e : t = k
  · subst e; exact ⟨b, m, c, by simp [hk], sl, h1, h2, h3⟩
  · obtain ⟨b, m, c, g1, g2⟩ := h t (by omega)
    exact ⟨b, m, c, by rw [List.getElem?_set_ne (Ne.symm e)]; exact g1, g2⟩
theorem set_val {gs : List Value} {k j : Nat} {z : Value} (e : k = j) (hk : j < gs.length) : gs.take k ++ [z] ++ gs.drop (k + 1) = gs.set j z := by
  subst e
  rw [List.set_eq_take_append_cons_drop, if_pos hk]
  simp
structure SW where
  k : Nat
  hS : Heap
  K : Heap
  vals : List Value
theorem Stacks_res (J : Heap) (p : Value) (lo st : Int) (cb : Option Addr) (cl cc : Nat) (cs : List Ins) [iJ : Sl J cb (flatI cs)] (hl : cs.length = cl) (hsm : cl ≤ 1000000) :
    SL.T Try.prog 12 [mth p lo st cb cl cc] [J] fun e o => ∃ N, o = J :: N ∧ ∃ hS K sb n vals, N = [hS, K] ∧ e = .returned (.slice sb n n) ∧ OS hS sb n n 47 1 vals ∧ (0 ≤ wrG cs → n = 0) ∧ (¬ 0 ≤ wrG cs → n = cl ∧ Rows K (endG cs).stk cl vals) ∧ (endG cs).res = some (wrG cs) := by
  refine t_of_body Try.func12 rfl (Nat.le_of_ble_eq_true rfl) fun F => ?_
  refine swp_emp ?_
  repeat' (first
    | refine sl_makeSlice (m := cl) rfl rfl rfl rfl rfl rfl rfl (by omega) (by omega) (fun b1 hS1 os1 => ?_)
    | refine swp_seq ?_
    | (refine gk 0 rfl ?_; first | refine sl_op rfl rfl rfl (by first | exact opv_move rfl rfl | exact opv_assign rfl rfl ) ?_ )
    | (refine gk 2 rfl ?_; first | refine sl_if rfl rfl rfl (by first | exact opv_geq rfl rfl rfl ) (fun h => ?_) (fun h => ?_) )
    | (refine gk 3 rfl ?_; first | refine sl_op rfl rfl rfl (by first | exact opv_load rfl (by exact rfl) rfl (by exact rfl) | exact opv_fieldAddr rfl rfl | exact opv_loadA rfl (by exact rfl) rfl (by exact rfl) (by exact rfl) ) ?_ )
    | (refine gk 4 rfl ?_; first | refine sl_op rfl rfl rfl (by first | exact opv_len rfl rfl rfl rfl rfl ) ?_ | (refine sl_callT rfl rfl rfl rfl rfl rfl rfl rfl (gone_calls J p lo st cb cl cc cs hl hsm) ?_; rintro _ _ ⟨K, hM, βw, bm, ob, on, oc, f, rfl, rfl, mp, hE, hS⟩; refine ⟨_, _, rfl, rfl, ?_⟩))
    | (refine gk 5 rfl ?_; first | refine sl_op rfl rfl rfl (by first | exact opv_nilCheck rfl rfl ) ?_ | refine sl_box rfl rfl rfl rfl rfl rfl (fun β => ?_) )
    | refine sl_region rfl ?_
    | refine sl_nil ?_
    | refine thn_k ?_
    | refine swp_true rfl ?_
    | refine swp_false rfl ?_
    | refine swp_block ?_
    | refine swp_ret ?_
    | refine swp_skip ?_
    | refine thn_ret ?_
    )
  · exact end_retL [J, emp, K] (resOk_one (resV_tmp rfl)) ⟨[emp, K], rfl, emp, K, none, 0, [], rfl, rfl, OS.nil, fun _ => rfl, fun h => absurd (by assumption) h, hE⟩
  · refine swp_loopS (fun s : SW => [(3, .pointer (some ⟨βw, 0, none⟩)), (4, .slice (some ⟨b1, 0, none⟩) cl cl), (18, i64 (cl : Int)), (19, i64 (s.k : Int))])
      (fun s => [wBlk βw p lo st cb cl cc bm ob on oc (wrG cs), hM, s.hS, s.K, J])
      (fun s => s.k ≤ cl ∧ OS s.hS (some ⟨b1, 0, none⟩) cl cl 47 1 s.vals ∧ Rows s.K (endG cs).stk s.k s.vals ∧ hle K s.K) (fun s => cl - s.k) ⟨0, hS1, K, _⟩ (by repeat first | exact Sub.nil _ | refine Sub.cons rfl ?_) ⟨Nat.zero_le _, os1, fun t ht => absurd ht (Nat.not_lt_zero _), hle.refl _⟩ ?_
    clear os1
    rintro ⟨k, hS2, K2, vals⟩ ⟨hk, os, hR, hK⟩
    dsimp only at hk os hR hK ⊢
    have hvl : vals.length = cl := by simpa using os.hlen
    haveI slS := os.sl
    by_cases hk2 : k < cl
    · rcases hS (k : Int) (by omega) (by omega) with ⟨hf, hs⟩ | ⟨b, n, c, hf, sl, hn, hc, h8⟩
      · have hC := Clone_K K2 none 0 0 [] rfl (by omega)
        have hC : SL.T Try.prog 32 [.slice none 0 0] [K2] _ := hC
        repeat' (first
          | refine sl_op rfl rfl rfl (opv_lookN mp rfl rfl rfl hf) ?_
          | refine sl_storeE rfl rfl rfl rfl rfl os rfl rfl rfl (Nat.succ_pos _) (by simp; omega) (set_val (j := k) (by simp) (by omega)) (fun h3 os3 => ?_)
          | refine swp_seq ?_
          | (refine gk 0 rfl ?_; first | refine sl_op rfl rfl rfl (by first | exact opv_move rfl rfl | exact opv_assign rfl rfl ) ?_ )
          | (refine gk 1 rfl ?_; first | refine sl_op rfl rfl rfl (by first | exact opv_add64 rfl rfl rfl (by omega) (by omega) ) ?_ )
          | (refine gk 2 rfl ?_; first | refine sl_yes rfl rfl rfl (by first | exact opv_lss rfl rfl rfl ) (by first | omega ) ?_ )
          | (refine gk 3 rfl ?_; first | refine sl_op rfl rfl rfl (by first | exact opv_load rfl (by exact rfl) rfl (by exact rfl) | exact opv_fieldAddr rfl rfl | exact opv_indexAddrI rfl rfl rfl (by omega) (by omega) (by first | omega ) ) ?_ )
          | (refine gk 4 rfl ?_; first | (refine sl_callT rfl rfl rfl rfl rfl rfl rfl rfl (hC) ?_; rintro _ _ ⟨K', rfl, hK2, b', c', rfl, slC, hcC⟩; refine ⟨_, _, rfl, rfl, ?_⟩))
          | (refine gk 5 rfl ?_; first | refine sl_op rfl rfl rfl (by first | exact opv_nilCheck rfl rfl ) ?_ )
          | refine sl_region rfl ?_
          | refine sl_nil ?_
          | refine thn_k ?_
          | refine swp_true rfl ?_
          | refine swp_block ?_
          | refine swp_skip ?_
          )
        exact ⟨rfl, ⟨k + 1, h3, K', _⟩, next_ok (by repeat first | exact Sub.nil _ | refine Sub.cons rfl ?_), ⟨hk2, os3, (hR.mono hK2).set (by omega) (by rw [hs]; exact slC) (by rw [hs]; rfl) (by omega) hcC, hK.trans hK2⟩, by dsimp only; omega⟩
      · haveI := sl.mono hK
        have hC := Clone_K K2 b n c _ hn (by omega)
        repeat' (first
          | refine sl_op rfl rfl rfl (opv_lookS mp rfl rfl rfl hf) ?_
          | refine sl_storeE rfl rfl rfl rfl rfl os rfl rfl rfl (Nat.succ_pos _) (by simp; omega) (set_val (j := k) (by simp) (by omega)) (fun h3 os3 => ?_)
          | refine swp_seq ?_
          | (refine gk 0 rfl ?_; first | refine sl_op rfl rfl rfl (by first | exact opv_move rfl rfl | exact opv_assign rfl rfl ) ?_ )
          | (refine gk 1 rfl ?_; first | refine sl_op rfl rfl rfl (by first | exact opv_add64 rfl rfl rfl (by omega) (by omega) ) ?_ )
          | (refine gk 2 rfl ?_; first | refine sl_yes rfl rfl rfl (by first | exact opv_lss rfl rfl rfl ) (by first | omega ) ?_ )
          | (refine gk 3 rfl ?_; first | refine sl_op rfl rfl rfl (by first | exact opv_load rfl (by exact rfl) rfl (by exact rfl) | exact opv_fieldAddr rfl rfl | exact opv_indexAddrI rfl rfl rfl (by omega) (by omega) (by first | omega ) ) ?_ )
          | (refine gk 4 rfl ?_; first | (refine sl_callT rfl rfl rfl rfl rfl rfl rfl rfl (hC) ?_; rintro _ _ ⟨K', rfl, hK2, b', c', rfl, slC, hcC⟩; refine ⟨_, _, rfl, rfl, ?_⟩))
          | (refine gk 5 rfl ?_; first | refine sl_op rfl rfl rfl (by first | exact opv_nilCheck rfl rfl ) ?_ )
          | refine sl_region rfl ?_
          | refine sl_nil ?_
          | refine thn_k ?_
          | refine swp_true rfl ?_
          | refine swp_block ?_
          | refine swp_skip ?_
          )
        exact ⟨rfl, ⟨k + 1, h3, K', _⟩, next_ok (by repeat first | exact Sub.nil _ | refine Sub.cons rfl ?_), ⟨hk2, os3, (hR.mono hK2).set (by omega) slC hn h8 hcC, hK.trans hK2⟩, by dsimp only; omega⟩
    · obtain rfl : k = cl := by omega
      repeat' (first
        | refine swp_seq ?_
        | (refine gk 0 rfl ?_; first | refine sl_op rfl rfl rfl (by first | exact opv_move rfl rfl | exact opv_assign rfl rfl ) ?_ )
        | (refine gk 2 rfl ?_; first | refine sl_no rfl rfl rfl (by first | exact opv_lss rfl rfl rfl ) (by first | omega ) ?_ )
        | refine sl_region rfl ?_
        | refine sl_nil ?_
        | refine thn_k ?_
        | refine swp_false rfl ?_
        | refine swp_ret ?_
        | refine swp_exit ?_
        )
      exact end_retL [J, hS2, K2] (resOk_one (resV_tmp rfl)) ⟨[hS2, K2], rfl, hS2, K2, _, k, vals, rfl, rfl, os, fun h => absurd h (by assumption), fun _ => ⟨rfl, hR⟩, hE⟩
theorem Stacks_calls (J : Heap) (p : Value) (lo st : Int) (cb : Option Addr) (cl cc : Nat) (cs : List Ins) [iJ : Sl J cb (flatI cs)] (hl : cs.length = cl) (hsm : cl ≤ 1000000) :
    SL.T Try.prog 12 [mth p lo st cb cl cc] [J] fun e o => ∃ N, o = J :: N ∧ ∃ hS K sb n vals, N = [hS, K] ∧ e = .returned (.slice sb n n) ∧ OS hS sb n n 47 1 vals ∧ (0 ≤ wrG cs → n = 0) ∧ (¬ 0 ≤ wrG cs → n = cl ∧ Rows K (endG cs).stk cl vals) :=
  (Stacks_res J p lo st cb cl cc cs hl hsm).mono fun e o ⟨N, e1, hS, K, sb, n, vals, e2, e3, e4, e5, e6, _⟩ => ⟨N, e1, hS, K, sb, n, vals, e2, e3, e4, e5, e6⟩
end Go.Proofs.Ytifhhfeibnpaoaa
