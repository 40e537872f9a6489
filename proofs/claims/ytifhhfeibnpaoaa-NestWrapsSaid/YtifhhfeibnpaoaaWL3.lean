/- The law NestWraps, walked. -/
import Derived.Test.YtifhhfeibnpaoaaWD4
import Derived.Test.YtifhhfeibnpaoaaWA15
import Derived.Test.YtifhhfeibnpaoaaWRZ
import Derived.Test.YtifhhfeibnpaoaaWP5
import Derived.Test.YtifhhfeibnpaoaaSlG8
namespace Go.Proofs.Ytifhhfeibnpaoaa
open Go.SL
set_option maxRecDepth 100000
set_option maxHeartbeats 16000000
set_option linter.unusedVariables false
attribute [local irreducible] SL.T PFn OpV SOL SWP HOp ChU
abbrev dV3 (bb : Option Addr) (bl bc : Nat) (odd at8 x0 x1 : Value) (a : Int) : Value := .agg ⟨[.slice bb bl bc, odd, at8, x0, x1, i64 a]⟩
def headF (l : List Ins) (k : Nat) : List Ins := [(2, 7, 0), (12, 0, 0)] ++ (l.take k).map (mv 2)
theorem headF_length {l : List Ins} {k : Nat} (h : k ≤ l.length) : (headF l k).length = k + 2 := by
  unfold headF; simp; omega
theorem headF_succ {l : List Ins} {k : Nat} {x : Ins} (h : l[k]? = some x) : headF l (k + 1) = headF l k ++ [mv 2 x] := by
  unfold headF; rw [map_take_snoc h, List.append_assoc]
theorem headF_end {l : List Ins} {n : Nat} : headF l n ++ [(2, 7, 0), (13, 0, 0), (0, 0, 0), (20, 0, 0)] = wrapF (l.take n) := by
  unfold headF wrapF; rfl
theorem rSame_w (own : List Heap) (b1 b2 : Option Addr) (n1 n2 c1 c2 : Nat) (xs : List Int) [s1 : SlIn own b1 (xs.map i64)] [s2 : SlIn own b2 (xs.map i64)] (h1 : xs.length = n1) (h2 : xs.length = n2) (hsm : n1 ≤ 9223372036854775807) :
    PFn Try.prog 13 [.slice b1 n1 c1, .slice b2 n2 c2] own (.bool true) := by
  have := rSame_calls own b1 b2 n1 n2 c1 c2 xs xs h1 h2 hsm
  rwa [decide_eq_true rfl] at this
structure SWr where
  k : Nat
  h : Heap
  b : Option Addr
  c : Nat
  m : Int
theorem NestWraps_calls (J : Heap) (bb : Option Addr) (bl bc : Nat) (B : List Int) (odd : Bool) (at8 x0 x1 v0 : Int)
    [sB : Sl J bb (B.map u8)] (hB : ∀ x ∈ B, 0 ≤ x ∧ x ≤ 255) (hBl : B.length = bl) (hbc : bl ≤ bc) (hbs : bl ≤ 9223372036854775807)
    (ha : 0 ≤ at8 ∧ at8 ≤ 255) (hx0 : 0 ≤ x0 ∧ x0 ≤ 255) (hx1 : 0 ≤ x1 ∧ x1 ≤ 255) : PFn Try.prog 5 [dV3 bb bl bc (.bool odd) (u8 at8) (u8 x0) (u8 x1) v0] [J] (.bool true) := by
  obtain ⟨nb, hnb⟩ : ∃ n : Nat, n = (min (bl : Int) 200).toNat := ⟨_, rfl⟩
  have hnb1 : nb ≤ bl := by omega
  haveI sB2 : Sl J bb ((B.take nb).map u8) := by rw [List.map_take]; exact Sl.take sB _
  have hbl : (B.take nb).length = nb := by rw [List.length_take]; omega
  have hB2 : ∀ x ∈ B.take nb, 0 ≤ x ∧ x ≤ 255 := fun x hx => hB x (List.mem_of_mem_take hx)
  obtain ⟨mc, hmc⟩ : ∃ mc, mc = drawF (B.take nb) := ⟨_, rfl⟩
  have hml : mc.length ≤ 102 := by rw [hmc]; exact drawF_lt hB2
  obtain ⟨n, hn⟩ : ∃ n, mc.length = n + 2 := by rw [hmc, drawF_len]; exact ⟨_, rfl⟩
  have hlaw := wrap_law hB2 (n := n) (by rw [← hmc]; exact hn)
  rw [← hmc] at hlaw
  have hright : (endG mc).res = some (wrG mc) → wrG mc = -1 := fun he => by rw [hmc] at he ⊢; exact drawF_right hB2 he
  have hlen6 : (endG mc).res = some (wrG mc) → ∀ i : Nat, ((endG mc).stk (i : Int)).length ≤ 6 := fun he => by rw [hmc] at he ⊢; exact draw_len hB2 he
  have hlim : Lim mc := by rw [hmc]; exact drawF_lim hB2
  refine pure_of_body Try.func5 rfl (Nat.le_of_ble_eq_true rfl) fun F => ?_
  repeat' (first
    | refine swp_seq ?_
    | (refine gk 0 rfl ?_; first | refine sl_op rfl rfl rfl (by first | exact opv_assign rfl rfl | exact opv_not_t rfl rfl ) ?_ )
    | (refine gk 3 rfl ?_; first | refine sl_op rfl rfl rfl (by first | exact opv_load rfl (by exact rfl) rfl (by exact rfl) | exact opv_fieldAddr rfl rfl ) ?_ )
    | (refine gk 4 rfl ?_; first | refine sl_op rfl rfl rfl (by first | exact opv_len rfl rfl rfl rfl rfl | exact opv_min rfl rfl rfl rfl rfl ) ?_ | refine sl_op rfl rfl rfl (opv_call rfl rfl rfl rfl rfl (run14)) ?_)
    | (refine gk 5 rfl ?_; first | refine sl_op rfl rfl rfl (by first | exact opv_sliceHi rfl rfl rfl (by omega) (by omega) ) ?_ | refine sl_box rfl rfl rfl rfl rfl rfl (fun β => ?_) | refine sl_store rfl rfl rfl rfl rfl rfl (by exact rfl) rfl (by exact rfl) ?_)
    | refine sl_region rfl ?_
    | refine sl_nil ?_
    | refine thn_k ?_
    | refine swp_false rfl ?_
    | refine swp_skip ?_
    )
  rw [← hnb]
  have hcall := Method_calls J β bb nb bc (B.take nb) hbl hB2 false at8 x0 x1 v0 ha hx0 hx1
  have hme : methF (B.take nb) false at8 x0 x1 = mc := by rw [hmc]; rfl
  rw [hme] at hcall
  clear hmc hme
  have hC := fun (h : Heap) (b : Option Addr) (c : Nat) (sl : Sl h b (flatI mc)) => Check_calls h (.slice none 0 0) 8 8 b mc.length c mc rfl (by omega)
  have hSt := fun (h : Heap) (b : Option Addr) (c : Nat) (sl : Sl h b (flatI mc)) => Stacks_res h (.slice none 0 0) 8 8 b mc.length c mc rfl (by omega)
  repeat' (first
    | refine swp_seq ?_
    | (refine gk 0 rfl ?_; first | refine sl_op rfl rfl rfl (by first | exact opv_move rfl rfl | exact opv_assign rfl rfl | exact opv_pick_f rfl rfl rfl | exact opv_extract rfl rfl rfl ) ?_ )
    | (refine gk 1 rfl ?_; first | refine sl_op rfl rfl rfl (by first | exact opv_sub64 rfl rfl rfl (by omega) (by omega) ) ?_ )
    | (refine gk 2 rfl ?_; first | refine sl_no rfl rfl rfl (by first | exact opv_neq rfl rfl rfl) (by first | omega ) ?_ )
    | (refine gk 3 rfl ?_; first | refine sl_op rfl rfl rfl (by first | exact opv_load rfl (by exact rfl) rfl (by exact rfl) | exact opv_fieldAddr rfl rfl | exact opv_loadA rfl (by exact rfl) rfl (by exact rfl) (by exact rfl) ) ?_ )
    | (refine gk 4 rfl ?_; first | refine sl_op rfl rfl rfl (by first | exact opv_len rfl rfl rfl rfl rfl ) ?_ | (refine sl_callT rfl rfl rfl rfl rfl rfl rfl rfl (hcall) ?_; rintro _ _ ⟨hP, bP, cP, a3, rfl, rfl, osP⟩; (clear hcall; haveI slP := osP.sl; have hC := hC hP bP cP slP; have hSt := hSt hP bP cP slP); refine ⟨_, _, rfl, rfl, ?_⟩) | (refine sl_callT rfl rfl rfl rfl rfl rfl rfl rfl (hC) ?_; rintro _ _ ⟨_, rfl, rfl, rfl, hE⟩; (have e := hright hE; rw [e, if_neg (show ¬ (0 : Int) ≤ -1 by decide)]); refine ⟨_, _, rfl, rfl, ?_⟩) | (refine sl_callT rfl rfl rfl rfl rfl rfl rfl rfl (hSt) ?_; rintro _ _ ⟨_, rfl, hS, K1, sb, n1, vals, rfl, rfl, osS, hs1, hs2, hE2⟩; (clear hC hSt; obtain ⟨hn1, hR⟩ := hs2 (by rw [e]; decide); clear hs1 hs2; haveI slS := osS.sl); refine ⟨_, _, rfl, rfl, ?_⟩))
    | (refine gk 5 rfl ?_; first | refine sl_op rfl rfl rfl (by first | exact opv_build rfl rfl (by exact rfl) ) ?_ | refine sl_buildSlice rfl rfl rfl rfl rfl (by exact rfl) (by exact rfl) (by exact rfl) (by exact rfl) rfl (fun b => ?_) | refine sl_alloc rfl rfl rfl rfl (by exact rfl) (fun β => ?_) | refine sl_store rfl rfl rfl rfl rfl rfl (by exact rfl) rfl (by exact rfl) ?_)
    | refine sl_region rfl ?_
    | refine sl_nil ?_
    | refine thn_k ?_
    | refine swp_false rfl ?_
    | refine swp_block ?_
    | refine swp_skip ?_
    )
  have hn2 : (mc.length : Int) - 2 = (n : Int) := by omega
  rw [hn2]
  have hl6 := hlen6 hE
  obtain ⟨β3, hβ3⟩ : ∃ x, x = β := ⟨_, rfl⟩
  rw [← hβ3]
  have hvl1 : vals.length = n1 := by simpa using osS.hlen
  refine swp_loopS (fun s : SWr => [(3, .pointer (some ⟨β3, 0, none⟩)), (6, .slice sb n1 n1), (7, i64 (n : Int)), (8, .slice s.b (s.k + 2) s.c), (9, i64 s.m), (10, i64 (s.k : Int))])
    (fun s => [J, hP, blk β3 (.cells ⟨[.slice none 0 0, i64 8, i64 8, .slice bP mc.length cP]⟩ 32 (0, 0)), hS, K1, s.h]) (fun s => s.k ≤ n ∧ OS s.h s.b (s.k + 2) s.c 29 3 (flatI (headF mc s.k)) ∧ (0 ≤ s.m ∧ s.m ≤ 6)) (fun s => n - s.k) ⟨0, blk b (.cells ⟨[i64 2, i64 7, i64 0, i64 12, i64 0, i64 0]⟩ 29 (0, 0)), some ⟨b, 0, none⟩, 2, 0⟩ (by repeat first | exact Sub.nil _ | refine Sub.cons rfl ?_) ⟨Nat.zero_le _, OS.blk (cs := flatI [(2, 7, 0), (12, 0, 0)]) rfl, ⟨Int.le_refl _, (show (0 : Int) ≤ 6 by decide)⟩⟩ ?_
  rintro ⟨k, H, b, c, m⟩ ⟨hk, os, hm⟩
  dsimp only at hk os hm ⊢
  by_cases hk2 : k < n
  · obtain ⟨⟨op, a, b0⟩, hx⟩ : ∃ x, mc[k]? = some x := ⟨_, List.getElem?_eq_getElem (by omega)⟩
    obtain ⟨d0', d1', d2'⟩ := flatI_at hx
    have d0 : (flatI mc)[((k : Nat) : Int).toNat * 3]? = some (i64 op) := d0'
    have d1 : (flatI mc)[((k : Nat) : Int).toNat * 3 + 1]? = some (i64 a) := d1'
    have d2 : (flatI mc)[((k : Nat) : Int).toNat * 3 + 2]? = some (i64 b0) := d2'
    clear d0' d1' d2'
    have hfl := flatI_length mc
    have hq : ((k : Nat) : Int).toNat * 3 < (flatI mc).length := by rw [hfl]; omega
    have hla := hlim _ (List.mem_of_getElem? hx)
    dsimp only at hla
    have hsn := headF_succ hx
    obtain ⟨b1, m1, c1, g1, gs1, gl1, g8, gc1⟩ := hR k (by omega)
    have g6 := hl6 k
    have hc1 : vals[((k : Nat) : Int).toNat * 1]? = some (.slice b1 m1 c1) := by simpa using g1
    have hq1 : ((k : Nat) : Int).toNat * 1 < vals.length := by omega
    obtain ⟨m', hm'⟩ : ∃ m', m' = max m ((m1 : Nat) : Int) := ⟨_, rfl⟩
    have hm6 : 0 ≤ m' ∧ m' ≤ 6 := by omega
    by_cases hjm : jmp op
    · have hmv : mv 2 (op, a, b0) = (op, a + 2, b0) := mv_jmp hjm
      rw [hmv] at hsn
      rcases jmp_iff.1 hjm with rfl | rfl | rfl
      · repeat' (first
          | refine swp_seq ?_
          | (refine gk 0 rfl ?_; first | refine sl_op rfl rfl rfl (by first | exact opv_move rfl rfl | exact opv_assign rfl rfl | exact opv_pick_t rfl rfl rfl ) ?_ )
          | (refine gk 1 rfl ?_; first | refine sl_op rfl rfl rfl (by first | exact opv_add64 rfl rfl rfl (by omega) (by omega) ) ?_ )
          | (refine gk 2 rfl ?_; first | refine sl_pass rfl rfl rfl rfl ?_ | refine sl_yes rfl rfl rfl (by first | exact opv_lss rfl rfl rfl | exact opv_eql rfl rfl rfl ) (by first | omega ) ?_ )
          | (refine gk 3 rfl ?_; first | refine sl_op rfl rfl rfl (by first | exact opv_load rfl (by exact rfl) rfl (by exact rfl) | exact opv_fieldAddr rfl rfl | exact opv_loadA rfl (by exact rfl) rfl (by exact rfl) (by exact rfl) | exact opv_indexAddrI rfl rfl rfl (by omega) (by omega) (by first | omega ) | exact opv_loadEx rfl (by exact rfl) (by infer_instance) (by first | assumption ) | exact opv_load3 rfl (by exact rfl) (by infer_instance) (by assumption) (by assumption) (by assumption)) ?_ | refine sl_pass rfl rfl rfl rfl ?_)
          | (refine gk 4 rfl ?_; first | refine sl_op rfl rfl rfl (by first | exact opv_len rfl rfl rfl rfl rfl | exact opv_max rfl rfl rfl rfl rfl) ?_ | (refine sl_append rfl rfl rfl rfl rfl rfl rfl rfl rfl os (by decide) rfl (by decide) rfl (by omega) (by omega) (fun h3 b3 c3 os3 => ?_)))
          | (refine gk 5 rfl ?_; first | refine sl_buildSlice rfl rfl rfl rfl rfl (by exact rfl) (by exact rfl) (by exact rfl) (by exact rfl) rfl (fun b => ?_) | refine sl_alloc rfl rfl rfl rfl (by exact rfl) (fun β => ?_) | refine sl_store rfl rfl rfl rfl rfl rfl (by exact rfl) rfl (by exact rfl) ?_)
          | refine sl_region rfl ?_
          | refine sl_nil ?_
          | refine thn_k ?_
          | refine swp_true rfl ?_
          | refine swp_block ?_
          | refine swp_skip ?_
          )
        rw [show max m ((m1 : Nat) : Int) = m' from hm'.symm]
        exact ⟨rfl, ⟨k + 1, h3, b3, c3, m'⟩, next_ok (by repeat first | exact Sub.nil _ | refine Sub.cons rfl ?_), ⟨hk2, by rw [hsn, flatI_snoc]; exact os3, by dsimp only; omega⟩, by dsimp only; omega⟩
      · repeat' (first
          | refine swp_seq ?_
          | (refine gk 0 rfl ?_; first | refine sl_op rfl rfl rfl (by first | exact opv_move rfl rfl | exact opv_assign rfl rfl | exact opv_pick_t rfl rfl rfl | exact opv_pick_f rfl rfl rfl ) ?_ )
          | (refine gk 1 rfl ?_; first | refine sl_op rfl rfl rfl (by first | exact opv_add64 rfl rfl rfl (by omega) (by omega) ) ?_ )
          | (refine gk 2 rfl ?_; first | refine sl_pass rfl rfl rfl rfl ?_ | refine sl_yes rfl rfl rfl (by first | exact opv_lss rfl rfl rfl | exact opv_eql rfl rfl rfl ) (by first | omega ) ?_ | refine sl_no rfl rfl rfl (by first | exact opv_eql rfl rfl rfl ) (by first | omega ) ?_ )
          | (refine gk 3 rfl ?_; first | refine sl_op rfl rfl rfl (by first | exact opv_load rfl (by exact rfl) rfl (by exact rfl) | exact opv_fieldAddr rfl rfl | exact opv_loadA rfl (by exact rfl) rfl (by exact rfl) (by exact rfl) | exact opv_indexAddrI rfl rfl rfl (by omega) (by omega) (by first | omega ) | exact opv_loadEx rfl (by exact rfl) (by infer_instance) (by first | assumption ) | exact opv_load3 rfl (by exact rfl) (by infer_instance) (by assumption) (by assumption) (by assumption)) ?_ | refine sl_pass rfl rfl rfl rfl ?_)
          | (refine gk 4 rfl ?_; first | refine sl_op rfl rfl rfl (by first | exact opv_len rfl rfl rfl rfl rfl | exact opv_max rfl rfl rfl rfl rfl) ?_ | (refine sl_append rfl rfl rfl rfl rfl rfl rfl rfl rfl os (by decide) rfl (by decide) rfl (by omega) (by omega) (fun h3 b3 c3 os3 => ?_)))
          | (refine gk 5 rfl ?_; first | refine sl_buildSlice rfl rfl rfl rfl rfl (by exact rfl) (by exact rfl) (by exact rfl) (by exact rfl) rfl (fun b => ?_) | refine sl_alloc rfl rfl rfl rfl (by exact rfl) (fun β => ?_) | refine sl_store rfl rfl rfl rfl rfl rfl (by exact rfl) rfl (by exact rfl) ?_)
          | refine sl_region rfl ?_
          | refine sl_nil ?_
          | refine thn_k ?_
          | refine swp_true rfl ?_
          | refine swp_block ?_
          | refine swp_skip ?_
          )
        rw [show max m ((m1 : Nat) : Int) = m' from hm'.symm]
        exact ⟨rfl, ⟨k + 1, h3, b3, c3, m'⟩, next_ok (by repeat first | exact Sub.nil _ | refine Sub.cons rfl ?_), ⟨hk2, by rw [hsn, flatI_snoc]; exact os3, by dsimp only; omega⟩, by dsimp only; omega⟩
      · repeat' (first
          | refine swp_seq ?_
          | (refine gk 0 rfl ?_; first | refine sl_op rfl rfl rfl (by first | exact opv_move rfl rfl | exact opv_assign rfl rfl | exact opv_pick_f rfl rfl rfl ) ?_ )
          | (refine gk 1 rfl ?_; first | refine sl_op rfl rfl rfl (by first | exact opv_add64 rfl rfl rfl (by omega) (by omega) ) ?_ )
          | (refine gk 2 rfl ?_; first | refine sl_yes rfl rfl rfl (by first | exact opv_lss rfl rfl rfl | exact opv_eql rfl rfl rfl ) (by first | omega ) ?_ | refine sl_no rfl rfl rfl (by first | exact opv_eql rfl rfl rfl ) (by first | omega ) ?_ )
          | (refine gk 3 rfl ?_; first | refine sl_op rfl rfl rfl (by first | exact opv_load rfl (by exact rfl) rfl (by exact rfl) | exact opv_fieldAddr rfl rfl | exact opv_loadA rfl (by exact rfl) rfl (by exact rfl) (by exact rfl) | exact opv_indexAddrI rfl rfl rfl (by omega) (by omega) (by first | omega ) | exact opv_loadEx rfl (by exact rfl) (by infer_instance) (by first | assumption ) | exact opv_load3 rfl (by exact rfl) (by infer_instance) (by assumption) (by assumption) (by assumption)) ?_ )
          | (refine gk 4 rfl ?_; first | refine sl_op rfl rfl rfl (by first | exact opv_len rfl rfl rfl rfl rfl | exact opv_max rfl rfl rfl rfl rfl) ?_ | (refine sl_append rfl rfl rfl rfl rfl rfl rfl rfl rfl os (by decide) rfl (by decide) rfl (by omega) (by omega) (fun h3 b3 c3 os3 => ?_)))
          | (refine gk 5 rfl ?_; first | refine sl_buildSlice rfl rfl rfl rfl rfl (by exact rfl) (by exact rfl) (by exact rfl) (by exact rfl) rfl (fun b => ?_) | refine sl_alloc rfl rfl rfl rfl (by exact rfl) (fun β => ?_) | refine sl_store rfl rfl rfl rfl rfl rfl (by exact rfl) rfl (by exact rfl) ?_)
          | refine sl_region rfl ?_
          | refine sl_nil ?_
          | refine thn_k ?_
          | refine swp_true rfl ?_
          | refine swp_block ?_
          | refine swp_skip ?_
          )
        rw [show max m ((m1 : Nat) : Int) = m' from hm'.symm]
        exact ⟨rfl, ⟨k + 1, h3, b3, c3, m'⟩, next_ok (by repeat first | exact Sub.nil _ | refine Sub.cons rfl ?_), ⟨hk2, by rw [hsn, flatI_snoc]; exact os3, by dsimp only; omega⟩, by dsimp only; omega⟩
    · have hmv : mv 2 (op, a, b0) = (op, a, b0) := if_neg hjm
      rw [hmv] at hsn
      have hjn := mt jmp_iff.2 hjm
      repeat' (first
        | refine swp_seq ?_
        | (refine gk 0 rfl ?_; first | refine sl_op rfl rfl rfl (by first | exact opv_move rfl rfl | exact opv_assign rfl rfl | exact opv_pick_f rfl rfl rfl ) ?_ )
        | (refine gk 1 rfl ?_; first | refine sl_op rfl rfl rfl (by first | exact opv_add64 rfl rfl rfl (by omega) (by omega) ) ?_ )
        | (refine gk 2 rfl ?_; first | refine sl_yes rfl rfl rfl (by first | exact opv_lss rfl rfl rfl | exact opv_eql rfl rfl rfl ) (by first | omega ) ?_ | refine sl_no rfl rfl rfl (by first | exact opv_eql rfl rfl rfl ) (by first | omega ) ?_ )
        | (refine gk 3 rfl ?_; first | refine sl_op rfl rfl rfl (by first | exact opv_load rfl (by exact rfl) rfl (by exact rfl) | exact opv_fieldAddr rfl rfl | exact opv_loadA rfl (by exact rfl) rfl (by exact rfl) (by exact rfl) | exact opv_indexAddrI rfl rfl rfl (by omega) (by omega) (by first | omega ) | exact opv_loadEx rfl (by exact rfl) (by infer_instance) (by first | assumption ) | exact opv_load3 rfl (by exact rfl) (by infer_instance) (by assumption) (by assumption) (by assumption)) ?_ )
        | (refine gk 4 rfl ?_; first | refine sl_op rfl rfl rfl (by first | exact opv_len rfl rfl rfl rfl rfl | exact opv_max rfl rfl rfl rfl rfl) ?_ | (refine sl_append rfl rfl rfl rfl rfl rfl rfl rfl rfl os (by decide) rfl (by decide) rfl (by omega) (by omega) (fun h3 b3 c3 os3 => ?_)))
        | (refine gk 5 rfl ?_; first | refine sl_buildSlice rfl rfl rfl rfl rfl (by exact rfl) (by exact rfl) (by exact rfl) (by exact rfl) rfl (fun b => ?_) | refine sl_alloc rfl rfl rfl rfl (by exact rfl) (fun β => ?_) | refine sl_store rfl rfl rfl rfl rfl rfl (by exact rfl) rfl (by exact rfl) ?_)
        | refine sl_region rfl ?_
        | refine sl_nil ?_
        | refine thn_k ?_
        | refine swp_true rfl ?_
        | refine swp_false rfl ?_
        | refine swp_block ?_
        | refine swp_skip ?_
        )
      rw [show max m ((m1 : Nat) : Int) = m' from hm'.symm]
      exact ⟨rfl, ⟨k + 1, h3, b3, c3, m'⟩, next_ok (by repeat first | exact Sub.nil _ | refine Sub.cons rfl ?_), ⟨hk2, by rw [hsn, flatI_snoc]; exact os3, by dsimp only; omega⟩, by dsimp only; omega⟩
  · obtain rfl : k = n := by omega
    have hfh : (headF mc k).length = k + 2 := headF_length (by omega)
    repeat' (first
      | refine swp_seq ?_
      | (refine gk 0 rfl ?_; first | refine sl_op rfl rfl rfl (by first | exact opv_move rfl rfl | exact opv_assign rfl rfl ) ?_ )
      | (refine gk 2 rfl ?_; first | refine sl_no rfl rfl rfl (by first | exact opv_lss rfl rfl rfl ) (by first | omega ) ?_ )
      | (refine gk 4 rfl ?_; first | (refine sl_append rfl rfl rfl rfl rfl rfl rfl rfl rfl os (by decide) rfl (by decide) rfl (by omega) (by omega) (fun h3 b3 c3 os3 => ?_)))
      | (refine gk 5 rfl ?_; first | refine sl_op rfl rfl rfl (by first | exact opv_build rfl rfl (by exact rfl) ) ?_ | refine sl_buildSlice rfl rfl rfl rfl rfl (by exact rfl) (by exact rfl) (by exact rfl) (by exact rfl) rfl (fun b => ?_) )
      | refine sl_region rfl ?_
      | refine sl_nil ?_
      | refine thn_k ?_
      | refine swp_false rfl ?_
      | refine swp_exit ?_
      )
    obtain ⟨wc, hwc⟩ : ∃ wc, wc = wrapF (mc.take k) := ⟨_, rfl⟩
    have os4 : OS h3 b3 (k + 2 + 4) c3 29 3 (flatI wc) := by rw [hwc, ← headF_end, flatI_append]; exact os3
    haveI sl4 := os4.sl
    have hwl : wc.length = k + 2 + 4 := by rw [hwc, wrapF_length, List.length_take]; omega
    have hSw := Stacks_res h3 (.slice none 0 0) 8 8 b3 (k + 2 + 4) c3 wc hwl (by omega)
    rw [← hwc] at hlaw
    repeat' (first
      | refine swp_seq ?_
      | (refine gk 0 rfl ?_; first | refine sl_op rfl rfl rfl (by first | exact opv_move rfl rfl | exact opv_assign rfl rfl ) ?_ )
      | (refine gk 2 rfl ?_; first | refine sl_no rfl rfl rfl (by first | exact opv_neq rfl rfl rfl) (by first | omega ) ?_ )
      | (refine gk 4 rfl ?_; first | refine sl_op rfl rfl rfl (by first | exact opv_len rfl rfl rfl rfl rfl ) ?_ | (refine sl_callT rfl rfl rfl rfl rfl rfl rfl rfl (hSw) ?_; rintro _ _ ⟨_, rfl, hS2, K2, sb2, n2, vals2, rfl, rfl, osS2, ht1, ht2, hE3⟩; (clear hSw; obtain ⟨w1, w2, w3⟩ := hlaw hE hE3; obtain ⟨hn3, hR2⟩ := ht2 (by rw [w2]; decide); clear ht1 ht2; haveI slS2 := osS2.sl); refine ⟨_, _, rfl, rfl, ?_⟩))
      | refine sl_region rfl ?_
      | refine sl_nil ?_
      | refine thn_k ?_
      | refine swp_false rfl ?_
      | refine swp_block ?_
      | refine swp_skip ?_
      )
    have hvl2 : vals2.length = n2 := by simpa using osS2.hlen
    refine swp_loopS (fun i : Nat => [(6, .slice sb n1 n1), (7, i64 (k : Int)), (9, i64 m), (12, .slice sb2 n2 n2), (13, i64 (i : Int))]) (fun _ => [hS2, K2, hS, K1, J]) (fun i => i ≤ k) (fun i => k - i) 0 (by repeat first | exact Sub.nil _ | refine Sub.cons rfl ?_) (Nat.zero_le _) ?_
    rintro i hi
    try dsimp only at hi ⊢
    by_cases hi2 : i < k
    · obtain ⟨b1, m1, c1, g1, gs1, gl1, g8, gc1⟩ := hR i (by omega)
      obtain ⟨b2, m2, c2, f1, fs2, fl2, f8, fc2⟩ := hR2 (i + 2) (by omega)
      obtain ⟨h6, hcase⟩ := w3 i hi2
      have ei : (((i : Nat) : Int) + 2).toNat = i + 2 := by omega
      have hc1 : vals[((i : Nat) : Int).toNat * 1]? = some (.slice b1 m1 c1) := by simpa using g1
      have hq1 : ((i : Nat) : Int).toNat * 1 < vals.length := by omega
      have hc2 : vals2[(((i : Nat) : Int) + 2).toNat * 1]? = some (.slice b2 m2 c2) := by rw [ei, Nat.mul_one]; exact f1
      have hq2 : (((i : Nat) : Int) + 2).toNat * 1 < vals2.length := by omega
      rcases hcase with hcase | ⟨hca, hcb⟩
      · rw [hcase] at fs2 fl2
        clear hcase w3
        generalize (endG mc).stk (i : Int) = xs at *
        have hm2 : m2 = m1 + 1 := by rw [← fl2, ← gl1]; rfl
        haveI := gs1
        haveI := fs2
        haveI fs3 : Sl K2 (sub b2 (1 : Int).toNat c2 1) (xs.map i64) := fs2.drop 1 c2 1 (by rw [List.length_map, fl2]; omega)
        have hc7 : ((7 :: xs).map i64)[(0 : Int).toNat * 1]? = some (i64 7) := rfl
        have hq7 : (0 : Int).toNat * 1 < ((7 :: xs).map i64).length := by rw [List.length_map, fl2]; show 0 < _; omega
        repeat' (first
          | refine swp_seq ?_
          | (refine gk 0 rfl ?_; first | refine sl_op rfl rfl rfl (by first | exact opv_move rfl rfl | exact opv_assign rfl rfl | exact opv_pick_f rfl rfl rfl ) ?_ | refine sl_pass rfl rfl rfl rfl ?_)
          | (refine gk 1 rfl ?_; first | refine sl_op rfl rfl rfl (by first | exact opv_add64 rfl rfl rfl (by omega) (by omega) ) ?_ )
          | (refine gk 2 rfl ?_; first | refine sl_pass rfl rfl rfl rfl ?_ | refine sl_yes rfl rfl rfl (by first | exact opv_lss rfl rfl rfl | exact opv_neq rfl rfl rfl) (by first | omega ) ?_ | refine sl_no rfl rfl rfl (by first | exact opv_neq rfl rfl rfl) (by first | omega ) ?_ )
          | (refine gk 3 rfl ?_; first | refine sl_op rfl rfl rfl (by first | exact opv_indexAddrI rfl rfl rfl (by omega) (by omega) (by first | omega ) | exact opv_loadEx rfl (by exact rfl) (by infer_instance) (by first | assumption ) ) ?_ | refine sl_pass rfl rfl rfl rfl ?_)
          | (refine gk 4 rfl ?_; first | refine sl_pass rfl rfl rfl rfl ?_ | refine sl_op rfl rfl rfl (by first | exact opv_len rfl rfl rfl rfl rfl ) ?_)
          | refine sl_region rfl ?_
          | refine sl_nil ?_
          | refine thn_k ?_
          | refine swp_true rfl ?_
          | refine swp_false rfl ?_
          | refine swp_block ?_
          | refine swp_skip ?_
          )
        refine sl_drawC [.q [0, 1, 2, 3, 4, 5, 6, 7, 8, 9, 10, 11, 12, 13, 14], .h false 15, .q [16, 17, 18]] [] (by kernel_rfl) (by kernel_rfl) (by kernel_rfl) (by kernel_rfl) ?_
        repeat' (first
          | (refine gk 0 rfl ?_; first | refine sl_op rfl rfl rfl (by first | exact opv_move rfl rfl | exact opv_assign rfl rfl | exact opv_pick_t rfl rfl rfl | exact opv_pick_f rfl rfl rfl | exact opv_not_t rfl rfl ) ?_ )
          | (refine gk 1 rfl ?_; first | refine sl_op rfl rfl rfl (by first | exact opv_add64 rfl rfl rfl (by omega) (by omega) ) ?_ )
          | (refine gk 2 rfl ?_; first | refine sl_yes rfl rfl rfl (by first | exact opv_gtr rfl rfl rfl | exact opv_neq rfl rfl rfl) (by first | omega ) ?_ | refine sl_no rfl rfl rfl (by first | exact opv_neq rfl rfl rfl) (by first | omega ) ?_ )
          | (refine gk 3 rfl ?_; first | refine sl_op rfl rfl rfl (by first | exact opv_indexAddrI rfl rfl rfl (by omega) (by omega) (by first | omega ) | exact opv_loadEx rfl (by exact rfl) (by infer_instance) (by first | assumption ) ) ?_ )
          | (refine gk 4 rfl ?_; first | refine sl_op rfl rfl rfl (by first | exact opv_len rfl rfl rfl rfl rfl ) ?_ )
          | (refine gk 5 rfl ?_; first | refine sl_op rfl rfl rfl (by first | exact opv_sliceLo rfl rfl rfl (by omega) (by omega) ) ?_ )
          | refine sl_region rfl ?_
          | refine chu_nil ?_
          | refine chu_q rfl ?_
          | refine chu_PW rfl rfl rfl rfl rfl rfl rfl rfl (rSame_w _ _ b1 _ m1 _ c1 xs (by show _ = m2 - 1; omega) gl1 (by show m2 - 1 ≤ _; omega)) ?_
          | refine sl_nil ?_
          | refine thn_k ?_
          | refine swp_false rfl ?_
          | refine swp_skip ?_
          )
        exact ⟨rfl, i + 1, next_ok (by repeat first | exact Sub.nil _ | refine Sub.cons rfl ?_), by omega, by omega⟩
      · rw [hca] at fl2
        rw [hcb] at gl1
        have hm1 : m1 = 0 := gl1.symm
        have hm2 : m2 = 0 := fl2.symm
        subst hm1 hm2
        repeat' (first
          | refine swp_seq ?_
          | (refine gk 0 rfl ?_; first | refine sl_op rfl rfl rfl (by first | exact opv_move rfl rfl | exact opv_assign rfl rfl | exact opv_pick_t rfl rfl rfl | exact opv_pick_f rfl rfl rfl ) ?_ )
          | (refine gk 1 rfl ?_; first | refine sl_op rfl rfl rfl (by first | exact opv_add64 rfl rfl rfl (by omega) (by omega) ) ?_ )
          | (refine gk 2 rfl ?_; first | refine sl_yes rfl rfl rfl (by first | exact opv_lss rfl rfl rfl | exact opv_gtr rfl rfl rfl | exact opv_neq rfl rfl rfl) (by first | omega ) ?_ | refine sl_no rfl rfl rfl (by first | exact opv_gtr rfl rfl rfl ) (by first | omega ) ?_ )
          | (refine gk 3 rfl ?_; first | refine sl_op rfl rfl rfl (by first | exact opv_indexAddrI rfl rfl rfl (by omega) (by omega) (by first | omega ) | exact opv_loadEx rfl (by exact rfl) (by infer_instance) (by first | assumption ) ) ?_ )
          | (refine gk 4 rfl ?_; first | refine sl_op rfl rfl rfl (by first | exact opv_len rfl rfl rfl rfl rfl ) ?_)
          | refine sl_region rfl ?_
          | refine sl_nil ?_
          | refine thn_k ?_
          | refine swp_true rfl ?_
          | refine swp_false rfl ?_
          | refine swp_block ?_
          | refine swp_skip ?_
          )
        refine sl_drawC [.q [0, 1, 2, 3, 4, 5, 6, 7, 8, 9, 10, 11, 12, 13, 14], .h false 15, .q [16, 17, 18]] [] (by kernel_rfl) (by kernel_rfl) (by kernel_rfl) (by kernel_rfl) ?_
        repeat' (first
          | (refine gk 0 rfl ?_; first | refine sl_op rfl rfl rfl (by first | exact opv_move rfl rfl | exact opv_assign rfl rfl | exact opv_pick_f rfl rfl rfl ) ?_ | refine sl_pass rfl rfl rfl rfl ?_)
          | (refine gk 1 rfl ?_; first | refine sl_op rfl rfl rfl (by first | exact opv_add64 rfl rfl rfl (by omega) (by omega) ) ?_ )
          | (refine gk 2 rfl ?_; first | refine sl_pass rfl rfl rfl rfl ?_ | refine sl_no rfl rfl rfl (by first | exact opv_gtr rfl rfl rfl ) (by first | omega ) ?_ )
          | (refine gk 3 rfl ?_; first | refine sl_pass rfl rfl rfl rfl ?_)
          | (refine gk 4 rfl ?_; first | refine sl_op rfl rfl rfl (by first | exact opv_len rfl rfl rfl rfl rfl ) ?_)
          | (refine gk 5 rfl ?_; first | refine sl_pass rfl rfl rfl rfl ?_ )
          | refine sl_region rfl ?_
          | refine chu_nil ?_
          | refine chu_q rfl ?_
          | refine chu_pass rfl rfl rfl rfl ?_
          | refine sl_nil ?_
          | refine thn_k ?_
          | refine swp_false rfl ?_
          | refine swp_skip ?_
          )
        exact ⟨rfl, i + 1, next_ok (by repeat first | exact Sub.nil _ | refine Sub.cons rfl ?_), by omega, by omega⟩
    · repeat' (first
        | refine swp_seq ?_
        | (refine gk 0 rfl ?_; first | refine sl_op rfl rfl rfl (by first | exact opv_move rfl rfl | exact opv_assign rfl rfl ) ?_ )
        | (refine gk 2 rfl ?_; first | refine sl_yes rfl rfl rfl (by first | exact opv_lss rfl rfl rfl ) (by first | omega ) ?_ | refine sl_no rfl rfl rfl (by first | exact opv_lss rfl rfl rfl ) (by first | omega ) ?_ )
        | refine sl_region rfl ?_
        | refine sl_nil ?_
        | refine thn_k ?_
        | refine swp_false rfl ?_
        | refine swp_ret ?_
        | refine swp_exit ?_
        )
      exact end_retL [J] (resOk_one (resV_tmp rfl)) ⟨rfl, rfl⟩
end Go.Proofs.Ytifhhfeibnpaoaa
