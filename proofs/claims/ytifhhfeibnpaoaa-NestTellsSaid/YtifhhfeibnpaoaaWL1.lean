/- The law NestTells, walked: the heads. -/
import Derived.Test.YtifhhfeibnpaoaaWD4
import Derived.Test.YtifhhfeibnpaoaaWA18
import Derived.Test.YtifhhfeibnpaoaaWRZ
namespace Go.Proofs.Ytifhhfeibnpaoaa
open Go.SL
set_option maxRecDepth 100000
set_option maxHeartbeats 16000000
set_option linter.unusedVariables false
attribute [local irreducible] SL.T PFn OpV SOL SWP HOp ChU
theorem flatI_set {cs : List Ins} {k : Nat} {x y : Ins} (hk : cs[k]? = some x) : (flatI cs).take (k * 3) ++ [i64 y.1, i64 y.2.1, i64 y.2.2] ++ (flatI cs).drop (k * 3 + 3) = flatI (cs.set k y) := by
  have hl := (List.getElem?_eq_some_iff.1 hk).1
  have e : k * 3 + 3 = (k + 1) * 3 := by omega
  rw [e, flatI_take, flatI_drop, List.set_eq_take_append_cons_drop, if_pos hl, flatI_append, flatI, List.append_assoc]
  rfl
theorem flatI_split {cs : List Ins} {k : Nat} {x : Ins} (hk : cs[k]? = some x) : flatI cs = (flatI cs).take (k * 3) ++ [i64 x.1, i64 x.2.1, i64 x.2.2] ++ (flatI cs).drop (k * 3 + 3) := by
  have := flatI_set (y := x) hk
  rw [this]
  obtain ⟨hl, he⟩ := List.getElem?_eq_some_iff.1 hk
  rw [← he, List.set_getElem_self]
theorem cut3 {A B : List Value} {n : Nat} (hA : A.length = n) (a b c z : Value) :
    ((A ++ [a, b, c] ++ B).take n ++ [z] ++ (A ++ [a, b, c] ++ B).drop (n + 1) = A ++ [z, b, c] ++ B) ∧ ((A ++ [a, b, c] ++ B).take (n + 1) ++ [z] ++ (A ++ [a, b, c] ++ B).drop (n + 1 + 1) = A ++ [a, z, c] ++ B) := by
  subst hA
  have e1 : A ++ [a, b, c] ++ B = A ++ ([a, b, c] ++ B) := by simp
  have e2 : A ++ [a, b, c] ++ B = (A ++ [a]) ++ ([b, c] ++ B) := by simp
  have e3 : A ++ [a, b, c] ++ B = (A ++ [a, b]) ++ ([c] ++ B) := by simp
  have t1 : (A ++ [a, b, c] ++ B).take A.length = A := by rw [e1, List.take_left']; rfl
  have t2 : (A ++ [a, b, c] ++ B).take (A.length + 1) = A ++ [a] := by rw [e2, List.take_left']; simp
  have d1 : (A ++ [a, b, c] ++ B).drop (A.length + 1) = [b, c] ++ B := by rw [e2, List.drop_left']; simp
  have d2 : (A ++ [a, b, c] ++ B).drop (A.length + 1 + 1) = [c] ++ B := by rw [e3, List.drop_left']; simp
  rw [t1, t2, d1, d2]
  constructor <;> simp
theorem set_op {cs : List Ins} {k j : Nat} {op a b z : Int} (hk : cs[k]? = some (op, a, b)) (hj : j = k * 3) : (flatI cs).take j ++ [i64 z] ++ (flatI cs).drop (j + 1) = flatI (cs.set k (z, a, b)) := by
  subst hj
  have hl := (List.getElem?_eq_some_iff.1 hk).1
  have h3 : ((flatI cs).take (k * 3)).length = k * 3 := by rw [List.length_take, flatI_length]; omega
  rw [flatI_split hk, (cut3 h3 _ _ _ _).1, ← flatI_set (y := (z, a, b)) hk]
theorem set_A {cs : List Ins} {k j : Nat} {op a b z : Int} (hk : cs[k]? = some (op, a, b)) (hj : j = k * 3 + 1) : (flatI cs).take j ++ [i64 z] ++ (flatI cs).drop (j + 1) = flatI (cs.set k (op, z, b)) := by
  subst hj
  have hl := (List.getElem?_eq_some_iff.1 hk).1
  have h3 : ((flatI cs).take (k * 3)).length = k * 3 := by rw [List.length_take, flatI_length]; omega
  rw [flatI_split hk, (cut3 h3 _ _ _ _).2, ← flatI_set (y := (op, z, b)) hk]
theorem u64_pos {x : Nat} (h0 : 0 < x) (hx : x ≤ 100) : IntKind.u64.wrap (x : Int) ≠ 0 := by
  have e : IntKind.u64.wrap (x : Int) = (x : Int) % 18446744073709551616 := by simp [IntKind.wrap, IntKind.bits, IntKind.signed]
  omega
structure SC where
  j : Nat
  h : Heap
  cs : List Ins
abbrev dV (bb : Option Addr) (bl bc : Nat) (odd at8 x0 x1 : Value) (a : Int) : Value := .agg ⟨[.slice bb bl bc, odd, at8, x0, x1, i64 a]⟩
abbrev nilS : Value := .slice none 0 0
/-- The three methods. -/
def msL (bP : Option Addr) (lP cP : Nat) (bR : Option Addr) (n cR : Nat) (bN : Option Addr) (cN : Nat) : List Value := [nilS, i64 8, i64 8, .slice bP lP cP, nilS, i64 0, i64 0, .slice bR n cR, nilS, i64 0, i64 0, .slice bN n cN]
theorem rSame_t (own : List Heap) (b1 b2 : Option Addr) (n1 n2 c1 c2 : Nat) (xs : List Int) [s1 : SlIn own b1 (xs.map i64)] [s2 : SlIn own b2 (xs.map i64)] (h1 : xs.length = n1) (h2 : xs.length = n2) (hsm : n1 ≤ 9223372036854775807) :
    PFn Try.prog 13 [.slice b1 n1 c1, .slice b2 n2 c2] own (.bool true) := by
  have := rSame_calls own b1 b2 n1 n2 c1 c2 xs xs h1 h2 hsm
  rwa [decide_eq_true rfl] at this
theorem NestTells_calls (J : Heap) (bb : Option Addr) (bl bc : Nat) (B : List Int) (odd : Bool) (at8 x0 x1 v0 : Int) (lb : Option Addr) (ll lc : Nat) (ls : List Ins)
    [sB : Sl J bb (B.map u8)] [sL : Sl J lb (flatI ls)] (hB : ∀ x ∈ B, 0 ≤ x ∧ x ≤ 255) (hBl : B.length = bl) (hbc : bl ≤ bc) (hbs : bl ≤ 9223372036854775807)
    (ha : 0 ≤ at8 ∧ at8 ≤ 255) (hx0 : 0 ≤ x0 ∧ x0 ≤ 255) (hx1 : 0 ≤ x1 ∧ x1 ≤ 255)
    (hl : ls.length = ll) (hsm : ll ≤ 9223372036854775807) (hlc : ll ≤ lc) : PFn Try.prog 3 [dV bb bl bc (.bool odd) (u8 at8) (u8 x0) (u8 x1) v0, .slice lb ll lc] [J] (.bool true) := by
  obtain ⟨nb, hnb⟩ : ∃ n : Nat, n = (min (bl : Int) 200).toNat := ⟨_, rfl⟩
  obtain ⟨n, hn⟩ : ∃ n : Nat, n = (min (ll : Int) 30).toNat := ⟨_, rfl⟩
  have hn1 : n ≤ ll := by omega
  have hn2 : n ≤ 30 := by omega
  have hnb1 : nb ≤ bl := by omega
  haveI sL2 : Sl J lb (flatI (ls.take n)) := by rw [← flatI_take]; exact Sl.take sL _
  haveI sB2 : Sl J bb ((B.take nb).map u8) := by rw [List.map_take]; exact Sl.take sB _
  have htl : (ls.take n).length = n := by rw [List.length_take]; omega
  have hbl : (B.take nb).length = nb := by rw [List.length_take]; omega
  have hB2 : ∀ x ∈ B.take nb, 0 ≤ x ∧ x ≤ 255 := fun x hx => hB x (List.mem_of_mem_take hx)
  refine pure_of_body Try.func3 rfl (Nat.le_of_ble_eq_true rfl) fun F => ?_
  repeat' (first
    | refine swp_seq ?_
    | (refine gk 0 rfl ?_; first | refine sl_op rfl rfl rfl (by first | exact opv_move rfl rfl | exact opv_assign rfl rfl ) ?_ )
    | (refine gk 3 rfl ?_; first | refine sl_op rfl rfl rfl (by first | exact opv_load rfl (by exact rfl) rfl (by exact rfl) | exact opv_fieldAddr rfl rfl ) ?_ )
    | (refine gk 4 rfl ?_; first | refine sl_op rfl rfl rfl (by first | exact opv_len rfl rfl rfl rfl rfl | exact opv_min rfl rfl rfl rfl rfl ) ?_)
    | (refine gk 5 rfl ?_; first | refine sl_op rfl rfl rfl (by first | exact opv_sliceHi rfl rfl rfl (by omega) (by omega) ) ?_ | refine sl_buildSlice rfl rfl rfl rfl rfl (by exact rfl) (by exact rfl) (by exact rfl) (by exact rfl) rfl (fun b => ?_) | refine sl_box rfl rfl rfl rfl rfl rfl (fun β => ?_) | refine sl_store rfl rfl rfl rfl rfl rfl (by exact rfl) rfl (by exact rfl) ?_)
    | refine sl_region rfl ?_
    | refine sl_nil ?_
    )
  rw [← hn, ← hnb]
  refine sl_appendG rfl rfl rfl rfl rfl rfl rfl rfl rfl (OS.blk (len := 0) (sz := 3) (cs := []) rfl) (news := flatI (ls.take n)) (by rw [flatI_length, htl]) (by decide) (flatI_one _) (by omega) (by omega) (fun hR bR cR osR hbR => ?_)
  rw [Nat.zero_add, List.nil_append] at osR
  rw [Nat.zero_add]
  haveI slR := osR.sl
  obtain ⟨raw, hraw⟩ : ∃ raw, raw = ls.take n := ⟨_, rfl⟩
  rw [← hraw] at osR slR htl
  clear sL2 hraw
  repeat' (first
    | refine swp_seq ?_
    | (refine gk 0 rfl ?_; first | refine sl_op rfl rfl rfl (by first | exact opv_move rfl rfl | exact opv_assign rfl rfl ) ?_ )
    | (refine gk 5 rfl ?_; first | refine sl_buildSlice rfl rfl rfl rfl rfl (by exact rfl) (by exact rfl) (by exact rfl) (by exact rfl) rfl (fun b => ?_) )
    | refine sl_region rfl ?_
    | refine sl_nil ?_
    )
  refine sl_appendG rfl rfl rfl rfl rfl rfl rfl rfl rfl (OS.blk (len := 0) (sz := 3) (cs := []) rfl) (news := flatI raw) (by rw [flatI_length, htl]) (by decide) (flatI_one _) (by omega) (by omega) (fun hN bN cN osN hbN => ?_)
  rw [Nat.zero_add, List.nil_append] at osN
  rw [Nat.zero_add]
  repeat' (first
    | refine swp_seq ?_
    | (refine gk 0 rfl ?_; first | refine sl_op rfl rfl rfl (by first | exact opv_assign rfl rfl ) ?_ )
    | refine sl_region rfl ?_
    | refine sl_nil ?_
    | refine thn_k ?_
    | refine swp_block ?_
    )
  obtain ⟨βd, hβd⟩ : ∃ x, x = β := ⟨_, rfl⟩
  rw [← hβd]
  refine swp_loopS (fun s : SC => [(2, .pointer (some ⟨βd, 0, none⟩)), (5, .slice bR n cR), (6, .slice bN n cN), (7, i64 (s.j : Int))])
    (fun s => [dBlk βd bb nb bc (.bool odd) (u8 at8) (u8 x0) (u8 x1) v0, J, hR, s.h]) (fun s => s.j ≤ n ∧ s.cs.length = n ∧ OS s.h bN n cN 29 3 (flatI s.cs)) (fun s => n - s.j) ⟨0, hN, raw⟩ (by repeat first | exact Sub.nil _ | refine Sub.cons rfl ?_) ⟨Nat.zero_le _, htl, osN⟩ ?_
  rintro ⟨j, H, cs⟩ ⟨hj1, hcl, os⟩
  dsimp only at hj1 hcl os ⊢
  haveI sl := os.sl
  have hfl := flatI_length cs
  by_cases hj : j < n
  · obtain ⟨⟨op, a, b⟩, hx⟩ : ∃ x, cs[j]? = some x := ⟨_, List.getElem?_eq_getElem (by omega)⟩
    obtain ⟨c0, c1, c2⟩ := flatI_at hx
    have c0 : (flatI cs)[((j : Nat) : Int).toNat * 3]? = some (i64 op) := c0
    have hq : ((j : Nat) : Int).toNat * 3 < (flatI cs).length := by simp; omega
    repeat' (first
      | refine swp_seq ?_
      | (refine gk 0 rfl ?_; first | refine sl_op rfl rfl rfl (by first | exact opv_move rfl rfl ) ?_ )
      | (refine gk 1 rfl ?_; first | refine sl_op rfl rfl rfl (by first | exact opv_rem rfl rfl rfl (by omega) ) ?_ )
      | (refine gk 2 rfl ?_; first | refine sl_yes rfl rfl rfl (by first | exact opv_lss rfl rfl rfl ) (by first | omega ) ?_ )
      | (refine gk 3 rfl ?_; first | refine sl_op rfl rfl rfl (by first | exact opv_indexAddrI rfl rfl rfl (by omega) (by omega) (by first | omega ) | exact opv_fieldAddrE rfl rfl (by first | assumption ) | exact opv_loadEx rfl (by exact rfl) (by infer_instance) (by first | assumption ) ) ?_ )
      | (refine gk 4 rfl ?_; first | refine sl_op rfl rfl rfl (by first | exact opv_len rfl rfl rfl rfl rfl ) ?_)
      | (refine gk 5 rfl ?_; first | refine sl_op rfl rfl rfl (by first | exact opv_convert rfl rfl ) ?_ )
      | refine sl_region rfl ?_
      | refine sl_nil ?_
      | refine thn_k ?_
      | refine swp_true rfl ?_
      | refine swp_block ?_
      | refine swp_skip ?_
      )
    obtain ⟨op1, ho1⟩ : ∃ z, z = IntKind.i64.wrap ((IntKind.u64.wrap op).tmod 21) := ⟨_, rfl⟩
    rw [← ho1]
    refine sl_storeE rfl rfl rfl rfl rfl os rfl rfl rfl (Nat.succ_pos _) (by simp; omega) (set_op hx (by simp)) (fun h1 os1 => ?_)
    have hx1 : (cs.set j (op1, a, b))[j]? = some (op1, a, b) := by rw [List.getElem?_set, if_pos rfl, if_pos (by omega)]
    have hcl1 : (cs.set j (op1, a, b)).length = n := by simpa using hcl
    generalize cs.set j (op1, a, b) = cs1 at *
    haveI sl1 := os1.sl
    have hfl1 := flatI_length cs1
    obtain ⟨-, c1, -⟩ := flatI_at hx1
    have c1 : (flatI cs1)[((j : Nat) : Int).toNat * 3 + 1]? = some (i64 a) := c1
    have hq1 : ((j : Nat) : Int).toNat * 3 < (flatI cs1).length := by simp; omega
    clear c0 hq hx os sl
    have hmn : ∃ m : Nat, min (n : Int) 5 = (m : Int) ∧ 0 < m ∧ m ≤ 100 := ⟨(min (n : Int) 5).toNat, by omega, by omega, by omega⟩
    obtain ⟨m, hm, hm0, hm1⟩ := hmn
    have hu := u64_pos hm0 hm1
    rw [← hm] at hu
    repeat' (first
      | (refine gk 0 rfl ?_; first | refine sl_op rfl rfl rfl (by first | exact opv_move rfl rfl ) ?_ )
      | (refine gk 1 rfl ?_; first | refine sl_op rfl rfl rfl (by first | exact opv_rem rfl rfl rfl (by omega) ) ?_ )
      | (refine gk 3 rfl ?_; first | refine sl_op rfl rfl rfl (by first | exact opv_indexAddrI rfl rfl rfl (by omega) (by omega) (by first | omega ) | exact opv_fieldAddrE rfl rfl (by first | assumption ) | exact opv_loadEx rfl (by exact rfl) (by infer_instance) (by first | assumption ) ) ?_ )
      | (refine gk 4 rfl ?_; first | refine sl_op rfl rfl rfl (by first | exact opv_len rfl rfl rfl rfl rfl | exact opv_min rfl rfl rfl rfl rfl ) ?_)
      | (refine gk 5 rfl ?_; first | refine sl_op rfl rfl rfl (by first | exact opv_convert rfl rfl ) ?_ )
      | refine sl_region rfl ?_
      | refine sl_nil ?_
      )
    obtain ⟨a1, ha1⟩ : ∃ z, z = IntKind.i64.wrap ((IntKind.u64.wrap a).tmod (IntKind.u64.wrap (min (n : Int) 5))) := ⟨_, rfl⟩
    rw [← ha1]
    refine sl_storeE rfl rfl rfl rfl rfl os1 rfl rfl rfl (by exact Nat.succ_pos _) (by simp; omega) (set_A hx1 (by simp)) (fun h2 os2 => ?_)
    have hcl2 : (cs1.set j (op1, a1, b)).length = n := by simpa using hcl1
    repeat' (first
      | (refine gk 0 rfl ?_; first | refine sl_op rfl rfl rfl (by first | exact opv_move rfl rfl | exact opv_assign rfl rfl ) ?_ )
      | (refine gk 1 rfl ?_; first | refine sl_op rfl rfl rfl (by first | exact opv_add64 rfl rfl rfl (by omega) (by omega) ) ?_ )
      | refine sl_region rfl ?_
      | refine sl_nil ?_
      | refine thn_k ?_
      )
    exact ⟨rfl, ⟨j + 1, h2, cs1.set j (op1, a1, b)⟩, next_ok (by repeat first | exact Sub.nil _ | refine Sub.cons rfl ?_), ⟨by dsimp only; omega, hcl2, os2⟩, by dsimp only; omega⟩
  · have hjn : j = n := by omega
    obtain ⟨mc, hmc⟩ : ∃ mc, mc = methF (B.take nb) odd at8 x0 x1 := ⟨_, rfl⟩
    have hcall := Method_calls J βd bb nb bc (B.take nb) hbl hB2 odd at8 x0 x1 v0 ha hx0 hx1
    have hml : mc.length ≤ 102 := by rw [hmc, methF_len]; exact drawF_lt hB2
    rw [← hmc] at hcall
    clear hmc hj1
    repeat' (first
      | refine swp_seq ?_
      | (refine gk 0 rfl ?_; first | refine sl_op rfl rfl rfl (by first | exact opv_move rfl rfl ) ?_ )
      | (refine gk 2 rfl ?_; first | refine sl_no rfl rfl rfl (by first | exact opv_lss rfl rfl rfl ) (by first | omega ) ?_ )
      | (refine gk 4 rfl ?_; first | refine sl_op rfl rfl rfl (by first | exact opv_len rfl rfl rfl rfl rfl ) ?_ | (refine sl_callT rfl rfl rfl rfl rfl rfl rfl rfl (hcall) ?_; rintro _ _ ⟨hP, bP, cP, a3, rfl, rfl, osP⟩; (clear hcall; haveI slP := osP.sl); refine ⟨_, _, rfl, rfl, ?_⟩))
      | (refine gk 5 rfl ?_; first | refine sl_op rfl rfl rfl (by first | exact opv_build rfl rfl (by exact rfl) ) ?_ )
      | refine sl_region rfl ?_
      | refine sl_nil ?_
      | refine thn_k ?_
      | refine swp_false rfl ?_
      | refine swp_block ?_
      | refine swp_exit ?_
      )
    have slR2 := slR
    refine swp_merge [hP, hR, H] fun K hK => ?_
    have kP : Sl K bP (flatI mc) := osP.sl.mono (hK hP (by simp))
    have kR : Sl K bR (flatI raw) := osR.sl.mono (hK hR (by simp))
    have kN : Sl K bN (flatI cs) := os.sl.mono (hK H (by simp))
    clear osP osR os sl slR slP
    refine swp_loopS (fun r : Nat => [(77, .agg ⟨msL bP mc.length cP bR n cR bN cN⟩), (78, i64 (r : Int))]) (fun _ => [K, J]) (fun r => r ≤ 3) (fun r => 3 - r) 0 (by repeat first | exact Sub.nil _ | refine Sub.cons rfl ?_) (Nat.zero_le _) ?_
    rintro r hr1
    by_cases hr : r < 3
    · obtain ⟨lo, st, cb, cl, cc, cs2, hix, slC, hcl2, hsm2⟩ : ∃ lo st cb cl cc cs2, ((msL bP mc.length cP bR n cR bN cN).drop (((r : Nat) : Int).toNat * 4)).take 4 = [nilS, i64 lo, i64 st, .slice cb cl cc] ∧ Sl K cb (flatI cs2) ∧ cs2.length = cl ∧ cl ≤ 1000000 := by
        rcases (by omega : r = 0 ∨ r = 1 ∨ r = 2) with rfl | rfl | rfl
        · exact ⟨8, 8, bP, mc.length, cP, mc, rfl, kP, rfl, by omega⟩
        · exact ⟨0, 0, bR, n, cR, raw, rfl, kR, htl, by omega⟩
        · exact ⟨0, 0, bN, n, cN, cs, rfl, kN, hcl, by omega⟩
      haveI := slC
      clear kP kR kN hcl htl hj hjn
      generalize msL bP mc.length cP bR n cR bN cN = ME at *
      have hG := rGo_calls K nilS lo st cb cl cc cs2 hcl2 hsm2
      have hC := Check_calls K nilS lo st cb cl cc cs2 hcl2 hsm2
      have hSt := Stacks_calls K nilS lo st cb cl cc cs2 hcl2 hsm2
      obtain ⟨w, hw⟩ : ∃ w, w = wrG cs2 := ⟨_, rfl⟩
      rw [← hw] at hG hC hSt
      by_cases hw0 : 0 ≤ w
      · simp only [if_pos hw0] at hC
        repeat' (first
          | refine swp_seq ?_
          | (refine gk 0 rfl ?_; first | refine sl_op rfl rfl rfl (by first | exact opv_move rfl rfl | exact opv_assign rfl rfl | exact opv_pick_t rfl rfl rfl | exact opv_pick_f rfl rfl rfl | exact opv_extract rfl rfl rfl ) ?_ )
          | (refine gk 2 rfl ?_; first | refine sl_yes rfl rfl rfl (by first | exact opv_lss rfl rfl rfl | exact opv_geq rfl rfl rfl | exact opv_eql rfl rfl rfl | exact opv_neq rfl rfl rfl) (by first | omega ) ?_ | refine sl_no rfl rfl rfl (by first | exact opv_lss rfl rfl rfl | exact opv_eql rfl rfl rfl | exact opv_neq rfl rfl rfl) (by first | omega ) ?_ | refine sl_ff rfl rfl rfl (by first | exact opv_neqB Try.underlying4 rfl rfl rfl ) (by first | rfl ) ?_ )
          | (refine gk 3 rfl ?_; first | refine sl_op rfl rfl rfl (by first | exact opv_load rfl (by exact rfl) rfl (by exact rfl) | exact opv_fieldAddr rfl rfl | exact opv_loadA rfl (by exact rfl) rfl (by exact rfl) (by exact rfl) | exact opv_indexA rfl rfl rfl (by omega) (by omega) (by first | assumption ) ) ?_ )
          | (refine gk 4 rfl ?_; first | (refine sl_callT rfl rfl rfl rfl rfl rfl rfl rfl (hG) ?_; rintro _ _ ⟨_, rfl, K1, hS, sb, kb, vals, rfl, rfl, osS, hRows, hE⟩; (clear hG; haveI slS := osS.sl; obtain ⟨β9, hβ9⟩ : ∃ x, x = β := ⟨_, rfl⟩; rw [← hβ9]); refine ⟨_, _, rfl, rfl, ?_⟩) | (refine sl_callT rfl rfl rfl rfl rfl rfl rfl rfl (hC) ?_; rintro _ _ ⟨_, rfl, rfl, rfl, hE2⟩; clear hC; refine ⟨_, _, rfl, rfl, ?_⟩))
          | (refine gk 5 rfl ?_; first | refine sl_alloc rfl rfl rfl rfl (by exact rfl) (fun β => ?_) | refine sl_store rfl rfl rfl rfl rfl rfl (by exact rfl) rfl (by exact rfl) ?_)
          | refine sl_region rfl ?_
          | refine sl_nil ?_
          | refine thn_k ?_
          | refine swp_true rfl ?_
          | refine swp_false rfl ?_
          | refine swp_block ?_
          | refine swp_skip ?_
          )
        obtain ⟨β10, hβ10⟩ : ∃ x, x = β := ⟨_, rfl⟩
        rw [← hβ10]
        refine swp_loopS (fun z : Int => [(77, .agg ⟨ME⟩), (78, i64 (r : Int)), (9, .pointer (some ⟨β9, 0, none⟩)), (10, .pointer (some ⟨β10, 0, none⟩)), (11, i64 w), (13, i64 z)])
          (fun _ => [K, rBlk β10 sb kb cl w, hS, K1, blk β9 (.cells ⟨[nilS, i64 lo, i64 st, .slice cb cl cc]⟩ 32 (0, 0)), J]) (fun z => -1 ≤ z ∧ z ≤ cl + 1) (fun z => ((cl : Int) + 1 - z).toNat) (-1) (by repeat first | exact Sub.nil _ | refine Sub.cons rfl ?_) ⟨by omega, by omega⟩ ?_
        rintro z ⟨hz1, hz2⟩
        try dsimp only at hz1 hz2 ⊢
        by_cases hz : z ≤ cl
        · cases hao : askO cs2 z with
          | none =>
            repeat' (first
              | refine swp_seq ?_
              | (refine gk 0 rfl ?_; first | refine sl_op rfl rfl rfl (by first | exact opv_move rfl rfl | exact opv_assign rfl rfl | exact opv_pick_f rfl rfl rfl | exact opv_extract rfl rfl rfl ) ?_ )
              | (refine gk 1 rfl ?_; first | refine sl_op rfl rfl rfl (by first | exact opv_add64 rfl rfl rfl (by omega) (by omega) ) ?_ )
              | (refine gk 2 rfl ?_; first | refine sl_yes rfl rfl rfl (by first | exact opv_leq rfl rfl rfl | exact opv_neq rfl rfl rfl) (by first | omega ) ?_ | refine sl_no rfl rfl rfl (by first | exact opv_neq rfl rfl rfl) (by first | omega ) ?_ | refine sl_ff rfl rfl rfl (by first | exact opv_neqB Try.underlying4 rfl rfl rfl ) (by first | rfl ) ?_ )
              | (refine gk 3 rfl ?_; first | refine sl_op rfl rfl rfl (by first | exact opv_load rfl (by exact rfl) rfl (by exact rfl) | exact opv_fieldAddr rfl rfl | exact opv_loadA rfl (by exact rfl) rfl (by exact rfl) (by exact rfl) ) ?_ )
              | (refine gk 4 rfl ?_; first | refine sl_op rfl rfl rfl (by first | exact opv_len rfl rfl rfl rfl rfl ) ?_ | refine sl_op rfl rfl rfl (opv_call rfl rfl rfl rfl rfl (Asks_none K nilS lo st cb cl cc cs2 z hcl2 hsm2 hao)) ?_ | refine sl_op rfl rfl rfl (opv_call rfl rfl rfl rfl rfl (rAsks_none K nilS lo st cb cl cc cs2 z hcl2 hsm2 hao)) ?_)
              | refine sl_region rfl ?_
              | refine sl_nil ?_
              | refine thn_k ?_
              | refine swp_true rfl ?_
              | refine swp_false rfl ?_
              | refine swp_block ?_
              | refine swp_skip ?_
              )
            exact ⟨rfl, z + 1, next_ok (by repeat first | exact Sub.nil _ | refine Sub.cons rfl ?_), ⟨by omega, by omega⟩, by omega⟩
          | some ka =>
            repeat' (first
              | refine swp_seq ?_
              | (refine gk 0 rfl ?_; first | refine sl_op rfl rfl rfl (by first | exact opv_move rfl rfl | exact opv_assign rfl rfl | exact opv_pick_f rfl rfl rfl | exact opv_extract rfl rfl rfl ) ?_ )
              | (refine gk 1 rfl ?_; first | refine sl_op rfl rfl rfl (by first | exact opv_add64 rfl rfl rfl (by omega) (by omega) ) ?_ )
              | (refine gk 2 rfl ?_; first | refine sl_yes rfl rfl rfl (by first | exact opv_leq rfl rfl rfl | exact opv_neq rfl rfl rfl) (by first | omega ) ?_ | refine sl_no rfl rfl rfl (by first | exact opv_neq rfl rfl rfl) (by first | omega ) ?_ | refine sl_ff rfl rfl rfl (by first | exact opv_neqB Try.underlying4 rfl rfl rfl ) (by first | rfl ) ?_ )
              | (refine gk 3 rfl ?_; first | refine sl_op rfl rfl rfl (by first | exact opv_load rfl (by exact rfl) rfl (by exact rfl) | exact opv_fieldAddr rfl rfl | exact opv_loadA rfl (by exact rfl) rfl (by exact rfl) (by exact rfl) ) ?_ )
              | (refine gk 4 rfl ?_; first | refine sl_op rfl rfl rfl (by first | exact opv_len rfl rfl rfl rfl rfl ) ?_ | refine sl_op rfl rfl rfl (opv_call rfl rfl rfl rfl rfl (Asks_some K nilS lo st cb cl cc cs2 z hcl2 hsm2 hao)) ?_ | refine sl_op rfl rfl rfl (opv_call rfl rfl rfl rfl rfl (rAsks_some K nilS lo st cb cl cc cs2 z hcl2 hsm2 hao)) ?_)
              | refine sl_region rfl ?_
              | refine sl_nil ?_
              | refine thn_k ?_
              | refine swp_true rfl ?_
              | refine swp_false rfl ?_
              | refine swp_block ?_
              | refine swp_skip ?_
              )
            exact ⟨rfl, z + 1, next_ok (by repeat first | exact Sub.nil _ | refine Sub.cons rfl ?_), ⟨by omega, by omega⟩, by omega⟩
        · repeat' (first
            | refine swp_seq ?_
            | (refine gk 0 rfl ?_; first | refine sl_op rfl rfl rfl (by first | exact opv_move rfl rfl | exact opv_assign rfl rfl | exact opv_pick_t rfl rfl rfl | exact opv_pick_f rfl rfl rfl ) ?_ | refine sl_pass rfl rfl rfl rfl ?_)
            | (refine gk 2 rfl ?_; first | refine sl_pass rfl rfl rfl rfl ?_ | refine sl_yes rfl rfl rfl (by first | exact opv_lss rfl rfl rfl | exact opv_leq rfl rfl rfl | exact opv_gtr rfl rfl rfl | exact opv_geq rfl rfl rfl ) (by first | omega ) ?_ | refine sl_no rfl rfl rfl (by first | exact opv_lss rfl rfl rfl | exact opv_leq rfl rfl rfl | exact opv_gtr rfl rfl rfl ) (by first | omega ) ?_ )
            | (refine gk 3 rfl ?_; first | refine sl_op rfl rfl rfl (by first | exact opv_load rfl (by exact rfl) rfl (by exact rfl) | exact opv_fieldAddr rfl rfl | exact opv_loadA rfl (by exact rfl) rfl (by exact rfl) (by exact rfl) ) ?_ | refine sl_pass rfl rfl rfl rfl ?_)
            | (refine gk 4 rfl ?_; first | refine sl_pass rfl rfl rfl rfl ?_ | refine sl_op rfl rfl rfl (by first | exact opv_len rfl rfl rfl rfl rfl ) ?_ | (refine sl_callT rfl rfl rfl rfl rfl rfl rfl rfl (hSt) ?_; rintro _ _ ⟨_, rfl, hS2, K2, sb2, n2, vals2, rfl, rfl, os2, hs1, hs2⟩; (clear hSt; haveI sl2 := os2.sl; have hn2 := hs1 hw0); refine ⟨_, _, rfl, rfl, ?_⟩))
            | refine sl_region rfl ?_
            | refine sl_nil ?_
            | refine thn_k ?_
            | refine swp_false rfl ?_
            | refine swp_block ?_
            | refine swp_exit ?_
            | refine swp_skip ?_
            )
          refine swp_loopS (fun k : Nat => [(77, .agg ⟨ME⟩), (78, i64 (r : Int)), (10, .pointer (some ⟨β10, 0, none⟩)), (18, .slice sb2 n2 n2), (19, i64 (k : Int))])
            (fun _ => [hS2, K2, rBlk β10 sb kb cl w, hS, K1, K, J]) (fun k => k ≤ n2) (fun k => n2 - k) 0 (by repeat first | exact Sub.nil _ | refine Sub.cons rfl ?_) (Nat.zero_le _) ?_
          rintro k hk
          try dsimp only at hk ⊢
          repeat' (first
            | refine swp_seq ?_
            | (refine gk 0 rfl ?_; first | refine sl_op rfl rfl rfl (by first | exact opv_move rfl rfl ) ?_ )
            | (refine gk 1 rfl ?_; first | refine sl_op rfl rfl rfl (by first | exact opv_add64 rfl rfl rfl (by omega) (by omega) ) ?_ )
            | (refine gk 2 rfl ?_; first | refine sl_no rfl rfl rfl (by first | exact opv_lss rfl rfl rfl ) (by first | omega ) ?_ )
            | (refine gk 4 rfl ?_; first | refine sl_op rfl rfl rfl (by first | exact opv_len rfl rfl rfl rfl rfl ) ?_)
            | refine sl_region rfl ?_
            | refine sl_nil ?_
            | refine thn_k ?_
            | refine swp_false rfl ?_
            | refine swp_exit ?_
            )
          exact ⟨rfl, r + 1, next_ok (by repeat first | exact Sub.nil _ | refine Sub.cons rfl ?_), by omega, by omega⟩
      · simp only [if_neg hw0] at hC
        repeat' (first
          | refine swp_seq ?_
          | (refine gk 0 rfl ?_; first | refine sl_op rfl rfl rfl (by first | exact opv_move rfl rfl | exact opv_assign rfl rfl | exact opv_pick_f rfl rfl rfl | exact opv_extract rfl rfl rfl ) ?_ | refine sl_pass rfl rfl rfl rfl ?_)
          | (refine gk 2 rfl ?_; first | refine sl_pass rfl rfl rfl rfl ?_ | refine sl_yes rfl rfl rfl (by first | exact opv_lss rfl rfl rfl | exact opv_geq rfl rfl rfl | exact opv_eql rfl rfl rfl | exact opv_neq rfl rfl rfl) (by first | omega ) ?_ | refine sl_no rfl rfl rfl (by first | exact opv_geq rfl rfl rfl | exact opv_neq rfl rfl rfl) (by first | omega ) ?_ | refine sl_ff rfl rfl rfl (by first | exact opv_neqB Try.underlying4 rfl rfl rfl ) (by first | rfl ) ?_ )
          | (refine gk 3 rfl ?_; first | refine sl_op rfl rfl rfl (by first | exact opv_load rfl (by exact rfl) rfl (by exact rfl) | exact opv_fieldAddr rfl rfl | exact opv_loadA rfl (by exact rfl) rfl (by exact rfl) (by exact rfl) | exact opv_indexA rfl rfl rfl (by omega) (by omega) (by first | assumption ) ) ?_ )
          | (refine gk 4 rfl ?_; first | (refine sl_callT rfl rfl rfl rfl rfl rfl rfl rfl (hG) ?_; rintro _ _ ⟨_, rfl, K1, hS, sb, kb, vals, rfl, rfl, osS, hRows, hE⟩; (clear hG; haveI slS := osS.sl; obtain ⟨β9, hβ9⟩ : ∃ x, x = β := ⟨_, rfl⟩; rw [← hβ9]); refine ⟨_, _, rfl, rfl, ?_⟩) | (refine sl_callT rfl rfl rfl rfl rfl rfl rfl rfl (hC) ?_; rintro _ _ ⟨_, rfl, rfl, rfl, hE2⟩; clear hC; refine ⟨_, _, rfl, rfl, ?_⟩))
          | (refine gk 5 rfl ?_; first | refine sl_alloc rfl rfl rfl rfl (by exact rfl) (fun β => ?_) | refine sl_store rfl rfl rfl rfl rfl rfl (by exact rfl) rfl (by exact rfl) ?_)
          | refine sl_region rfl ?_
          | refine sl_nil ?_
          | refine thn_k ?_
          | refine swp_true rfl ?_
          | refine swp_false rfl ?_
          | refine swp_block ?_
          | refine swp_skip ?_
          )
        obtain ⟨β10, hβ10⟩ : ∃ x, x = β := ⟨_, rfl⟩
        rw [← hβ10]
        refine swp_loopS (fun z : Int => [(77, .agg ⟨ME⟩), (78, i64 (r : Int)), (9, .pointer (some ⟨β9, 0, none⟩)), (10, .pointer (some ⟨β10, 0, none⟩)), (11, i64 w), (13, i64 z)])
          (fun _ => [K, rBlk β10 sb kb cl w, hS, K1, blk β9 (.cells ⟨[nilS, i64 lo, i64 st, .slice cb cl cc]⟩ 32 (0, 0)), J]) (fun z => -1 ≤ z ∧ z ≤ cl + 1) (fun z => ((cl : Int) + 1 - z).toNat) (-1) (by repeat first | exact Sub.nil _ | refine Sub.cons rfl ?_) ⟨by omega, by omega⟩ ?_
        rintro z ⟨hz1, hz2⟩
        try dsimp only at hz1 hz2 ⊢
        by_cases hz : z ≤ cl
        · cases hao : askO cs2 z with
          | none =>
            repeat' (first
              | refine swp_seq ?_
              | (refine gk 0 rfl ?_; first | refine sl_op rfl rfl rfl (by first | exact opv_move rfl rfl | exact opv_assign rfl rfl | exact opv_pick_f rfl rfl rfl | exact opv_extract rfl rfl rfl ) ?_ )
              | (refine gk 1 rfl ?_; first | refine sl_op rfl rfl rfl (by first | exact opv_add64 rfl rfl rfl (by omega) (by omega) ) ?_ )
              | (refine gk 2 rfl ?_; first | refine sl_yes rfl rfl rfl (by first | exact opv_leq rfl rfl rfl | exact opv_neq rfl rfl rfl) (by first | omega ) ?_ | refine sl_no rfl rfl rfl (by first | exact opv_neq rfl rfl rfl) (by first | omega ) ?_ | refine sl_ff rfl rfl rfl (by first | exact opv_neqB Try.underlying4 rfl rfl rfl ) (by first | rfl ) ?_ )
              | (refine gk 3 rfl ?_; first | refine sl_op rfl rfl rfl (by first | exact opv_load rfl (by exact rfl) rfl (by exact rfl) | exact opv_fieldAddr rfl rfl | exact opv_loadA rfl (by exact rfl) rfl (by exact rfl) (by exact rfl) ) ?_ )
              | (refine gk 4 rfl ?_; first | refine sl_op rfl rfl rfl (by first | exact opv_len rfl rfl rfl rfl rfl ) ?_ | refine sl_op rfl rfl rfl (opv_call rfl rfl rfl rfl rfl (Asks_none K nilS lo st cb cl cc cs2 z hcl2 hsm2 hao)) ?_ | refine sl_op rfl rfl rfl (opv_call rfl rfl rfl rfl rfl (rAsks_none K nilS lo st cb cl cc cs2 z hcl2 hsm2 hao)) ?_)
              | refine sl_region rfl ?_
              | refine sl_nil ?_
              | refine thn_k ?_
              | refine swp_true rfl ?_
              | refine swp_false rfl ?_
              | refine swp_block ?_
              | refine swp_skip ?_
              )
            exact ⟨rfl, z + 1, next_ok (by repeat first | exact Sub.nil _ | refine Sub.cons rfl ?_), ⟨by omega, by omega⟩, by omega⟩
          | some ka =>
            repeat' (first
              | refine swp_seq ?_
              | (refine gk 0 rfl ?_; first | refine sl_op rfl rfl rfl (by first | exact opv_move rfl rfl | exact opv_assign rfl rfl | exact opv_pick_f rfl rfl rfl | exact opv_extract rfl rfl rfl ) ?_ )
              | (refine gk 1 rfl ?_; first | refine sl_op rfl rfl rfl (by first | exact opv_add64 rfl rfl rfl (by omega) (by omega) ) ?_ )
              | (refine gk 2 rfl ?_; first | refine sl_yes rfl rfl rfl (by first | exact opv_leq rfl rfl rfl | exact opv_neq rfl rfl rfl) (by first | omega ) ?_ | refine sl_no rfl rfl rfl (by first | exact opv_neq rfl rfl rfl) (by first | omega ) ?_ | refine sl_ff rfl rfl rfl (by first | exact opv_neqB Try.underlying4 rfl rfl rfl ) (by first | rfl ) ?_ )
              | (refine gk 3 rfl ?_; first | refine sl_op rfl rfl rfl (by first | exact opv_load rfl (by exact rfl) rfl (by exact rfl) | exact opv_fieldAddr rfl rfl | exact opv_loadA rfl (by exact rfl) rfl (by exact rfl) (by exact rfl) ) ?_ )
              | (refine gk 4 rfl ?_; first | refine sl_op rfl rfl rfl (by first | exact opv_len rfl rfl rfl rfl rfl ) ?_ | refine sl_op rfl rfl rfl (opv_call rfl rfl rfl rfl rfl (Asks_some K nilS lo st cb cl cc cs2 z hcl2 hsm2 hao)) ?_ | refine sl_op rfl rfl rfl (opv_call rfl rfl rfl rfl rfl (rAsks_some K nilS lo st cb cl cc cs2 z hcl2 hsm2 hao)) ?_)
              | refine sl_region rfl ?_
              | refine sl_nil ?_
              | refine thn_k ?_
              | refine swp_true rfl ?_
              | refine swp_false rfl ?_
              | refine swp_block ?_
              | refine swp_skip ?_
              )
            exact ⟨rfl, z + 1, next_ok (by repeat first | exact Sub.nil _ | refine Sub.cons rfl ?_), ⟨by omega, by omega⟩, by omega⟩
        · repeat' (first
            | refine swp_seq ?_
            | (refine gk 0 rfl ?_; first | refine sl_op rfl rfl rfl (by first | exact opv_move rfl rfl | exact opv_assign rfl rfl | exact opv_pick_t rfl rfl rfl | exact opv_pick_f rfl rfl rfl ) ?_ | refine sl_pass rfl rfl rfl rfl ?_)
            | (refine gk 2 rfl ?_; first | refine sl_pass rfl rfl rfl rfl ?_ | refine sl_yes rfl rfl rfl (by first | exact opv_lss rfl rfl rfl | exact opv_leq rfl rfl rfl | exact opv_geq rfl rfl rfl | exact opv_neq rfl rfl rfl) (by first | omega ) ?_ | refine sl_no rfl rfl rfl (by first | exact opv_leq rfl rfl rfl | exact opv_geq rfl rfl rfl | exact opv_neq rfl rfl rfl) (by first | omega ) ?_ )
            | (refine gk 3 rfl ?_; first | refine sl_op rfl rfl rfl (by first | exact opv_load rfl (by exact rfl) rfl (by exact rfl) | exact opv_fieldAddr rfl rfl | exact opv_loadA rfl (by exact rfl) rfl (by exact rfl) (by exact rfl) ) ?_ )
            | (refine gk 4 rfl ?_; first | refine sl_pass rfl rfl rfl rfl ?_ | refine sl_op rfl rfl rfl (by first | exact opv_len rfl rfl rfl rfl rfl ) ?_ | (refine sl_callT rfl rfl rfl rfl rfl rfl rfl rfl (hSt) ?_; rintro _ _ ⟨_, rfl, hS2, K2, sb2, n2, vals2, rfl, rfl, os2, hs1, hs2⟩; (clear hSt; haveI sl2 := os2.sl; obtain ⟨hn2, hR2⟩ := hs2 hw0); refine ⟨_, _, rfl, rfl, ?_⟩))
            | refine sl_region rfl ?_
            | refine sl_nil ?_
            | refine thn_k ?_
            | refine swp_false rfl ?_
            | refine swp_block ?_
            | refine swp_exit ?_
            | refine swp_skip ?_
            )
          refine swp_loopS (fun k : Nat => [(77, .agg ⟨ME⟩), (78, i64 (r : Int)), (10, .pointer (some ⟨β10, 0, none⟩)), (18, .slice sb2 n2 n2), (19, i64 (k : Int))])
            (fun _ => [hS2, K2, rBlk β10 sb kb cl w, hS, K1, K, J]) (fun k => k ≤ n2) (fun k => n2 - k) 0 (by repeat first | exact Sub.nil _ | refine Sub.cons rfl ?_) (Nat.zero_le _) ?_
          rintro k hk
          try dsimp only at hk ⊢
          by_cases hk2 : k < n2
          · obtain ⟨b1, m1, c1, g1, gs1, gl1, g8, gc1⟩ := hRows k (by omega)
            obtain ⟨b2, m2, c2, f1, fs2, fl2, f8, fc2⟩ := hR2 k (by omega)
            have hc1 : vals[((k : Nat) : Int).toNat * 1]? = some (.slice b1 m1 c1) := by simpa using g1
            have hc2 : vals2[((k : Nat) : Int).toNat * 1]? = some (.slice b2 m2 c2) := by simpa using f1
            haveI := gs1
            haveI := fs2
            have hv2 : vals2.length = n2 := by simpa using os2.hlen
            have hv1 : vals.length = cl := by simpa using osS.hlen
            have hq2 : ((k : Nat) : Int).toNat * 1 < vals2.length := by omega
            have hq1 : ((k : Nat) : Int).toNat * 1 < vals.length := by omega
            generalize (endG cs2).stk (k : Int) = xs at *
            repeat' (first
              | refine swp_seq ?_
              | (refine gk 0 rfl ?_; first | refine sl_op rfl rfl rfl (by first | exact opv_move rfl rfl ) ?_ )
              | (refine gk 2 rfl ?_; first | refine sl_yes rfl rfl rfl (by first | exact opv_lss rfl rfl rfl ) (by first | omega ) ?_ )
              | (refine gk 4 rfl ?_; first | refine sl_op rfl rfl rfl (by first | exact opv_len rfl rfl rfl rfl rfl ) ?_)
              | refine sl_region rfl ?_
              | refine sl_nil ?_
              | refine thn_k ?_
              | refine swp_true rfl ?_
              | refine swp_block ?_
              | refine swp_skip ?_
              )
            refine sl_drawC [.q [0, 1, 2, 3, 4, 5, 6, 7, 8], .h false 9, .q [10]] [] (by kernel_rfl) (by kernel_rfl) (by kernel_rfl) (by kernel_rfl) ?_
            repeat' (first
              | (refine gk 0 rfl ?_; first | refine sl_op rfl rfl rfl (by first | exact opv_move rfl rfl | exact opv_assign rfl rfl | exact opv_not_t rfl rfl ) ?_ )
              | (refine gk 1 rfl ?_; first | refine sl_op rfl rfl rfl (by first | exact opv_add64 rfl rfl rfl (by omega) (by omega) ) ?_ )
              | (refine gk 3 rfl ?_; first | refine sl_op rfl rfl rfl (by first | exact opv_load rfl (by exact rfl) rfl (by exact rfl) | exact opv_fieldAddr rfl rfl | exact opv_indexAddrI rfl rfl rfl (by omega) (by omega) (by first | omega ) | exact opv_loadEx rfl (by exact rfl) (by infer_instance) (by first | assumption ) ) ?_ )
              | refine sl_region rfl ?_
              | refine chu_nil ?_
              | refine chu_q rfl ?_
              | refine chu_PW rfl rfl rfl rfl rfl rfl rfl rfl (rSame_t _ b2 b1 m2 m1 c2 c1 xs fl2 gl1 (by omega)) ?_
              | refine sl_nil ?_
              | refine thn_k ?_
              | refine swp_false rfl ?_
              | refine swp_skip ?_
              )
            exact ⟨rfl, k + 1, next_ok (by repeat first | exact Sub.nil _ | refine Sub.cons rfl ?_), by omega, by omega⟩
          · repeat' (first
              | refine swp_seq ?_
              | (refine gk 0 rfl ?_; first | refine sl_op rfl rfl rfl (by first | exact opv_move rfl rfl ) ?_ )
              | (refine gk 1 rfl ?_; first | refine sl_op rfl rfl rfl (by first | exact opv_add64 rfl rfl rfl (by omega) (by omega) ) ?_ )
              | (refine gk 2 rfl ?_; first | refine sl_no rfl rfl rfl (by first | exact opv_lss rfl rfl rfl ) (by first | omega ) ?_ )
              | (refine gk 4 rfl ?_; first | refine sl_op rfl rfl rfl (by first | exact opv_len rfl rfl rfl rfl rfl ) ?_)
              | refine sl_region rfl ?_
              | refine sl_nil ?_
              | refine thn_k ?_
              | refine swp_false rfl ?_
              | refine swp_exit ?_
              )
            exact ⟨rfl, r + 1, next_ok (by repeat first | exact Sub.nil _ | refine Sub.cons rfl ?_), by omega, by omega⟩
    · repeat' (first
        | refine swp_seq ?_
        | (refine gk 0 rfl ?_; first | refine sl_op rfl rfl rfl (by first | exact opv_assign rfl rfl ) ?_ )
        | (refine gk 2 rfl ?_; first | refine sl_no rfl rfl rfl (by first | exact opv_lss rfl rfl rfl ) (by first | omega ) ?_ )
        | (refine gk 4 rfl ?_; first | refine sl_op rfl rfl rfl (opv_call rfl rfl rfl rfl rfl (run14)) ?_)
        | refine sl_region rfl ?_
        | refine sl_nil ?_
        | refine thn_k ?_
        | refine swp_false rfl ?_
        | refine swp_ret ?_
        | refine swp_exit ?_
        )
      exact end_retL [J] (resOk_one (resV_tmp rfl)) ⟨rfl, rfl⟩
end Go.Proofs.Ytifhhfeibnpaoaa
