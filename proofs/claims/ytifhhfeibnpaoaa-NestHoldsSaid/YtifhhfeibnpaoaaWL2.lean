/- The law NestHolds, walked. -/
import Derived.Test.YtifhhfeibnpaoaaWD4
import Derived.Test.YtifhhfeibnpaoaaWRZ
import Derived.Test.YtifhhfeibnpaoaaWP4
import Derived.Test.YtifhhfeibnpaoaaSlG8
namespace Go.Proofs.Ytifhhfeibnpaoaa
open Go.SL
set_option maxRecDepth 100000
set_option maxHeartbeats 16000000
set_option linter.unusedVariables false
attribute [local irreducible] SL.T PFn OpV SOL SWP HOp ChU
abbrev dV2 (bb : Option Addr) (bl bc : Nat) (odd at8 x0 x1 : Value) (a : Int) : Value := .agg ⟨[.slice bb bl bc, odd, at8, x0, x1, i64 a]⟩
/-- The cells of what is locked. -/
def flatH : List (Int × Int) → List Value
  | [] => []
  | x :: l => i64 x.1 :: i64 x.2 :: flatH l
theorem flatH_length : ∀ l : List (Int × Int), (flatH l).length = l.length * 2
  | [] => rfl
  | x :: l => by simp only [flatH, List.length_cons, flatH_length l]; omega
theorem flatH_append : ∀ l m : List (Int × Int), flatH (l ++ m) = flatH l ++ flatH m
  | [], m => rfl
  | x :: l, m => by simp only [flatH, List.cons_append, flatH_append l m]
theorem flatH_at : ∀ {l : List (Int × Int)} {k : Nat} {x : Int × Int}, l[k]? = some x → (flatH l)[k * 2]? = some (i64 x.1) ∧ (flatH l)[k * 2 + 1]? = some (i64 x.2)
  | [], k, x, h => by simp at h
  | y :: l, 0, x, h => by simp at h; subst h; exact ⟨rfl, rfl⟩
  | y :: l, k + 1, x, h => by
    have := flatH_at (l := l) (k := k) (by simpa using h)
    have e : (k + 1) * 2 = k * 2 + 2 := by omega
    simp only [e, flatH]
    simpa using this
theorem set_i64 {vals : List Int} {k j : Nat} {f : Int} (e : k = j) (hk : j < vals.length) : (vals.map i64).take k ++ [i64 f] ++ (vals.map i64).drop (k + 1) = (vals.set j f).map i64 := by
  subst e
  rw [List.map_set, List.set_eq_take_append_cons_drop, if_pos (by rw [List.length_map]; exact hk)]
  simp
structure SHo where
  i : Nat
  z : Nat
  last : Nat
  vals : List Int
  fr : Int
  lk : List (Int × Int)
  hL : Heap
  lb : Option Addr
  lc : Nat
  hV : Heap
abbrev nwBlk (β : Nat) (nk nv : Int) : Heap := blk β (.cells ⟨[i64 nk, i64 nv]⟩ 52 (0, 0))
abbrev inBlk (β : Nat) (op a b : Int) : Heap := blk β (.cells ⟨[i64 op, i64 a, i64 b]⟩ 29 (0, 0))
structure SIn where
  k : Nat
  f : Bool
structure SJ where
  nk : Int
  nv : Int
structure SK where
  vals : List Int
  fr : Int
  lk : List (Int × Int)
  hL : Heap
  lb : Option Addr
  lc : Nat
  hV : Heap
theorem NestHolds_calls (J : Heap) (bb : Option Addr) (bl bc : Nat) (B : List Int) (odd : Bool) (at8 x0 x1 v0 : Int) (wb : Option Addr) (wl wc : Nat) (W : List Int)
    [sB : Sl J bb (B.map u8)] [sW : Sl J wb (W.map u8)] (hB : ∀ x ∈ B, 0 ≤ x ∧ x ≤ 255) (hBl : B.length = bl) (hbc : bl ≤ bc) (hbs : bl ≤ 9223372036854775807)
    (ha : 0 ≤ at8 ∧ at8 ≤ 255) (hx0 : 0 ≤ x0 ∧ x0 ≤ 255) (hx1 : 0 ≤ x1 ∧ x1 ≤ 255)
    (hW : ∀ x ∈ W, 0 ≤ x ∧ x ≤ 255) (hWl : W.length = wl) (hws : wl ≤ 9223372036854775807) : PFn Try.prog 4 [dV2 bb bl bc (.bool odd) (u8 at8) (u8 x0) (u8 x1) v0, .slice wb wl wc] [J] (.bool true) := by
  obtain ⟨nb, hnb⟩ : ∃ n : Nat, n = (min (bl : Int) 200).toNat := ⟨_, rfl⟩
  have hnb1 : nb ≤ bl := by omega
  haveI sB2 : Sl J bb ((B.take nb).map u8) := by rw [List.map_take]; exact Sl.take sB _
  have hbl : (B.take nb).length = nb := by rw [List.length_take]; omega
  have hB2 : ∀ x ∈ B.take nb, 0 ≤ x ∧ x ≤ 255 := fun x hx => hB x (List.mem_of_mem_take hx)
  obtain ⟨mc, hmc⟩ : ∃ mc, mc = methF (B.take nb) odd at8 x0 x1 := ⟨_, rfl⟩
  have hml : mc.length ≤ 102 := by rw [hmc, methF_len]; exact drawF_lt hB2
  have hmp : 0 < mc.length := by rw [hmc, methF_len]; exact drawF_pos _
  have hlim : Lim mc := by rw [hmc]; exact methF_lim hB2 odd at8 x0 x1 hx1
  have hright : (endG mc).res = some (wrG mc) → 0 ≤ wrG mc → odd = true := fun he h0 => by
    cases odd
    · have e : mc = drawF (B.take nb) := hmc
      rw [e] at he h0
      have := drawF_right hB2 he
      omega
    · rfl
  refine pure_of_body Try.func4 rfl (Nat.le_of_ble_eq_true rfl) fun F => ?_
  repeat' (first
    | refine swp_seq ?_
    | (refine gk 0 rfl ?_; first | refine sl_op rfl rfl rfl (by first | exact opv_assign rfl rfl | exact opv_not_t rfl rfl ) ?_ )
    | (refine gk 3 rfl ?_; first | refine sl_op rfl rfl rfl (by first | exact opv_load rfl (by exact rfl) rfl (by exact rfl) | exact opv_fieldAddr rfl rfl ) ?_ )
    | (refine gk 4 rfl ?_; first | refine sl_op rfl rfl rfl (by first | exact opv_len rfl rfl rfl rfl rfl | exact opv_min rfl rfl rfl rfl rfl ) ?_ | refine sl_op rfl rfl rfl (opv_call rfl rfl rfl rfl rfl (run14)) ?_)
    | (refine gk 5 rfl ?_; first | refine sl_op rfl rfl rfl (by first | exact opv_sliceHi rfl rfl rfl (by omega) (by omega) ) ?_ | refine sl_box rfl rfl rfl rfl rfl rfl (fun β => ?_) | refine sl_store rfl rfl rfl rfl rfl rfl (by exact rfl) rfl (by exact rfl) ?_)
    | refine sl_region rfl ?_
    | refine sl_nil ?_
    | refine thn_k ?_
    | refine swp_false rfl ?_
    | refine swp_skip ?_
    )
  rw [← hnb]
  have hcall := Method_calls J β bb nb bc (B.take nb) hbl hB2 odd at8 x0 x1 v0 ha hx0 hx1
  rw [← hmc] at hcall
  clear hmc
  obtain ⟨w, hw⟩ : ∃ w, w = wrG mc := ⟨_, rfl⟩
  rw [← hw] at hright
  by_cases hw0 : 0 ≤ w
  · repeat' (first
      | refine swp_seq ?_
      | (refine gk 0 rfl ?_; first | refine sl_op rfl rfl rfl (by first | exact opv_move rfl rfl | exact opv_assign rfl rfl | exact opv_extract rfl rfl rfl ) ?_ )
      | (refine gk 2 rfl ?_; first | refine sl_yes rfl rfl rfl (by first | exact opv_geq rfl rfl rfl ) (by first | omega ) ?_ )
      | (refine gk 3 rfl ?_; first | refine sl_op rfl rfl rfl (by first | exact opv_load rfl (by exact rfl) rfl (by exact rfl) | exact opv_fieldAddr rfl rfl | exact opv_loadA rfl (by exact rfl) rfl (by exact rfl) (by exact rfl) ) ?_ )
      | (refine gk 4 rfl ?_; first | (refine sl_callT rfl rfl rfl rfl rfl rfl rfl rfl (hcall) ?_; rintro _ _ ⟨hP, bP, cP, a3, rfl, rfl, osP⟩; (clear hcall; haveI slP := osP.sl; have hC := Check_calls hP (.slice none 0 0) 8 8 bP mc.length cP mc rfl (by omega); simp only [← hw, if_pos hw0] at hC); refine ⟨_, _, rfl, rfl, ?_⟩) | (refine sl_callT rfl rfl rfl rfl rfl rfl rfl rfl (hC) ?_; rintro _ _ ⟨_, rfl, rfl, rfl, hE⟩; clear hC; refine ⟨_, _, rfl, rfl, ?_⟩))
      | (refine gk 5 rfl ?_; first | refine sl_alloc rfl rfl rfl rfl (by exact rfl) (fun β => ?_) | refine sl_store rfl rfl rfl rfl rfl rfl (by exact rfl) rfl (by exact rfl) ?_)
      | refine sl_region rfl ?_
      | refine sl_nil ?_
      | refine thn_k ?_
      | refine swp_true rfl ?_
      | refine swp_ret ?_
      | refine thn_ret ?_
      )
    obtain rfl := hright hE hw0
    exact end_retL [J] (resOk_one (resV_tmp rfl)) ⟨rfl, rfl⟩
  · repeat' (first
      | refine sl_makeSlice (m := 300) rfl rfl rfl rfl rfl rfl rfl (by omega) (by omega) (fun bV hV0 osV0 => ?_)
      | refine swp_seq ?_
      | (refine gk 0 rfl ?_; first | refine sl_op rfl rfl rfl (by first | exact opv_move rfl rfl | exact opv_assign rfl rfl | exact opv_extract rfl rfl rfl ) ?_ )
      | (refine gk 2 rfl ?_; first | refine sl_no rfl rfl rfl (by first | exact opv_geq rfl rfl rfl ) (by first | omega ) ?_ )
      | (refine gk 3 rfl ?_; first | refine sl_op rfl rfl rfl (by first | exact opv_loadA rfl (by exact rfl) rfl (by exact rfl) (by exact rfl) ) ?_ )
      | (refine gk 4 rfl ?_; first | (refine sl_callT rfl rfl rfl rfl rfl rfl rfl rfl (hcall) ?_; rintro _ _ ⟨hP, bP, cP, a3, rfl, rfl, osP⟩; (clear hcall; haveI slP := osP.sl; have hC := Check_calls hP (.slice none 0 0) 8 8 bP mc.length cP mc rfl (by omega); simp only [← hw, if_neg hw0] at hC); refine ⟨_, _, rfl, rfl, ?_⟩) | (refine sl_callT rfl rfl rfl rfl rfl rfl rfl rfl (hC) ?_; rintro _ _ ⟨_, rfl, rfl, rfl, hE⟩; clear hC; refine ⟨_, _, rfl, rfl, ?_⟩))
      | (refine gk 5 rfl ?_; first | refine sl_alloc rfl rfl rfl rfl (by exact rfl) (fun β => ?_) | refine sl_store rfl rfl rfl rfl rfl rfl (by exact rfl) rfl (by exact rfl) ?_)
      | refine sl_region rfl ?_
      | refine sl_nil ?_
      | refine thn_k ?_
      | refine swp_false rfl ?_
      | refine swp_block ?_
      | refine swp_skip ?_
      )
    have hr : Rgt mc := right_end hmp (by rw [hE, show w = -1 from by have := wrG_pos (cs := mc) (by rw [hE, hw]); omega])
    obtain ⟨β5, hβ5⟩ : ∃ x, x = β := ⟨_, rfl⟩
    rw [← hβ5]
    refine swp_emp ?_
    refine swp_loopS (fun s : SHo => [(1, .slice wb wl wc), (5, .pointer (some ⟨β5, 0, none⟩)), (8, .slice (some ⟨bV, 0, none⟩) 300 300), (9, i64 s.fr), (10, .slice s.lb s.lk.length s.lc), (11, i64 (s.z : Int)), (12, i64 (s.last : Int)), (13, i64 (s.i : Int))])
      (fun s => [J, hP, blk β5 (.cells ⟨[.slice none 0 0, i64 8, i64 8, .slice bP mc.length cP]⟩ 32 (0, 0)), s.hV, s.hL])
      (fun s => s.i ≤ 200 ∧ Sim mc s.z s.last s.vals s.lk ∧ s.vals.length = 300 ∧ OS s.hV (some ⟨bV, 0, none⟩) 300 300 3 1 (s.vals.map i64) ∧ OS s.hL s.lb s.lk.length s.lc 52 2 (flatH s.lk) ∧ (0 ≤ s.fr ∧ s.fr ≤ s.i) ∧ s.lk.length ≤ 8) (fun s => 200 - s.i)
      ⟨0, 0, 0, List.replicate 300 0, 0, [], emp, none, 0, hV0⟩ (by repeat first | exact Sub.nil _ | refine Sub.cons rfl ?_) ⟨Nat.zero_le _, Sim.start hr, List.length_replicate .., by rw [List.map_replicate]; exact osV0, OS.nil, ⟨Int.le_refl _, Int.le_refl _⟩, Nat.zero_le _⟩ ?_
    rintro ⟨i, z, last, vals, fr, lk, hL, lbase, lc, hV⟩ ⟨hi1, hsim, hvl, osV, osL, hfr, hlk8⟩
    dsimp only at hi1 hsim hvl osV osL hfr hlk8 ⊢
    clear osV0 hright
    by_cases hi : i < 200
    · have hzl := hsim.lt hr
      haveI slV := osV.sl
      haveI slL := osL.sl
      have hfl := flatI_length mc
      obtain ⟨⟨op, a, b⟩, hx⟩ : ∃ x, mc[z]? = some x := ⟨_, List.getElem?_eq_getElem hzl⟩
      obtain ⟨d0', d1', d2'⟩ := flatI_at hx
      have d0 : (flatI mc)[((z : Nat) : Int).toNat * 3]? = some (i64 op) := d0'
      have d1 : (flatI mc)[((z : Nat) : Int).toNat * 3 + 1]? = some (i64 a) := d1'
      have d2 : (flatI mc)[((z : Nat) : Int).toNat * 3 + 2]? = some (i64 b) := d2'
      clear d0' d1' d2'
      have hq : ((z : Nat) : Int).toNat * 3 < (flatI mc).length := by rw [hfl]; omega
      repeat' ((fail_if_success (refine stop_at 17 ?_)); (first
        | refine swp_seq ?_
        | (refine gk 0 rfl ?_; first | refine sl_op rfl rfl rfl (by first | exact opv_move rfl rfl ) ?_ )
        | (refine gk 2 rfl ?_; first | refine sl_yes rfl rfl rfl (by first | exact opv_lss rfl rfl rfl ) (by first | omega ) ?_ )
        | (refine gk 3 rfl ?_; first | refine sl_op rfl rfl rfl (by first | exact opv_load rfl (by exact rfl) rfl (by exact rfl) | exact opv_fieldAddr rfl rfl | exact opv_indexAddrI rfl rfl rfl (by omega) (by omega) (by first | omega ) | exact opv_load3 rfl (by exact rfl) (by infer_instance) (by assumption) (by assumption) (by assumption)) ?_ )
        | (refine gk 5 rfl ?_; first | refine sl_op rfl rfl rfl (by first | exact opv_build rfl rfl (by exact rfl) ) ?_ | refine sl_alloc rfl rfl rfl rfl (by exact rfl) (fun β => ?_) | refine sl_store rfl rfl rfl rfl rfl rfl (by exact rfl) rfl (by exact rfl) ?_)
        | refine sl_region rfl ?_
        | refine sl_nil ?_
        | refine thn_k ?_
        | refine swp_true rfl ?_
        | refine swp_block ?_
        | refine swp_skip ?_
        ))
      refine swp_seq ?_
      obtain ⟨β15, hβ15⟩ : ∃ x, x = β := ⟨_, rfl⟩
      rw [← hβ15]
      rename_i β14
      refine swp_joinS (fun s : SJ => [(1, .slice wb wl wc), (5, .pointer (some ⟨β5, 0, none⟩)), (8, .slice (some ⟨bV, 0, none⟩) 300 300), (9, i64 fr), (10, .slice lbase lk.length lc), (11, i64 (z : Int)), (12, i64 (last : Int)), (13, i64 (i : Int)), (14, .pointer (some ⟨β14, 0, none⟩)), (15, .pointer (some ⟨β15, 0, none⟩))])
        (fun s => [J, hP, blk β5 (.cells ⟨[.slice none 0 0, i64 8, i64 8, .slice bP mc.length cP]⟩ 32 (0, 0)), hV, hL, inBlk β14 op a b, nwBlk β15 s.nk s.nv])
        (fun s => five op → ∃ kb t, z = last + 1 ∧ mc[last]? = some (2, s.nk, kb) ∧ (0 ≤ s.nk ∧ s.nk < 300) ∧ vals[s.nk.toNat]? = some s.nv ∧ behF mc z ((endG mc).stk z) = some t ∧ doF op s.nk (lk.map (·.1)) = some t) ?_ ?_
      · by_cases hz0 : 0 < z
        · obtain ⟨⟨op1, a1, b1⟩, hx1⟩ : ∃ x, mc[z - 1]? = some x := ⟨_, List.getElem?_eq_getElem (by omega)⟩
          have hla := hlim _ (List.mem_of_getElem? hx1)
          dsimp only at hla
          obtain ⟨-, e1', -⟩ := flatI_at hx1
          have ez : (((z : Nat) : Int) - 1).toNat = z - 1 := by omega
          have e1 : (flatI mc)[(((z : Nat) : Int) - 1).toNat * 3 + 1]? = some (i64 a1) := by rw [ez]; exact e1'
          clear e1'
          have hq1 : (((z : Nat) : Int) - 1).toNat * 3 < (flatI mc).length := by omega
          have hmod : a1 % 300 = a1 := Int.emod_eq_of_lt hla.1 hla.2
          obtain ⟨v, hv⟩ : ∃ v, vals[a1.toNat]? = some v := ⟨_, List.getElem?_eq_getElem (by omega)⟩
          have hcv : (vals.map i64)[(a1 % 300).toNat * 1]? = some (i64 v) := by rw [hmod, Nat.mul_one, List.getElem?_map, hv]; rfl
          have hqv : (a1 % 300).toNat * 1 < (vals.map i64).length := by rw [List.length_map]; omega
          repeat' (first
            | first | refine sl_op rfl rfl rfl (opv_convert8 rfl rfl (by omega) (by omega)) ?_ | refine sl_op rfl rfl rfl (opv_remE rfl rfl rfl (by omega) (by omega)) ?_
            | refine swp_seq ?_
            | (refine gk 0 rfl ?_; first | refine sl_op rfl rfl rfl (by first | exact opv_move rfl rfl | exact opv_assign rfl rfl ) ?_ )
            | (refine gk 1 rfl ?_; first | refine sl_op rfl rfl rfl (by first | exact opv_sub64 rfl rfl rfl (by omega) (by omega) ) ?_ )
            | (refine gk 2 rfl ?_; first | refine sl_yes rfl rfl rfl (by first | exact opv_gtr rfl rfl rfl ) (by first | omega ) ?_ )
            | (refine gk 3 rfl ?_; first | refine sl_op rfl rfl rfl (by first | exact opv_load rfl (by exact rfl) rfl (by exact rfl) | exact opv_fieldAddr rfl rfl | exact opv_indexAddrI rfl rfl rfl (by omega) (by omega) (by first | omega ) | exact opv_fieldAddrE rfl rfl (by first | assumption ) | exact opv_loadEx rfl (by exact rfl) (by infer_instance) (by first | assumption ) ) ?_ )
            | (refine gk 4 rfl ?_; first | refine sl_pass rfl rfl rfl rfl ?_ )
            | (refine gk 5 rfl ?_; first | refine sl_op rfl rfl rfl (by first | exact opv_build rfl rfl (by exact rfl) ) ?_ | refine sl_store rfl rfl rfl rfl rfl rfl (by exact rfl) rfl (by exact rfl) ?_)
            | refine sl_region rfl ?_
            | refine chu_nil ?_
            | refine chu_q rfl ?_
            | refine chu_f rfl ?_
            | refine chu_r rfl ?_
            | refine chu_new rfl rfl (by first | exact new_alloc rfl (by exact rfl) ) ?_
            | refine chu_rv rfl rfl rfl (fun β => ?_)
            | refine chu_pass rfl rfl rfl rfl ?_
            | refine chu_store rfl rfl rfl rfl rfl rfl (by exact rfl) rfl (by exact rfl) (by exact rfl) ?_
            | refine sl_nil ?_
            | refine thn_k ?_
            | refine swp_true rfl ?_
            | refine swp_false rfl ?_
            | refine swp_block ?_
            | refine swp_ret ?_
            | refine swp_exit ?_
            | refine swp_skip ?_
            | refine thn_ret ?_
            | refine inb_ret ?_
            | refine inb_k ?_
            | refine thn_exit ?_
            | refine inb_exit ?_
            | refine inb_out rfl ?_)
          refine ⟨rfl, ⟨a1 % 300, v⟩, next_ok (by repeat first | exact Sub.nil _ | refine Sub.cons rfl ?_), fun h5 => ?_⟩
          obtain ⟨k, kb, v', t, f1, f2, f3, f4, f5, f6⟩ := hsim.asks hr hlim hvl hx h5
          subst f1
          rw [Nat.add_sub_cancel, f2] at hx1
          obtain ⟨⟨rfl, rfl⟩, rfl⟩ : ((2 = op1 ∧ k = a1) ∧ kb = b1) := by simpa [and_assoc] using hx1
          dsimp only
          rw [hmod]
          rw [hv] at f4
          cases f4
          exact ⟨kb, t, rfl, f2, f3, hv, f5, f6⟩
        · repeat' (first
            | refine swp_seq ?_
            | (refine gk 0 rfl ?_; first | refine sl_op rfl rfl rfl (by first | exact opv_move rfl rfl ) ?_ )
            | (refine gk 2 rfl ?_; first | refine sl_no rfl rfl rfl (by first | exact opv_gtr rfl rfl rfl ) (by first | omega ) ?_ )
            | refine sl_region rfl ?_
            | refine sl_nil ?_
            | refine thn_k ?_
            | refine swp_false rfl ?_
            | refine swp_skip ?_
            )
          refine ⟨rfl, ⟨0, 0⟩, next_ok (by repeat first | exact Sub.nil _ | refine Sub.cons rfl ?_), fun h5 => ?_⟩
          obtain ⟨k, kb, v', t, f1, -⟩ := hsim.asks hr hlim hvl hx h5
          exact absurd f1 (by omega)
      · rintro ⟨nk, nv⟩ hI1
        dsimp only at hI1 ⊢
        repeat' ((fail_if_success (refine stop_at 20 ?_)); (first
          | refine swp_seq ?_
          ))
        refine swp_seq ?_
        refine swp_joinS (fun s : SK => [(1, .slice wb wl wc), (5, .pointer (some ⟨β5, 0, none⟩)), (8, .slice (some ⟨bV, 0, none⟩) 300 300), (9, i64 s.fr), (10, .slice s.lb s.lk.length s.lc), (11, i64 (z : Int)), (12, i64 (last : Int)), (13, i64 (i : Int)), (14, .pointer (some ⟨β14, 0, none⟩))])
          (fun s => [J, hP, blk β5 (.cells ⟨[.slice none 0 0, i64 8, i64 8, .slice bP mc.length cP]⟩ 32 (0, 0)), inBlk β14 op a b, s.hV, s.hL])
          (fun s => behF mc z ((endG mc).stk z) = some (s.lk.map (·.1)) ∧ (∀ p ∈ s.lk, (0 ≤ p.1 ∧ p.1 < 300) ∧ s.vals[p.1.toNat]? = some p.2) ∧ s.vals.length = 300 ∧ OS s.hV (some ⟨bV, 0, none⟩) 300 300 3 1 (s.vals.map i64) ∧ OS s.hL s.lb s.lk.length s.lc 52 2 (flatH s.lk) ∧ (0 ≤ s.fr ∧ s.fr ≤ (i : Int) + 1) ∧ s.lk.length ≤ 8 ∧ (op = 20 → s.lk = [])) ?_ ?_
        · by_cases h5 : five op
          · obtain ⟨kb, t, f1, f2, f3, f4, f5, f6⟩ := hI1 h5
            clear hI1
            rcases five_iff.1 h5 with rfl | rfl | rfl | rfl | rfl
            · obtain ⟨g1, g2, g3⟩ := hsim.lock f3 f4 f6
              repeat' (first
                | refine swp_seq ?_
                | (refine gk 0 rfl ?_; first | refine sl_op rfl rfl rfl (by first | exact opv_move rfl rfl | exact opv_assign rfl rfl ) ?_ )
                | (refine gk 2 rfl ?_; first | refine sl_yes rfl rfl rfl (by first | exact opv_eql rfl rfl rfl ) (by first | omega ) ?_ )
                | (refine gk 3 rfl ?_; first | refine sl_op rfl rfl rfl (by first | exact opv_load rfl (by exact rfl) rfl (by exact rfl) | exact opv_fieldAddr rfl rfl | exact opv_loadA rfl (by exact rfl) rfl (by exact rfl) (by exact rfl) ) ?_ )
                | (refine gk 4 rfl ?_; first | (refine sl_append rfl rfl rfl rfl rfl rfl rfl rfl rfl osL (by decide) rfl (by decide) rfl (by omega) (by omega) (fun h3 b3 c3 os3 => ?_)))
                | (refine gk 5 rfl ?_; first | refine sl_buildSlice rfl rfl rfl rfl rfl (by exact rfl) (by exact rfl) (by exact rfl) (by exact rfl) rfl (fun b => ?_) )
                | refine sl_region rfl ?_
                | refine sl_nil ?_
                | refine thn_k ?_
                | refine swp_true rfl ?_
                | refine swp_block ?_
                | refine inb_k ?_
                )
              have el : lk.length + 1 = (lk ++ [(nk, nv)]).length := by simp
              have os4 : OS h3 b3 (lk ++ [(nk, nv)]).length c3 52 2 (flatH (lk ++ [(nk, nv)])) := by rw [flatH_append, ← el]; exact os3
              rw [el]
              exact ⟨rfl, ⟨vals, fr, lk ++ [(nk, nv)], h3, b3, c3, hV⟩, next_ok (by repeat first | exact Sub.nil _ | refine Sub.cons rfl ?_), by rw [f5, g1], g2, hvl, osV, os4, by dsimp only; omega, by dsimp only; omega, fun h => absurd h (by decide)⟩
            · obtain ⟨l, g1, g2, g3⟩ := hsim.unlock f4 f6
              subst g1
              have hfh := flatH_length l
              have hft : flatH (l ++ [(nk, nv)]) = flatH l ++ [i64 nk, i64 nv] := flatH_append l _
              have hln : (l ++ [(nk, nv)]).length = l.length + 1 := by simp
              rw [hln, hft] at osL
              rw [hft] at slL
              rw [hln]
              have el : (((l.length + 1 : Nat) : Int) - 1).toNat = l.length := by omega
              have k0 : (flatH l ++ [i64 nk, i64 nv])[(((l.length + 1 : Nat) : Int) - 1).toNat * 2]? = some (i64 nk) := by
                rw [el, List.getElem?_append_right (by omega), hfh]; simp
              have k1 : (flatH l ++ [i64 nk, i64 nv])[(((l.length + 1 : Nat) : Int) - 1).toNat * 2 + 1]? = some (i64 nv) := by
                rw [el, List.getElem?_append_right (by omega), hfh]; simp
              have hqh : (((l.length + 1 : Nat) : Int) - 1).toNat * 2 < (flatH l ++ [i64 nk, i64 nv]).length := by
                rw [List.length_append, el, hfh]; simp
              have hlz : ((z : Nat) : Int) - 1 = (last : Int) := by omega
              have hle := osL.hle
              repeat' (first
                | refine swp_seq ?_
                | (refine gk 0 rfl ?_; first | refine sl_op rfl rfl rfl (by first | exact opv_assign rfl rfl ) ?_ )
                | (refine gk 2 rfl ?_; first | refine sl_yes rfl rfl rfl (by first | exact opv_eql rfl rfl rfl ) (by first | omega ) ?_ | refine sl_no rfl rfl rfl (by first | exact opv_eql rfl rfl rfl ) (by first | omega ) ?_ )
                | (refine gk 3 rfl ?_; first | refine sl_op rfl rfl rfl (by first | exact opv_load rfl (by exact rfl) rfl (by exact rfl) | exact opv_fieldAddr rfl rfl ) ?_ )
                | refine sl_region rfl ?_
                | refine sl_nil ?_
                | refine thn_k ?_
                | refine swp_true rfl ?_
                | refine swp_false rfl ?_
                | refine swp_block ?_
                )
              refine sl_drawC [.q [0, 1, 2, 3, 4, 5, 6, 7, 8, 9, 10, 11, 12, 13, 14, 15, 16, 17, 18]] [] (by kernel_rfl) (by kernel_rfl) (by kernel_rfl) (by kernel_rfl) ?_
              repeat' (first
                | refine swp_seq ?_
                | (refine gk 0 rfl ?_; first | refine sl_op rfl rfl rfl (by first | exact opv_move rfl rfl | exact opv_assign rfl rfl | exact opv_pick_t rfl rfl rfl | exact opv_pick_f rfl rfl rfl ) ?_ | refine sl_pass rfl rfl rfl rfl ?_)
                | (refine gk 1 rfl ?_; first | refine sl_op rfl rfl rfl (by first | exact opv_sub64 rfl rfl rfl (by omega) (by omega) ) ?_ | refine sl_pass rfl rfl rfl rfl ?_)
                | (refine gk 2 rfl ?_; first | refine sl_pass rfl rfl rfl rfl ?_ | refine sl_no rfl rfl rfl (by first | exact opv_eql rfl rfl rfl | exact opv_neq rfl rfl rfl) (by first | omega ) ?_ | refine sl_bool rfl rfl rfl (by first | exact opv_neqS rfl rfl rfl rfl) (fun h => ?_) (fun h => ?_))
                | (refine gk 3 rfl ?_; first | refine sl_op rfl rfl rfl (by first | exact opv_loadA rfl (by exact rfl) rfl (by exact rfl) (by exact rfl) | exact opv_indexAddrI rfl rfl rfl (by omega) (by omega) (by first | omega ) | exact opv_load2 rfl (by exact rfl) (by infer_instance) (by assumption) (by assumption) ) ?_ )
                | (refine gk 4 rfl ?_; first | refine sl_op rfl rfl rfl (by first | exact opv_len rfl rfl rfl rfl rfl ) ?_)
                | (refine gk 5 rfl ?_; first | refine sl_op rfl rfl rfl (by first | exact opv_sliceHi rfl rfl rfl (by omega) (by omega) ) ?_ )
                | refine sl_region rfl ?_
                | refine chu_nil ?_
                | refine chu_q rfl ?_
                | refine sl_nil ?_
                | refine thn_k ?_
                | refine swp_true rfl ?_
                | refine swp_false rfl ?_
                | refine swp_ret ?_
                | refine swp_skip ?_
                | refine thn_ret ?_
                | refine inb_ret ?_
                | refine inb_k ?_
                )
              · simp at h
              · rw [el]
                exact ⟨rfl, ⟨vals, fr, l, hL, lbase, lc, hV⟩, next_ok (by repeat first | exact Sub.nil _ | refine Sub.cons rfl ?_), by rw [f5, g2], g3, hvl, osV, osL.init hfh, by dsimp only; omega, by dsimp only; omega, fun h => absurd h (by decide)⟩
            · obtain ⟨g1, g2⟩ := hsim.held (by decide) f4 f6
              repeat' (first
                | refine swp_seq ?_
                | (refine gk 0 rfl ?_; first | refine sl_op rfl rfl rfl (by first | exact opv_assign rfl rfl ) ?_ )
                | (refine gk 2 rfl ?_; first | refine sl_yes rfl rfl rfl (by first | exact opv_eql rfl rfl rfl ) (by first | omega ) ?_ | refine sl_no rfl rfl rfl (by first | exact opv_eql rfl rfl rfl ) (by first | omega ) ?_ )
                | (refine gk 3 rfl ?_; first | refine sl_op rfl rfl rfl (by first | exact opv_load rfl (by exact rfl) rfl (by exact rfl) | exact opv_fieldAddr rfl rfl ) ?_ )
                | refine sl_region rfl ?_
                | refine sl_nil ?_
                | refine thn_k ?_
                | refine swp_true rfl ?_
                | refine swp_false rfl ?_
                | refine swp_block ?_
                | refine swp_skip ?_
                )
              refine swp_loopS (fun s : SIn => [(1, .slice wb wl wc), (5, .pointer (some ⟨β5, 0, none⟩)), (8, .slice (some ⟨bV, 0, none⟩) 300 300), (9, i64 fr), (10, .slice lbase lk.length lc), (11, i64 (z : Int)), (12, i64 (last : Int)), (13, i64 (i : Int)), (14, .pointer (some ⟨β14, 0, none⟩)), (15, .pointer (some ⟨β15, 0, none⟩)), (17, .bool s.f), (18, i64 (s.k : Int))])
                (fun _ => [J, hP, blk β5 (.cells ⟨[.slice none 0 0, i64 8, i64 8, .slice bP mc.length cP]⟩ 32 (0, 0)), hV, hL, inBlk β14 14 a b, nwBlk β15 nk nv]) (fun s => s.k ≤ lk.length ∧ (s.f = true ∨ (nk, nv) ∉ lk.take s.k)) (fun s => lk.length - s.k) ⟨0, false⟩ (by repeat first | exact Sub.nil _ | refine Sub.cons rfl ?_) ⟨Nat.zero_le _, .inr (by simp)⟩ ?_
              rintro ⟨k, f⟩ ⟨hk, hf⟩
              dsimp only at hk hf ⊢
              by_cases hk2 : k < lk.length
              · obtain ⟨⟨a2, b2⟩, hy⟩ : ∃ y, lk[k]? = some y := ⟨_, List.getElem?_eq_getElem hk2⟩
                obtain ⟨y0', y1'⟩ := flatH_at hy
                have y0 : (flatH lk)[((k : Nat) : Int).toNat * 2]? = some (i64 a2) := y0'
                have y1 : (flatH lk)[((k : Nat) : Int).toNat * 2 + 1]? = some (i64 b2) := y1'
                have hqk : ((k : Nat) : Int).toNat * 2 < (flatH lk).length := by rw [flatH_length]; omega
                cases f with
                | true =>
                  repeat' (first
                    | refine swp_seq ?_
                    | (refine gk 0 rfl ?_; first | refine sl_op rfl rfl rfl (by first | exact opv_move rfl rfl ) ?_ )
                    | (refine gk 2 rfl ?_; first | refine sl_yes rfl rfl rfl (by first | exact opv_lss rfl rfl rfl ) (by first | omega ) ?_ )
                    | (refine gk 4 rfl ?_; first | refine sl_op rfl rfl rfl (by first | exact opv_len rfl rfl rfl rfl rfl ) ?_)
                    | refine sl_region rfl ?_
                    | refine sl_nil ?_
                    | refine thn_k ?_
                    | refine swp_true rfl ?_
                    | refine swp_block ?_
                    | refine swp_skip ?_
                    )
                  refine sl_drawC [.q [0, 1, 2, 3, 4, 5, 6, 7, 8, 9]] [] (by kernel_rfl) (by kernel_rfl) (by kernel_rfl) (by kernel_rfl) ?_
                  repeat' (first
                    | (refine gk 0 rfl ?_; first | refine sl_op rfl rfl rfl (by first | exact opv_move rfl rfl | exact opv_assign rfl rfl | exact opv_pick_t rfl rfl rfl ) ?_ | refine sl_pass rfl rfl rfl rfl ?_)
                    | (refine gk 1 rfl ?_; first | refine sl_op rfl rfl rfl (by first | exact opv_add64 rfl rfl rfl (by omega) (by omega) ) ?_ )
                    | (refine gk 2 rfl ?_; first | refine sl_pass rfl rfl rfl rfl ?_ )
                    | (refine gk 3 rfl ?_; first | refine sl_pass rfl rfl rfl rfl ?_)
                    | refine sl_region rfl ?_
                    | refine chu_nil ?_
                    | refine chu_q rfl ?_
                    | refine sl_nil ?_
                    | refine thn_k ?_
                    )
                  exact ⟨rfl, ⟨k + 1, true⟩, next_ok (by repeat first | exact Sub.nil _ | refine Sub.cons rfl ?_), ⟨by dsimp only; omega, .inl rfl⟩, by dsimp only; omega⟩
                | false =>
                  repeat' (first
                    | refine swp_seq ?_
                    | (refine gk 0 rfl ?_; first | refine sl_op rfl rfl rfl (by first | exact opv_move rfl rfl ) ?_ )
                    | (refine gk 2 rfl ?_; first | refine sl_yes rfl rfl rfl (by first | exact opv_lss rfl rfl rfl ) (by first | omega ) ?_ )
                    | (refine gk 4 rfl ?_; first | refine sl_op rfl rfl rfl (by first | exact opv_len rfl rfl rfl rfl rfl ) ?_)
                    | refine sl_region rfl ?_
                    | refine sl_nil ?_
                    | refine thn_k ?_
                    | refine swp_true rfl ?_
                    | refine swp_block ?_
                    | refine swp_skip ?_
                    )
                  refine sl_drawC [.q [0, 1, 2, 3, 4, 5, 6, 7, 8, 9]] [] (by kernel_rfl) (by kernel_rfl) (by kernel_rfl) (by kernel_rfl) ?_
                  repeat' (first
                    | (refine gk 0 rfl ?_; first | refine sl_op rfl rfl rfl (by first | exact opv_move rfl rfl | exact opv_assign rfl rfl | exact opv_pick_f rfl rfl rfl ) ?_ )
                    | (refine gk 1 rfl ?_; first | refine sl_op rfl rfl rfl (by first | exact opv_add64 rfl rfl rfl (by omega) (by omega) ) ?_ )
                    | (refine gk 2 rfl ?_; first | refine sl_bool rfl rfl rfl (by first | exact opv_eqlS rfl rfl rfl rfl ) (fun h => ?_) (fun h => ?_))
                    | (refine gk 3 rfl ?_; first | refine sl_op rfl rfl rfl (by first | exact opv_loadA rfl (by exact rfl) rfl (by exact rfl) (by exact rfl) | exact opv_indexAddrI rfl rfl rfl (by omega) (by omega) (by first | omega ) | exact opv_load2 rfl (by exact rfl) (by infer_instance) (by assumption) (by assumption) ) ?_ )
                    | refine sl_region rfl ?_
                    | refine chu_nil ?_
                    | refine chu_q rfl ?_
                    | refine sl_nil ?_
                    | refine thn_k ?_
                    )
                  · exact ⟨rfl, ⟨k + 1, true⟩, next_ok (by repeat first | exact Sub.nil _ | refine Sub.cons rfl ?_), ⟨by dsimp only; omega, .inl rfl⟩, by dsimp only; omega⟩
                  · refine ⟨rfl, ⟨k + 1, false⟩, next_ok (by repeat first | exact Sub.nil _ | refine Sub.cons rfl ?_), ⟨by dsimp only; omega, .inr (fun hm => ?_)⟩, by dsimp only; omega⟩
                    dsimp only at hm
                    rw [List.take_add_one, hy] at hm
                    rcases List.mem_append.1 hm with hm | hm
                    · exact hf.elim (fun e => by cases e) (fun hn => hn hm)
                    · have e2 : (nk, nv) = (a2, b2) := by simpa using hm
                      injection e2 with e3 e4
                      subst e3 e4
                      simp at h
              · obtain rfl : f = true := hf.elim (fun e => e) (fun hn => absurd (by rw [List.take_of_length_le (by omega)]; exact g2) hn)
                repeat' (first
                  | refine swp_seq ?_
                  | (refine gk 0 rfl ?_; first | refine sl_op rfl rfl rfl (by first | exact opv_move rfl rfl | exact opv_not_t rfl rfl ) ?_ )
                  | (refine gk 2 rfl ?_; first | refine sl_no rfl rfl rfl (by first | exact opv_lss rfl rfl rfl ) (by first | omega ) ?_ )
                  | (refine gk 4 rfl ?_; first | refine sl_op rfl rfl rfl (by first | exact opv_len rfl rfl rfl rfl rfl ) ?_)
                  | refine sl_region rfl ?_
                  | refine sl_nil ?_
                  | refine thn_k ?_
                  | refine swp_false rfl ?_
                  | refine swp_exit ?_
                  | refine swp_skip ?_
                  | refine inb_k ?_
                  )
                exact ⟨rfl, ⟨vals, fr, lk, hL, lbase, lc, hV⟩, next_ok (by repeat first | exact Sub.nil _ | refine Sub.cons rfl ?_), by rw [f5, g1], hsim.val, hvl, osV, osL, by dsimp only; omega, hlk8, fun h => absurd h (by decide)⟩
            · obtain ⟨g1, g2⟩ := hsim.held (by decide) f4 f6
              repeat' (first
                | refine swp_seq ?_
                | (refine gk 0 rfl ?_; first | refine sl_op rfl rfl rfl (by first | exact opv_assign rfl rfl ) ?_ )
                | (refine gk 2 rfl ?_; first | refine sl_yes rfl rfl rfl (by first | exact opv_eql rfl rfl rfl ) (by first | omega ) ?_ | refine sl_no rfl rfl rfl (by first | exact opv_eql rfl rfl rfl ) (by first | omega ) ?_ )
                | (refine gk 3 rfl ?_; first | refine sl_op rfl rfl rfl (by first | exact opv_load rfl (by exact rfl) rfl (by exact rfl) | exact opv_fieldAddr rfl rfl ) ?_ )
                | refine sl_region rfl ?_
                | refine sl_nil ?_
                | refine thn_k ?_
                | refine swp_true rfl ?_
                | refine swp_false rfl ?_
                | refine swp_block ?_
                | refine swp_skip ?_
                )
              refine swp_loopS (fun s : SIn => [(1, .slice wb wl wc), (5, .pointer (some ⟨β5, 0, none⟩)), (8, .slice (some ⟨bV, 0, none⟩) 300 300), (9, i64 fr), (10, .slice lbase lk.length lc), (11, i64 (z : Int)), (12, i64 (last : Int)), (13, i64 (i : Int)), (14, .pointer (some ⟨β14, 0, none⟩)), (15, .pointer (some ⟨β15, 0, none⟩)), (17, .bool s.f), (18, i64 (s.k : Int))])
                (fun _ => [J, hP, blk β5 (.cells ⟨[.slice none 0 0, i64 8, i64 8, .slice bP mc.length cP]⟩ 32 (0, 0)), hV, hL, inBlk β14 15 a b, nwBlk β15 nk nv]) (fun s => s.k ≤ lk.length ∧ (s.f = true ∨ (nk, nv) ∉ lk.take s.k)) (fun s => lk.length - s.k) ⟨0, false⟩ (by repeat first | exact Sub.nil _ | refine Sub.cons rfl ?_) ⟨Nat.zero_le _, .inr (by simp)⟩ ?_
              rintro ⟨k, f⟩ ⟨hk, hf⟩
              dsimp only at hk hf ⊢
              by_cases hk2 : k < lk.length
              · obtain ⟨⟨a2, b2⟩, hy⟩ : ∃ y, lk[k]? = some y := ⟨_, List.getElem?_eq_getElem hk2⟩
                obtain ⟨y0', y1'⟩ := flatH_at hy
                have y0 : (flatH lk)[((k : Nat) : Int).toNat * 2]? = some (i64 a2) := y0'
                have y1 : (flatH lk)[((k : Nat) : Int).toNat * 2 + 1]? = some (i64 b2) := y1'
                have hqk : ((k : Nat) : Int).toNat * 2 < (flatH lk).length := by rw [flatH_length]; omega
                cases f with
                | true =>
                  repeat' (first
                    | refine swp_seq ?_
                    | (refine gk 0 rfl ?_; first | refine sl_op rfl rfl rfl (by first | exact opv_move rfl rfl ) ?_ )
                    | (refine gk 2 rfl ?_; first | refine sl_yes rfl rfl rfl (by first | exact opv_lss rfl rfl rfl ) (by first | omega ) ?_ )
                    | (refine gk 4 rfl ?_; first | refine sl_op rfl rfl rfl (by first | exact opv_len rfl rfl rfl rfl rfl ) ?_)
                    | refine sl_region rfl ?_
                    | refine sl_nil ?_
                    | refine thn_k ?_
                    | refine swp_true rfl ?_
                    | refine swp_block ?_
                    | refine swp_skip ?_
                    )
                  refine sl_drawC [.q [0, 1, 2, 3, 4, 5, 6, 7, 8, 9]] [] (by kernel_rfl) (by kernel_rfl) (by kernel_rfl) (by kernel_rfl) ?_
                  repeat' (first
                    | (refine gk 0 rfl ?_; first | refine sl_op rfl rfl rfl (by first | exact opv_move rfl rfl | exact opv_assign rfl rfl | exact opv_pick_t rfl rfl rfl ) ?_ | refine sl_pass rfl rfl rfl rfl ?_)
                    | (refine gk 1 rfl ?_; first | refine sl_op rfl rfl rfl (by first | exact opv_add64 rfl rfl rfl (by omega) (by omega) ) ?_ )
                    | (refine gk 2 rfl ?_; first | refine sl_pass rfl rfl rfl rfl ?_ )
                    | (refine gk 3 rfl ?_; first | refine sl_pass rfl rfl rfl rfl ?_)
                    | refine sl_region rfl ?_
                    | refine chu_nil ?_
                    | refine chu_q rfl ?_
                    | refine sl_nil ?_
                    | refine thn_k ?_
                    )
                  exact ⟨rfl, ⟨k + 1, true⟩, next_ok (by repeat first | exact Sub.nil _ | refine Sub.cons rfl ?_), ⟨by dsimp only; omega, .inl rfl⟩, by dsimp only; omega⟩
                | false =>
                  repeat' (first
                    | refine swp_seq ?_
                    | (refine gk 0 rfl ?_; first | refine sl_op rfl rfl rfl (by first | exact opv_move rfl rfl ) ?_ )
                    | (refine gk 2 rfl ?_; first | refine sl_yes rfl rfl rfl (by first | exact opv_lss rfl rfl rfl ) (by first | omega ) ?_ )
                    | (refine gk 4 rfl ?_; first | refine sl_op rfl rfl rfl (by first | exact opv_len rfl rfl rfl rfl rfl ) ?_)
                    | refine sl_region rfl ?_
                    | refine sl_nil ?_
                    | refine thn_k ?_
                    | refine swp_true rfl ?_
                    | refine swp_block ?_
                    | refine swp_skip ?_
                    )
                  refine sl_drawC [.q [0, 1, 2, 3, 4, 5, 6, 7, 8, 9]] [] (by kernel_rfl) (by kernel_rfl) (by kernel_rfl) (by kernel_rfl) ?_
                  repeat' (first
                    | (refine gk 0 rfl ?_; first | refine sl_op rfl rfl rfl (by first | exact opv_move rfl rfl | exact opv_assign rfl rfl | exact opv_pick_f rfl rfl rfl ) ?_ )
                    | (refine gk 1 rfl ?_; first | refine sl_op rfl rfl rfl (by first | exact opv_add64 rfl rfl rfl (by omega) (by omega) ) ?_ )
                    | (refine gk 2 rfl ?_; first | refine sl_bool rfl rfl rfl (by first | exact opv_eqlS rfl rfl rfl rfl ) (fun h => ?_) (fun h => ?_))
                    | (refine gk 3 rfl ?_; first | refine sl_op rfl rfl rfl (by first | exact opv_loadA rfl (by exact rfl) rfl (by exact rfl) (by exact rfl) | exact opv_indexAddrI rfl rfl rfl (by omega) (by omega) (by first | omega ) | exact opv_load2 rfl (by exact rfl) (by infer_instance) (by assumption) (by assumption) ) ?_ )
                    | refine sl_region rfl ?_
                    | refine chu_nil ?_
                    | refine chu_q rfl ?_
                    | refine sl_nil ?_
                    | refine thn_k ?_
                    )
                  · exact ⟨rfl, ⟨k + 1, true⟩, next_ok (by repeat first | exact Sub.nil _ | refine Sub.cons rfl ?_), ⟨by dsimp only; omega, .inl rfl⟩, by dsimp only; omega⟩
                  · refine ⟨rfl, ⟨k + 1, false⟩, next_ok (by repeat first | exact Sub.nil _ | refine Sub.cons rfl ?_), ⟨by dsimp only; omega, .inr (fun hm => ?_)⟩, by dsimp only; omega⟩
                    dsimp only at hm
                    rw [List.take_add_one, hy] at hm
                    rcases List.mem_append.1 hm with hm | hm
                    · exact hf.elim (fun e => by cases e) (fun hn => hn hm)
                    · have e2 : (nk, nv) = (a2, b2) := by simpa using hm
                      injection e2 with e3 e4
                      subst e3 e4
                      simp at h
              · obtain rfl : f = true := hf.elim (fun e => e) (fun hn => absurd (by rw [List.take_of_length_le (by omega)]; exact g2) hn)
                repeat' (first
                  | refine swp_seq ?_
                  | (refine gk 0 rfl ?_; first | refine sl_op rfl rfl rfl (by first | exact opv_move rfl rfl | exact opv_not_t rfl rfl ) ?_ )
                  | (refine gk 2 rfl ?_; first | refine sl_no rfl rfl rfl (by first | exact opv_lss rfl rfl rfl ) (by first | omega ) ?_ )
                  | (refine gk 4 rfl ?_; first | refine sl_op rfl rfl rfl (by first | exact opv_len rfl rfl rfl rfl rfl ) ?_)
                  | refine sl_region rfl ?_
                  | refine sl_nil ?_
                  | refine thn_k ?_
                  | refine swp_false rfl ?_
                  | refine swp_exit ?_
                  | refine swp_skip ?_
                  | refine inb_k ?_
                  )
                exact ⟨rfl, ⟨vals, fr, lk, hL, lbase, lc, hV⟩, next_ok (by repeat first | exact Sub.nil _ | refine Sub.cons rfl ?_), by rw [f5, g1], hsim.val, hvl, osV, osL, by dsimp only; omega, hlk8, fun h => absurd h (by decide)⟩
            · obtain ⟨g1, g2⟩ := hsim.held (by decide) f4 f6
              repeat' (first
                | refine swp_seq ?_
                | (refine gk 0 rfl ?_; first | refine sl_op rfl rfl rfl (by first | exact opv_assign rfl rfl ) ?_ )
                | (refine gk 2 rfl ?_; first | refine sl_yes rfl rfl rfl (by first | exact opv_eql rfl rfl rfl ) (by first | omega ) ?_ | refine sl_no rfl rfl rfl (by first | exact opv_eql rfl rfl rfl ) (by first | omega ) ?_ )
                | (refine gk 3 rfl ?_; first | refine sl_op rfl rfl rfl (by first | exact opv_load rfl (by exact rfl) rfl (by exact rfl) | exact opv_fieldAddr rfl rfl ) ?_ )
                | refine sl_region rfl ?_
                | refine sl_nil ?_
                | refine thn_k ?_
                | refine swp_true rfl ?_
                | refine swp_false rfl ?_
                | refine swp_block ?_
                )
              refine swp_loopS (fun s : SIn => [(1, .slice wb wl wc), (5, .pointer (some ⟨β5, 0, none⟩)), (8, .slice (some ⟨bV, 0, none⟩) 300 300), (9, i64 fr), (10, .slice lbase lk.length lc), (11, i64 (z : Int)), (12, i64 (last : Int)), (13, i64 (i : Int)), (14, .pointer (some ⟨β14, 0, none⟩)), (15, .pointer (some ⟨β15, 0, none⟩)), (17, .bool s.f), (18, i64 (s.k : Int))])
                (fun _ => [J, hP, blk β5 (.cells ⟨[.slice none 0 0, i64 8, i64 8, .slice bP mc.length cP]⟩ 32 (0, 0)), hV, hL, inBlk β14 16 a b, nwBlk β15 nk nv]) (fun s => s.k ≤ lk.length ∧ (s.f = true ∨ (nk, nv) ∉ lk.take s.k)) (fun s => lk.length - s.k) ⟨0, false⟩ (by repeat first | exact Sub.nil _ | refine Sub.cons rfl ?_) ⟨Nat.zero_le _, .inr (by simp)⟩ ?_
              rintro ⟨k, f⟩ ⟨hk, hf⟩
              dsimp only at hk hf ⊢
              by_cases hk2 : k < lk.length
              · obtain ⟨⟨a2, b2⟩, hy⟩ : ∃ y, lk[k]? = some y := ⟨_, List.getElem?_eq_getElem hk2⟩
                obtain ⟨y0', y1'⟩ := flatH_at hy
                have y0 : (flatH lk)[((k : Nat) : Int).toNat * 2]? = some (i64 a2) := y0'
                have y1 : (flatH lk)[((k : Nat) : Int).toNat * 2 + 1]? = some (i64 b2) := y1'
                have hqk : ((k : Nat) : Int).toNat * 2 < (flatH lk).length := by rw [flatH_length]; omega
                cases f with
                | true =>
                  repeat' (first
                    | refine swp_seq ?_
                    | (refine gk 0 rfl ?_; first | refine sl_op rfl rfl rfl (by first | exact opv_move rfl rfl ) ?_ )
                    | (refine gk 2 rfl ?_; first | refine sl_yes rfl rfl rfl (by first | exact opv_lss rfl rfl rfl ) (by first | omega ) ?_ )
                    | (refine gk 4 rfl ?_; first | refine sl_op rfl rfl rfl (by first | exact opv_len rfl rfl rfl rfl rfl ) ?_)
                    | refine sl_region rfl ?_
                    | refine sl_nil ?_
                    | refine thn_k ?_
                    | refine swp_true rfl ?_
                    | refine swp_block ?_
                    | refine swp_skip ?_
                    )
                  refine sl_drawC [.q [0, 1, 2, 3, 4, 5, 6, 7, 8, 9]] [] (by kernel_rfl) (by kernel_rfl) (by kernel_rfl) (by kernel_rfl) ?_
                  repeat' (first
                    | (refine gk 0 rfl ?_; first | refine sl_op rfl rfl rfl (by first | exact opv_move rfl rfl | exact opv_assign rfl rfl | exact opv_pick_t rfl rfl rfl ) ?_ | refine sl_pass rfl rfl rfl rfl ?_)
                    | (refine gk 1 rfl ?_; first | refine sl_op rfl rfl rfl (by first | exact opv_add64 rfl rfl rfl (by omega) (by omega) ) ?_ )
                    | (refine gk 2 rfl ?_; first | refine sl_pass rfl rfl rfl rfl ?_ )
                    | (refine gk 3 rfl ?_; first | refine sl_pass rfl rfl rfl rfl ?_)
                    | refine sl_region rfl ?_
                    | refine chu_nil ?_
                    | refine chu_q rfl ?_
                    | refine sl_nil ?_
                    | refine thn_k ?_
                    )
                  exact ⟨rfl, ⟨k + 1, true⟩, next_ok (by repeat first | exact Sub.nil _ | refine Sub.cons rfl ?_), ⟨by dsimp only; omega, .inl rfl⟩, by dsimp only; omega⟩
                | false =>
                  repeat' (first
                    | refine swp_seq ?_
                    | (refine gk 0 rfl ?_; first | refine sl_op rfl rfl rfl (by first | exact opv_move rfl rfl ) ?_ )
                    | (refine gk 2 rfl ?_; first | refine sl_yes rfl rfl rfl (by first | exact opv_lss rfl rfl rfl ) (by first | omega ) ?_ )
                    | (refine gk 4 rfl ?_; first | refine sl_op rfl rfl rfl (by first | exact opv_len rfl rfl rfl rfl rfl ) ?_)
                    | refine sl_region rfl ?_
                    | refine sl_nil ?_
                    | refine thn_k ?_
                    | refine swp_true rfl ?_
                    | refine swp_block ?_
                    | refine swp_skip ?_
                    )
                  refine sl_drawC [.q [0, 1, 2, 3, 4, 5, 6, 7, 8, 9]] [] (by kernel_rfl) (by kernel_rfl) (by kernel_rfl) (by kernel_rfl) ?_
                  repeat' (first
                    | (refine gk 0 rfl ?_; first | refine sl_op rfl rfl rfl (by first | exact opv_move rfl rfl | exact opv_assign rfl rfl | exact opv_pick_f rfl rfl rfl ) ?_ )
                    | (refine gk 1 rfl ?_; first | refine sl_op rfl rfl rfl (by first | exact opv_add64 rfl rfl rfl (by omega) (by omega) ) ?_ )
                    | (refine gk 2 rfl ?_; first | refine sl_bool rfl rfl rfl (by first | exact opv_eqlS rfl rfl rfl rfl ) (fun h => ?_) (fun h => ?_))
                    | (refine gk 3 rfl ?_; first | refine sl_op rfl rfl rfl (by first | exact opv_loadA rfl (by exact rfl) rfl (by exact rfl) (by exact rfl) | exact opv_indexAddrI rfl rfl rfl (by omega) (by omega) (by first | omega ) | exact opv_load2 rfl (by exact rfl) (by infer_instance) (by assumption) (by assumption) ) ?_ )
                    | refine sl_region rfl ?_
                    | refine chu_nil ?_
                    | refine chu_q rfl ?_
                    | refine sl_nil ?_
                    | refine thn_k ?_
                    )
                  · exact ⟨rfl, ⟨k + 1, true⟩, next_ok (by repeat first | exact Sub.nil _ | refine Sub.cons rfl ?_), ⟨by dsimp only; omega, .inl rfl⟩, by dsimp only; omega⟩
                  · refine ⟨rfl, ⟨k + 1, false⟩, next_ok (by repeat first | exact Sub.nil _ | refine Sub.cons rfl ?_), ⟨by dsimp only; omega, .inr (fun hm => ?_)⟩, by dsimp only; omega⟩
                    dsimp only at hm
                    rw [List.take_add_one, hy] at hm
                    rcases List.mem_append.1 hm with hm | hm
                    · exact hf.elim (fun e => by cases e) (fun hn => hn hm)
                    · have e2 : (nk, nv) = (a2, b2) := by simpa using hm
                      injection e2 with e3 e4
                      subst e3 e4
                      simp at h
              · obtain rfl : f = true := hf.elim (fun e => e) (fun hn => absurd (by rw [List.take_of_length_le (by omega)]; exact g2) hn)
                repeat' (first
                  | refine swp_seq ?_
                  | (refine gk 0 rfl ?_; first | refine sl_op rfl rfl rfl (by first | exact opv_move rfl rfl | exact opv_not_t rfl rfl ) ?_ )
                  | (refine gk 2 rfl ?_; first | refine sl_no rfl rfl rfl (by first | exact opv_lss rfl rfl rfl ) (by first | omega ) ?_ )
                  | (refine gk 4 rfl ?_; first | refine sl_op rfl rfl rfl (by first | exact opv_len rfl rfl rfl rfl rfl ) ?_)
                  | refine sl_region rfl ?_
                  | refine sl_nil ?_
                  | refine thn_k ?_
                  | refine swp_false rfl ?_
                  | refine swp_exit ?_
                  | refine swp_skip ?_
                  | refine inb_k ?_
                  )
                exact ⟨rfl, ⟨vals, fr, lk, hL, lbase, lc, hV⟩, next_ok (by repeat first | exact Sub.nil _ | refine Sub.cons rfl ?_), by rw [f5, g1], hsim.val, hvl, osV, osL, by dsimp only; omega, hlk8, fun h => absurd h (by decide)⟩
          · by_cases h3 : op = 3
            · subst h3
              obtain ⟨g1, g2, g3⟩ := hsim.store hr hlim hvl hx (fr + 1)
              have hmod : a % 300 = a := Int.emod_eq_of_lt g1.1 g1.2
              repeat' (first
                | first | refine sl_op rfl rfl rfl (opv_convert8 rfl rfl (by omega) (by omega)) ?_ | refine sl_op rfl rfl rfl (opv_remE rfl rfl rfl (by omega) (by omega)) ?_
                | refine swp_seq ?_
                | (refine gk 0 rfl ?_; first | refine sl_op rfl rfl rfl (by first | exact opv_move rfl rfl | exact opv_assign rfl rfl ) ?_ )
                | (refine gk 1 rfl ?_; first | refine sl_op rfl rfl rfl (by first | exact opv_add64 rfl rfl rfl (by omega) (by omega) ) ?_ )
                | (refine gk 2 rfl ?_; first | refine sl_yes rfl rfl rfl (by first | exact opv_eql rfl rfl rfl ) (by first | omega ) ?_ | refine sl_no rfl rfl rfl (by first | exact opv_eql rfl rfl rfl ) (by first | omega ) ?_ )
                | (refine gk 3 rfl ?_; first | refine sl_op rfl rfl rfl (by first | exact opv_load rfl (by exact rfl) rfl (by exact rfl) | exact opv_fieldAddr rfl rfl | exact opv_indexAddrI rfl rfl rfl (by omega) (by omega) (by first | (simp only [List.length_map]; omega) ) ) ?_ )
                | (refine gk 4 rfl ?_; first | refine sl_pass rfl rfl rfl rfl ?_ )
                | (refine gk 5 rfl ?_; first | refine sl_op rfl rfl rfl (by first | exact opv_nilCheck rfl rfl ) ?_ )
                | refine sl_region rfl ?_
                | refine chu_nil ?_
                | refine chu_q rfl ?_
                | refine chu_f rfl ?_
                | refine chu_r rfl ?_
                | refine chu_new rfl rfl (by first | exact new_alloc rfl (by exact rfl) ) ?_
                | refine chu_rv rfl rfl rfl (fun β => ?_)
                | refine chu_pass rfl rfl rfl rfl ?_
                | refine chu_store rfl rfl rfl rfl rfl rfl (by exact rfl) rfl (by exact rfl) (by exact rfl) ?_
                | refine sl_nil ?_
                | refine thn_k ?_
                | refine swp_true rfl ?_
                | refine swp_false rfl ?_
                | refine swp_block ?_
                | refine swp_ret ?_
                | refine swp_exit ?_
                | refine swp_skip ?_
                | refine thn_ret ?_
                | refine inb_ret ?_
                | refine inb_k ?_
                | refine thn_exit ?_
                | refine inb_exit ?_
                | refine inb_out rfl ?_)
              refine sl_storeE rfl rfl rfl rfl rfl osV rfl rfl rfl (by exact Nat.succ_pos _) (by simp; omega) (set_i64 (j := a.toNat) (by rw [hmod]; simp) (by omega)) (fun h1 os1 => ?_)
              repeat' (first
                | refine sl_nil ?_
                | refine thn_k ?_
                | refine inb_k ?_
                )
              exact ⟨rfl, ⟨vals.set a.toNat (fr + 1), fr + 1, lk, hL, lbase, lc, h1⟩, next_ok (by repeat first | exact Sub.nil _ | refine Sub.cons rfl ?_), g2, g3, by rw [List.length_set]; exact hvl, os1, osL, by dsimp only; omega, hlk8, fun h => absurd h (by decide)⟩
            · obtain ⟨g1, g2⟩ := hsim.other hr hx h5 h3
              have h5' := mt five_iff.2 h5
              repeat' (first
                | refine swp_seq ?_
                | (refine gk 0 rfl ?_; first | refine sl_op rfl rfl rfl (by first | exact opv_assign rfl rfl ) ?_ )
                | (refine gk 2 rfl ?_; first | refine sl_no rfl rfl rfl (by first | exact opv_eql rfl rfl rfl ) (by first | omega ) ?_ )
                | (refine gk 3 rfl ?_; first | refine sl_op rfl rfl rfl (by first | exact opv_load rfl (by exact rfl) rfl (by exact rfl) | exact opv_fieldAddr rfl rfl ) ?_ )
                | refine sl_region rfl ?_
                | refine sl_nil ?_
                | refine thn_k ?_
                | refine swp_false rfl ?_
                | refine swp_block ?_
                | refine swp_skip ?_
                | refine inb_k ?_
                )
              exact ⟨rfl, ⟨vals, fr, lk, hL, lbase, lc, hV⟩, next_ok (by repeat first | exact Sub.nil _ | refine Sub.cons rfl ?_), g1, hsim.val, hvl, osV, osL, by dsimp only; omega, hlk8, g2⟩
        · rintro ⟨vals2, fr2, lk2, hL2, lb2, lc2, hV2⟩ ⟨t1, t2, t3, t4, t5, t6, t7, t8⟩
          dsimp only at t1 t2 t3 t4 t5 t6 t7 t8 ⊢
          clear osV osL slV slL hI1
          have hxl := nxt_nil hx
          have hx2 := nxt_length mc (z : Int)
          by_cases h20 : op = 20
          · subst h20
            have hlk2 := t8 rfl
            subst hlk2
            have hn0 := hxl.2 rfl
            repeat' (first
              | refine swp_seq ?_
              | (refine gk 0 rfl ?_; first | refine sl_op rfl rfl rfl (by first | exact opv_move rfl rfl | exact opv_assign rfl rfl | exact opv_pick_t rfl rfl rfl ) ?_ )
              | (refine gk 2 rfl ?_; first | refine sl_yes rfl rfl rfl (by first | exact opv_eql rfl rfl rfl ) (by first | omega | decide +kernel) ?_ )
              | (refine gk 3 rfl ?_; first | refine sl_op rfl rfl rfl (by first | exact opv_load rfl (by exact rfl) rfl (by exact rfl) | exact opv_fieldAddr rfl rfl | exact opv_loadA rfl (by exact rfl) rfl (by exact rfl) (by exact rfl) ) ?_ )
              | (refine gk 4 rfl ?_; first | refine sl_op rfl rfl rfl (by first | exact opv_len rfl rfl rfl rfl rfl ) ?_ | (refine sl_callT rfl rfl rfl rfl rfl rfl rfl rfl (Next_calls hP (.slice none 0 0) 8 8 bP mc.length cP mc (z : Int) rfl (by omega)) ?_; rintro _ _ ⟨_, rfl, hN, bN, cN, rfl, rfl, osN⟩; haveI slN := osN.sl; refine ⟨_, _, rfl, rfl, ?_⟩))
              | refine sl_region rfl ?_
              | refine sl_nil ?_
              | refine thn_k ?_
              | refine swp_true rfl ?_
              | refine swp_ret ?_
              | refine thn_ret ?_
              | refine inb_ret ?_
              )
            exact end_retL [J] (resOk_one (resV_tmp rfl)) ⟨rfl, rfl⟩
          · have hn0 := mt hxl.1 h20
            obtain ⟨t0, ht0⟩ : ∃ t, (nxt mc (z : Int))[0]? = some t := ⟨_, List.getElem?_eq_getElem (by omega)⟩
            have hc0 : ((nxt mc (z : Int)).map i64)[(0 : Int).toNat * 1]? = some (i64 t0) := by
              show ((nxt mc (z : Int)).map i64)[0]? = _
              rw [List.getElem?_map, ht0]; rfl
            have hq0 : (0 : Int).toNat * 1 < ((nxt mc (z : Int)).map i64).length := by rw [List.length_map]; show 0 < _; omega
            repeat' ((fail_if_success (refine stop_at 45 ?_)); (first
              | refine swp_seq ?_
              | (refine gk 0 rfl ?_; first | refine sl_op rfl rfl rfl (by first | exact opv_move rfl rfl | exact opv_assign rfl rfl ) ?_ )
              | (refine gk 2 rfl ?_; first | refine sl_no rfl rfl rfl (by first | exact opv_eql rfl rfl rfl ) (by first | omega ) ?_ )
              | (refine gk 3 rfl ?_; first | refine sl_op rfl rfl rfl (by first | exact opv_loadA rfl (by exact rfl) rfl (by exact rfl) (by exact rfl) | exact opv_indexAddrI rfl rfl rfl (by omega) (by omega) (by first | omega ) | exact opv_loadEx rfl (by exact rfl) (by infer_instance) (by first | assumption ) ) ?_ )
              | (refine gk 4 rfl ?_; first | refine sl_op rfl rfl rfl (by first | exact opv_len rfl rfl rfl rfl rfl ) ?_ | (refine sl_callT rfl rfl rfl rfl rfl rfl rfl rfl (Next_calls hP (.slice none 0 0) 8 8 bP mc.length cP mc (z : Int) rfl (by omega)) ?_; rintro _ _ ⟨_, rfl, hN, bN, cN, rfl, rfl, osN⟩; haveI slN := osN.sl; refine ⟨_, _, rfl, rfl, ?_⟩))
              | refine sl_region rfl ?_
              | refine sl_nil ?_
              | refine thn_k ?_
              | refine swp_false rfl ?_
              | refine swp_skip ?_
              ))
            refine swp_seq ?_
            refine swp_joinS (fun t : Int => [(1, .slice wb wl wc), (5, .pointer (some ⟨β5, 0, none⟩)), (8, .slice (some ⟨bV, 0, none⟩) 300 300), (9, i64 fr2), (10, .slice lb2 lk2.length lc2), (11, i64 (z : Int)), (12, i64 (z : Int)), (13, i64 (i : Int)), (20, i64 t)])
              (fun _ => [J, hP, blk β5 (.cells ⟨[.slice none 0 0, i64 8, i64 8, .slice bP mc.length cP]⟩ 32 (0, 0)), hV2, hL2]) (fun t => t ∈ nxt mc (z : Int)) ?_ ?_
            · by_cases hwi : i < wl
              · obtain ⟨y, hy⟩ : ∃ y, W[i]? = some y := ⟨_, List.getElem?_eq_getElem (by omega)⟩
                have hyb := hW y (List.mem_of_getElem? hy)
                have hcy : (W.map u8)[((i : Nat) : Int).toNat * 1]? = some (u8 y) := by
                  rw [show ((i : Nat) : Int).toNat * 1 = i by omega, List.getElem?_map, hy]; rfl
                have hqy : ((i : Nat) : Int).toNat * 1 < (W.map u8).length := by rw [List.length_map]; omega
                have m0 := Int.emod_nonneg y (show ((nxt mc (z : Int)).length : Int) ≠ 0 by omega)
                have m1 := Int.emod_lt_of_pos y (show (0 : Int) < ((nxt mc (z : Int)).length : Int) by omega)
                obtain ⟨t1', ht1⟩ : ∃ t, (nxt mc (z : Int))[(y % ((nxt mc (z : Int)).length : Int)).toNat]? = some t := ⟨_, List.getElem?_eq_getElem (by omega)⟩
                have hc1 : ((nxt mc (z : Int)).map i64)[(y % ((nxt mc (z : Int)).length : Int)).toNat * 1]? = some (i64 t1') := by
                  rw [Nat.mul_one, List.getElem?_map, ht1]; rfl
                have hq1 : (y % ((nxt mc (z : Int)).length : Int)).toNat * 1 < ((nxt mc (z : Int)).map i64).length := by rw [List.length_map]; omega
                repeat' (first
                  | first | refine sl_op rfl rfl rfl (opv_convert8 rfl rfl (by omega) (by omega)) ?_ | refine sl_op rfl rfl rfl (opv_remE rfl rfl rfl (by omega) (by omega)) ?_
                  | refine swp_seq ?_
                  | (refine gk 0 rfl ?_; first | refine sl_op rfl rfl rfl (by first | exact opv_move rfl rfl | exact opv_assign rfl rfl ) ?_ )
                  | (refine gk 1 rfl ?_; first | refine sl_op rfl rfl rfl (by first | exact opv_add64 rfl rfl rfl (by omega) (by omega) ) ?_ )
                  | (refine gk 2 rfl ?_; first | refine sl_yes rfl rfl rfl (by first | exact opv_lss rfl rfl rfl ) (by first | omega ) ?_ )
                  | (refine gk 3 rfl ?_; first | refine sl_op rfl rfl rfl (by first | exact opv_indexAddrI rfl rfl rfl (by omega) (by omega) (by first | omega ) | exact opv_loadEx rfl (by exact rfl) (by infer_instance) (by first | assumption ) ) ?_ )
                  | (refine gk 4 rfl ?_; first | refine sl_op rfl rfl rfl (by first | exact opv_len rfl rfl rfl rfl rfl ) ?_)
                  | (refine gk 5 rfl ?_; first | refine sl_op rfl rfl rfl (by first | exact opv_nilCheck rfl rfl ) ?_ )
                  | refine sl_region rfl ?_
                  | refine chu_nil ?_
                  | refine chu_q rfl ?_
                  | refine chu_f rfl ?_
                  | refine chu_r rfl ?_
                  | refine chu_new rfl rfl (by first | exact new_alloc rfl (by exact rfl) ) ?_
                  | refine chu_rv rfl rfl rfl (fun β => ?_)
                  | refine chu_pass rfl rfl rfl rfl ?_
                  | refine chu_store rfl rfl rfl rfl rfl rfl (by exact rfl) rfl (by exact rfl) (by exact rfl) ?_
                  | refine sl_nil ?_
                  | refine thn_k ?_
                  | refine swp_true rfl ?_
                  | refine swp_false rfl ?_
                  | refine swp_block ?_
                  | refine swp_ret ?_
                  | refine swp_exit ?_
                  | refine swp_skip ?_
                  | refine thn_ret ?_
                  | refine inb_ret ?_
                  | refine inb_k ?_
                  | refine thn_exit ?_
                  | refine inb_exit ?_
                  | refine inb_out rfl ?_)
                exact ⟨rfl, t1', next_ok (by repeat first | exact Sub.nil _ | refine Sub.cons rfl ?_), List.mem_of_getElem? ht1⟩
              · repeat' (first
                  | refine swp_seq ?_
                  | (refine gk 0 rfl ?_; first | refine sl_op rfl rfl rfl (by first | exact opv_move rfl rfl ) ?_ )
                  | (refine gk 2 rfl ?_; first | refine sl_no rfl rfl rfl (by first | exact opv_lss rfl rfl rfl ) (by first | omega ) ?_ )
                  | (refine gk 4 rfl ?_; first | refine sl_op rfl rfl rfl (by first | exact opv_len rfl rfl rfl rfl rfl ) ?_)
                  | refine sl_region rfl ?_
                  | refine sl_nil ?_
                  | refine thn_k ?_
                  | refine swp_false rfl ?_
                  | refine swp_skip ?_
                  )
                exact ⟨rfl, t0, next_ok (by repeat first | exact Sub.nil _ | refine Sub.cons rfl ?_), List.mem_of_getElem? ht0⟩
            · rintro t ht
              try dsimp only at ht ⊢
              by_cases htr : 0 ≤ t ∧ t < mc.length
              · obtain ⟨tn, rfl⟩ := Int.eq_ofNat_of_zero_le htr.1
                have hsim2 := hsim.next hr t1 rfl t2 ht htr.1 htr.2
                repeat' (first
                  | refine swp_seq ?_
                  | (refine gk 0 rfl ?_; first | refine sl_op rfl rfl rfl (by first | exact opv_move rfl rfl | exact opv_assign rfl rfl | exact opv_pick_f rfl rfl rfl ) ?_ )
                  | (refine gk 1 rfl ?_; first | refine sl_op rfl rfl rfl (by first | exact opv_add64 rfl rfl rfl (by omega) (by omega) ) ?_ )
                  | (refine gk 2 rfl ?_; first | refine sl_no rfl rfl rfl (by first | exact opv_lss rfl rfl rfl | exact opv_geq rfl rfl rfl ) (by first | omega ) ?_ )
                  | (refine gk 3 rfl ?_; first | refine sl_op rfl rfl rfl (by first | exact opv_load rfl (by exact rfl) rfl (by exact rfl) | exact opv_fieldAddr rfl rfl ) ?_ )
                  | (refine gk 4 rfl ?_; first | refine sl_op rfl rfl rfl (by first | exact opv_len rfl rfl rfl rfl rfl ) ?_)
                  | refine sl_region rfl ?_
                  | refine sl_nil ?_
                  | refine thn_k ?_
                  | refine swp_false rfl ?_
                  | refine swp_skip ?_
                  )
                exact ⟨rfl, ⟨i + 1, tn, z, vals2, fr2, lk2, hL2, lb2, lc2, hV2⟩, next_ok (by repeat first | exact Sub.nil _ | refine Sub.cons rfl ?_), ⟨by dsimp only; omega, hsim2, t3, t4, t5, ⟨t6.1, by dsimp only; omega⟩, t7⟩, by dsimp only; omega⟩
              · repeat' (first
                  | refine swp_seq ?_
                  | (refine gk 0 rfl ?_; first | refine sl_op rfl rfl rfl (by first | exact opv_move rfl rfl | exact opv_assign rfl rfl | exact opv_pick_t rfl rfl rfl | exact opv_pick_f rfl rfl rfl ) ?_ | refine sl_pass rfl rfl rfl rfl ?_)
                  | (refine gk 2 rfl ?_; first | refine sl_pass rfl rfl rfl rfl ?_ | refine sl_yes rfl rfl rfl (by first | exact opv_lss rfl rfl rfl | exact opv_geq rfl rfl rfl ) (by first | omega ) ?_ | refine sl_if rfl rfl rfl (by first | exact opv_lss rfl rfl rfl ) (fun h => ?_) (fun h => ?_) )
                  | (refine gk 3 rfl ?_; first | refine sl_op rfl rfl rfl (by first | exact opv_load rfl (by exact rfl) rfl (by exact rfl) | exact opv_fieldAddr rfl rfl ) ?_ | refine sl_pass rfl rfl rfl rfl ?_)
                  | (refine gk 4 rfl ?_; first | refine sl_pass rfl rfl rfl rfl ?_ | refine sl_op rfl rfl rfl (by first | exact opv_len rfl rfl rfl rfl rfl ) ?_)
                  | refine sl_region rfl ?_
                  | refine sl_nil ?_
                  | refine thn_k ?_
                  | refine swp_true rfl ?_
                  | refine swp_ret ?_
                  | refine thn_ret ?_
                  | refine inb_ret ?_
                  )
                all_goals first | (exfalso; omega) | exact end_retL [J] (resOk_one (resV_tmp rfl)) ⟨rfl, rfl⟩
    · repeat' (first
        | refine swp_seq ?_
        | (refine gk 0 rfl ?_; first | refine sl_op rfl rfl rfl (by first | exact opv_move rfl rfl | exact opv_assign rfl rfl ) ?_ )
        | (refine gk 2 rfl ?_; first | refine sl_no rfl rfl rfl (by first | exact opv_lss rfl rfl rfl ) (by first | omega ) ?_ )
        | refine sl_region rfl ?_
        | refine sl_nil ?_
        | refine thn_k ?_
        | refine swp_false rfl ?_
        | refine swp_ret ?_
        | refine swp_exit ?_
        )
      exact end_retL [J] (resOk_one (resV_tmp rfl)) ⟨rfl, rfl⟩
end Go.Proofs.Ytifhhfeibnpaoaa
