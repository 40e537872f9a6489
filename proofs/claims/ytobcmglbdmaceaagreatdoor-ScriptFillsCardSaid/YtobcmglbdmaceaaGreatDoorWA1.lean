/- What picks bytes are: walked. -/
import Derived.Test.YtobcmglbdmaceaaGreatDoorWB
set_option linter.unusedVariables false
set_option linter.unusedSimpArgs false
set_option linter.unusedSectionVars false
namespace Go.Proofs.YtobcmglbdmaceaaGreatDoor
open Go.SL
set_option maxRecDepth 100000
set_option maxHeartbeats 16000000
/-- The pick of a byte. -/
def kdB (b : UInt8) : Int := if b.toNat / 64 = 2 then 2 else if b.toNat / 64 = 3 then 1 else 0
def pkB (b : UInt8) : Pk := ⟨((b.toNat % 64 : Nat) : Int), kdB b⟩
def decP (s : List UInt8) : List Pk := s.map pkB
theorem decP_length (s : List UInt8) : (decP s).length = s.length := by simp [decP]
theorem and63 : ∀ n : Fin 256, bitsOp .and .u8 (n.val : Int) 63 = ((n.val % 64 : Nat) : Int) := by decide +kernel
theorem conv63 : ∀ n : Fin 64, IntKind.i64.wrap (n.val : Int) = (n.val : Int) := by decide +kernel
theorem shr6 : ∀ n : Fin 256, shr .u8 (n.val : Int) 6 = ((n.val / 64 : Nat) : Int) := by decide +kernel
attribute [local irreducible] SL.T PFn OpV SOL SWP HOp ChU
-- ALIAS Tryz
structure SD where
  j : Nat
  h : Heap
  b : Option Addr
  c : Nat
theorem Decode_calls (s : List UInt8) (hs : s.length ≤ 1000000) :
    SL.T Tryz.prog 15 [str s] [] fun e o => ∃ h base cap, e = .returned (.slice base s.length cap) ∧ OS h base s.length cap 42 2 (flatP (decP s)) ∧ o = [h] := by
  refine t_of_body Tryz.func15 rfl (Nat.le_of_ble_eq_true rfl) fun F => ?_
  refine swp_emp ?_
  repeat' (first
    | refine sl_op rfl rfl rfl (opv_lenS rfl rfl rfl rfl rfl) ?_
    | refine swp_seq ?_
    | (refine gk 0 rfl ?_; first | refine sl_op rfl rfl rfl (by first | exact opv_move rfl rfl | exact opv_assign rfl rfl ) ?_ )
    | refine sl_region rfl ?_
    | refine sl_nil ?_
    | refine thn_k ?_
    | refine swp_block ?_
    )
  refine swp_loopS (fun t : SD => [(0, str s), (2, .slice t.b t.j t.c), (5, str s), (6, i64 (s.length : Int)), (7, i64 (t.j : Int))])
    (fun t => [t.h])
    (fun t => t.j ≤ s.length ∧ OS t.h t.b t.j t.c 42 2 (flatP (decP (s.take t.j))))
    (fun t => s.length - t.j) ⟨0, emp, none, 0⟩ (by repeat first | exact Sub.nil _ | refine Sub.cons rfl ?_) ⟨Nat.zero_le _, OS.nil⟩ ?_
  rintro ⟨j, h, b, c⟩ ⟨hj, os⟩
  dsimp only at hj os ⊢
  by_cases hj2 : j < s.length
  · obtain ⟨x, hx⟩ : ∃ x, s[j]? = some x := ⟨_, List.getElem?_eq_getElem hj2⟩
    have hb' : s[((j : Nat) : Int).toNat]? = some x := by simpa using hx
    have hlt : x.toNat < 256 := x.toNat_lt
    have hand : Value.int .u8 (bitsOp .and .u8 (x.toNat : Int) 63) = .int .u8 ((x.toNat % 64 : Nat) : Int) := congrArg _ (and63 ⟨x.toNat, hlt⟩)
    have hcv : Value.int .i64 (IntKind.i64.wrap ((x.toNat % 64 : Nat) : Int)) = i64 ((x.toNat % 64 : Nat) : Int) := congrArg _ (conv63 ⟨x.toNat % 64, by omega⟩)
    have hsh : Value.int .u8 (shr .u8 (x.toNat : Int) 6) = .int .u8 ((x.toNat / 64 : Nat) : Int) := congrArg _ (shr6 ⟨x.toNat, hlt⟩)
    have hq : x.toNat / 64 = 2 ∨ x.toNat / 64 = 3 ∨ x.toNat / 64 < 2 := by omega
    have hfin : decP (s.take (j + 1)) = decP (s.take j) ++ [⟨((x.toNat % 64 : Nat) : Int), kdB x⟩] := by
      rw [List.take_add_one, hx]; simp [decP, pkB]
    have hfl : flatP (decP (s.take (j + 1))) = flatP (decP (s.take j)) ++ [i64 ((x.toNat % 64 : Nat) : Int), i64 (kdB x)] := by
      rw [hfin, flatP_append]; rfl
    generalize hm : x.toNat % 64 = m at *
    generalize hd : x.toNat / 64 = d at *
    rcases hq with h2 | h3 | h4
    · have hk : kdB x = 2 := by unfold kdB; rw [hd, if_pos h2]
      rw [hk] at hfl
      subst h2
      repeat' (first
        | refine sl_op rfl rfl rfl ((opv_convert rfl rfl).to hcv) ?_
        | refine sl_op rfl rfl rfl ((opv_shr rfl rfl rfl (by decide)).to hsh) ?_
        | refine sl_op rfl rfl rfl ((opv_bits rfl rfl rfl (by decide)).to hand) ?_
        | refine sl_op rfl rfl rfl (opv_indexS rfl rfl rfl (by omega) hb') ?_
        | refine swp_seq ?_
        | (refine gk 0 rfl ?_; first | refine sl_op rfl rfl rfl (by first | exact opv_move rfl rfl | exact opv_assign rfl rfl ) ?_ )
        | (refine gk 1 rfl ?_; first | refine sl_op rfl rfl rfl (by first | exact opv_add64 rfl rfl rfl (by omega) (by omega) ) ?_ )
        | (refine gk 2 rfl ?_; first | refine sl_yes rfl rfl rfl (by first | exact opv_lss rfl rfl rfl | exact opv_eql rfl rfl rfl ) (by first | omega ) ?_ )
        | (refine gk 3 rfl ?_; first | refine sl_op rfl rfl rfl (by first | exact opv_fieldAddr rfl rfl | exact opv_loadA rfl (by exact rfl) rfl (by exact rfl) (by exact rfl) ) ?_ )
        | (refine gk 4 rfl ?_; first | refine sl_appendG rfl rfl rfl rfl rfl rfl rfl rfl rfl (by assumption) (by first | rfl ) (by decide) (by first | rfl ) (by omega) (by omega) (fun h' b' c' os' hb' => ?_))
        | (refine gk 5 rfl ?_; first | refine sl_op rfl rfl rfl (by first | exact opv_build rfl rfl (by exact rfl) ) ?_ | refine sl_buildSlice rfl rfl rfl rfl rfl (by exact rfl) (by exact rfl) (by exact rfl) (by exact rfl) rfl (fun b => ?_) | refine sl_alloc rfl rfl rfl rfl (by exact rfl) (fun β => ?_) | refine sl_store rfl rfl rfl rfl rfl rfl (by exact rfl) rfl (by exact rfl) ?_)
        | refine sl_region rfl ?_
        | refine sl_nil ?_
        | refine thn_k ?_
        | refine swp_true rfl ?_
        | refine swp_block ?_
        | refine swp_skip ?_
        )
      exact ⟨rfl, ⟨j + 1, h', b', c'⟩, next_ok (by repeat first | exact Sub.nil _ | refine Sub.cons rfl ?_), ⟨by dsimp only; omega, by rw [hfl]; exact os'⟩, by dsimp only; omega⟩
    · have hk : kdB x = 1 := by unfold kdB; rw [hd, if_neg (by omega), if_pos h3]
      rw [hk] at hfl
      subst h3
      repeat' (first
        | refine sl_op rfl rfl rfl ((opv_convert rfl rfl).to hcv) ?_
        | refine sl_op rfl rfl rfl ((opv_shr rfl rfl rfl (by decide)).to hsh) ?_
        | refine sl_op rfl rfl rfl ((opv_bits rfl rfl rfl (by decide)).to hand) ?_
        | refine sl_op rfl rfl rfl (opv_indexS rfl rfl rfl (by omega) hb') ?_
        | refine swp_seq ?_
        | (refine gk 0 rfl ?_; first | refine sl_op rfl rfl rfl (by first | exact opv_move rfl rfl | exact opv_assign rfl rfl ) ?_ )
        | (refine gk 1 rfl ?_; first | refine sl_op rfl rfl rfl (by first | exact opv_add64 rfl rfl rfl (by omega) (by omega) ) ?_ )
        | (refine gk 2 rfl ?_; first | refine sl_yes rfl rfl rfl (by first | exact opv_lss rfl rfl rfl | exact opv_eql rfl rfl rfl ) (by first | omega ) ?_ | refine sl_no rfl rfl rfl (by first | exact opv_eql rfl rfl rfl ) (by first | omega ) ?_ )
        | (refine gk 3 rfl ?_; first | refine sl_op rfl rfl rfl (by first | exact opv_fieldAddr rfl rfl | exact opv_loadA rfl (by exact rfl) rfl (by exact rfl) (by exact rfl) ) ?_ )
        | (refine gk 4 rfl ?_; first | refine sl_appendG rfl rfl rfl rfl rfl rfl rfl rfl rfl (by assumption) (by first | rfl ) (by decide) (by first | rfl ) (by omega) (by omega) (fun h' b' c' os' hb' => ?_))
        | (refine gk 5 rfl ?_; first | refine sl_op rfl rfl rfl (by first | exact opv_build rfl rfl (by exact rfl) ) ?_ | refine sl_buildSlice rfl rfl rfl rfl rfl (by exact rfl) (by exact rfl) (by exact rfl) (by exact rfl) rfl (fun b => ?_) | refine sl_alloc rfl rfl rfl rfl (by exact rfl) (fun β => ?_) | refine sl_store rfl rfl rfl rfl rfl rfl (by exact rfl) rfl (by exact rfl) ?_)
        | refine sl_region rfl ?_
        | refine sl_nil ?_
        | refine thn_k ?_
        | refine swp_true rfl ?_
        | refine swp_false rfl ?_
        | refine swp_block ?_
        | refine swp_skip ?_
        )
      exact ⟨rfl, ⟨j + 1, h', b', c'⟩, next_ok (by repeat first | exact Sub.nil _ | refine Sub.cons rfl ?_), ⟨by dsimp only; omega, by rw [hfl]; exact os'⟩, by dsimp only; omega⟩
    · have hk : kdB x = 0 := by unfold kdB; rw [hd, if_neg (by omega), if_neg (by omega)]
      rw [hk] at hfl
      repeat' (first
        | refine sl_op rfl rfl rfl ((opv_convert rfl rfl).to hcv) ?_
        | refine sl_op rfl rfl rfl ((opv_shr rfl rfl rfl (by decide)).to hsh) ?_
        | refine sl_op rfl rfl rfl ((opv_bits rfl rfl rfl (by decide)).to hand) ?_
        | refine sl_op rfl rfl rfl (opv_indexS rfl rfl rfl (by omega) hb') ?_
        | refine swp_seq ?_
        | (refine gk 0 rfl ?_; first | refine sl_op rfl rfl rfl (by first | exact opv_move rfl rfl | exact opv_assign rfl rfl ) ?_ )
        | (refine gk 1 rfl ?_; first | refine sl_op rfl rfl rfl (by first | exact opv_add64 rfl rfl rfl (by omega) (by omega) ) ?_ )
        | (refine gk 2 rfl ?_; first | refine sl_yes rfl rfl rfl (by first | exact opv_lss rfl rfl rfl | exact opv_eql rfl rfl rfl ) (by first | omega ) ?_ | refine sl_no rfl rfl rfl (by first | exact opv_eql rfl rfl rfl ) (by first | omega ) ?_ )
        | (refine gk 3 rfl ?_; first | refine sl_op rfl rfl rfl (by first | exact opv_loadA rfl (by exact rfl) rfl (by exact rfl) (by exact rfl) ) ?_ )
        | (refine gk 4 rfl ?_; first | refine sl_appendG rfl rfl rfl rfl rfl rfl rfl rfl rfl (by assumption) (by first | rfl ) (by decide) (by first | rfl ) (by omega) (by omega) (fun h' b' c' os' hb' => ?_))
        | (refine gk 5 rfl ?_; first | refine sl_op rfl rfl rfl (by first | exact opv_build rfl rfl (by exact rfl) ) ?_ | refine sl_buildSlice rfl rfl rfl rfl rfl (by exact rfl) (by exact rfl) (by exact rfl) (by exact rfl) rfl (fun b => ?_) | refine sl_alloc rfl rfl rfl rfl (by exact rfl) (fun β => ?_) | refine sl_store rfl rfl rfl rfl rfl rfl (by exact rfl) rfl (by exact rfl) ?_)
        | refine sl_region rfl ?_
        | refine sl_nil ?_
        | refine thn_k ?_
        | refine swp_true rfl ?_
        | refine swp_false rfl ?_
        | refine swp_block ?_
        | refine swp_skip ?_
        )
      exact ⟨rfl, ⟨j + 1, h', b', c'⟩, next_ok (by repeat first | exact Sub.nil _ | refine Sub.cons rfl ?_), ⟨by dsimp only; omega, by rw [hfl]; exact os'⟩, by dsimp only; omega⟩
  · obtain rfl : j = s.length := by omega
    repeat' (first
      | refine swp_seq ?_
      | (refine gk 0 rfl ?_; first | refine sl_op rfl rfl rfl (by first | exact opv_move rfl rfl | exact opv_assign rfl rfl ) ?_ )
      | (refine gk 2 rfl ?_; first | refine sl_no rfl rfl rfl (by first | exact opv_lss rfl rfl rfl ) (by first | omega ) ?_ )
      | refine sl_region rfl ?_
      | refine sl_nil ?_
      | refine thn_k ?_
      | refine swp_false rfl ?_
      | refine swp_ret ?_
      | refine swp_exit ?_
      )
    rw [List.take_length] at os
    exact end_retZ [h] (resOk_one (resV_tmp rfl)) ⟨h, b, c, rfl, os, rfl⟩
end Go.Proofs.YtobcmglbdmaceaaGreatDoor
