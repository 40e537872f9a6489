/- The document's reader: a number, walked. -/
import Derived.Test.YtjdjkcebflablaaDoorWH9
set_option linter.unusedVariables false
set_option linter.unusedSimpArgs false
set_option linter.unusedSectionVars false
namespace Go.Proofs.YtjdjkcebflablaaDoor
open Go.SL
set_option maxRecDepth 100000
set_option maxHeartbeats 16000000
/-- The document's reader: the bytes, a place, the first place that is wrong. -/
abbrev rr (β : Nat) (s : List UInt8) (a : Nat) (bad : Int) : Heap := blk β (.cells ⟨[str s, i64 (a : Int), i64 bad]⟩ 99 (0, 0))
theorem add_step {n i b : Nat} (hn : n < 256 ^ i) (hb : b < 256) (hi : i < 8) : IntKind.u64.wrap ((n : Int) + ((b <<< (8 * i) : Nat) : Int)) = ((n + 256 ^ i * b : Nat) : Int) := by
  have e : b <<< (8 * i) = 256 ^ i * b := by rw [Nat.shiftLeft_eq, show 2 ^ (8 * i) = 256 ^ i by rw [Nat.pow_mul], Nat.mul_comm]
  rw [e, ← Int.natCast_add, wrap_u64']
  have h1 : 256 ^ i * b ≤ 256 ^ i * 255 := Nat.mul_le_mul_left _ (by omega)
  have := pow256_le hi
  omega
attribute [local irreducible] SL.T PFn OpV SOL SWP HOp ChU DZ.ChU
-- ALIAS Tryd
/-- Once something is wrong nothing more is read. -/
theorem number_bad (β : Nat) (s : List UInt8) (a q many : Nat) (least most : Int) : SL.T Tryd.prog 42 [ptr β, i64 (many : Int), i64 least, i64 most] [rr β s a (q : Int)] fun e o => e = .returned (i64 least) ∧ o = [rr β s a (q : Int)] := by
  refine t_of_body Tryd.func42 rfl (Nat.le_of_ble_eq_true rfl) fun F => ?_
  repeat' (first
    | refine swp_seq ?_
    | (refine gk 0 rfl ?_; first | refine sl_op rfl rfl rfl (by first | exact opv_assign rfl rfl ) ?_ )
    | refine sl_region rfl ?_
    | refine sl_nil ?_
    | refine thn_k ?_
    | refine swp_block ?_
    )
  refine swp_loopS (fun _ : Unit => [(0, ptr β), (1, i64 (many : Int)), (2, i64 least), (3, i64 most), (9, .int .u64 0), (10, i64 0)])
    (fun _ => [rr β s a (q : Int)]) (fun _ => True) (fun _ => 0) () (by repeat first | exact Sub.nil _ | refine Sub.cons rfl ?_) trivial ?_
  rintro - -
  repeat' (first
    | refine swp_seq ?_
    | (refine gk 0 rfl ?_; first | refine sl_op rfl rfl rfl (by first | exact opv_move rfl rfl | exact opv_assign rfl rfl | exact opv_pick_f rfl rfl rfl ) ?_ | refine sl_pass rfl rfl rfl rfl ?_)
    | (refine gk 2 rfl ?_; first | refine sl_pass rfl rfl rfl rfl ?_ | refine sl_yes rfl rfl rfl (by first | exact opv_lss rfl rfl rfl | exact opv_geq rfl rfl rfl ) (by first | omega ) ?_ | refine sl_no rfl rfl rfl (by first | exact opv_lss rfl rfl rfl ) (by first | omega ) ?_ )
    | (refine gk 3 rfl ?_; first | refine sl_op rfl rfl rfl (by first | exact opv_load rfl (by exact rfl) rfl (by exact rfl) | exact opv_fieldAddr rfl rfl ) ?_ )
    | (refine gk 5 rfl ?_; first | refine sl_op rfl rfl rfl (by first | exact opv_nilCheck rfl rfl ) ?_ | refine sl_pass rfl rfl rfl rfl ?_ )
    | refine sl_region rfl ?_
    | refine sl_nil ?_
    | refine thn_k ?_
    | refine swp_true rfl ?_
    | refine swp_false rfl ?_
    | refine swp_ret ?_
    | refine swp_exit ?_
    | refine swp_skip ?_
    | refine thn_ret ?_
    )
  exact end_retZ [rr β s a (q : Int)] (resOk_one (resV_tmp rfl)) ⟨rfl, rfl⟩
/-- What a number must be. -/
def okN (many : Nat) (least most n : Int) : Bool := decide (8 ≤ many) || wi n least most
theorem number_good (β : Nat) (s : List UInt8) (a many : Nat) (least most : Int) (hs : s.length ≤ 9223372036854775807) (ha : a ≤ s.length) (hm : many ≤ 8) :
    SL.T Tryd.prog 42 [ptr β, i64 (many : Int), i64 least, i64 most] [rr β s a (-1)] fun e o => match num s many (okN many least most) a with
      | .ok (n, b) => e = .returned (i64 n) ∧ o = [rr β s b (-1)]
      | .error q => e = .returned (i64 least) ∧ o = [rr β s a (q : Int)] ∧ q = a := by
  refine t_of_body Tryd.func42 rfl (Nat.le_of_ble_eq_true rfl) fun F => ?_
  repeat' (first
    | refine swp_seq ?_
    | (refine gk 0 rfl ?_; first | refine sl_op rfl rfl rfl (by first | exact opv_assign rfl rfl ) ?_ )
    | refine sl_region rfl ?_
    | refine sl_nil ?_
    | refine thn_k ?_
    | refine swp_block ?_
    )
  refine swp_loopS (fun i : Nat => [(0, ptr β), (1, i64 (many : Int)), (2, i64 least), (3, i64 most), (9, .int .u64 ((natLE ((s.drop a).take i) : Nat) : Int)), (10, i64 (i : Int))])
    (fun _ => [rr β s a (-1)]) (fun i => i ≤ many ∧ a + i ≤ s.length) (fun i => many - i) 0 (by repeat first | exact Sub.nil _ | refine Sub.cons rfl ?_) ⟨Nat.zero_le _, by omega⟩ ?_
  rintro i ⟨hi, hai⟩
  by_cases hi2 : i < many
  · by_cases hl : a + i < s.length
    · obtain ⟨b, hb⟩ : ∃ b, s[a + i]? = some b := ⟨_, List.getElem?_eq_getElem (by omega)⟩
      have hb' : s[((a : Int) + (i : Int)).toNat]? = some b := by rw [show ((a : Int) + (i : Int)).toNat = a + i by omega]; exact hb
      have hbl := b.toNat_lt
      have htk : (s.drop a).take (i + 1) = (s.drop a).take i ++ [b] := by rw [List.take_add_one, List.getElem?_drop, hb]; rfl
      have htl : ((s.drop a).take i).length = i := by rw [List.length_take, List.length_drop]; omega
      have hN := natLE_lt ((s.drop a).take i)
      rw [htl] at hN
      have hstep : natLE ((s.drop a).take (i + 1)) = natLE ((s.drop a).take i) + 256 ^ i * b.toNat := by rw [htk, natLE_snoc, htl]
      generalize natLE ((s.drop a).take i) = N at *
      have hp := pow256_le (show i < 8 by omega)
      have hsh : b.toNat <<< (8 * i) < 2 ^ 64 := by
        rw [Nat.shiftLeft_eq, show 2 ^ (8 * i) = 256 ^ i by rw [Nat.pow_mul], Nat.mul_comm]
        exact Nat.lt_of_lt_of_le (Nat.mul_lt_mul_of_pos_left (show b.toNat < 256 by omega) (Nat.pow_pos (by decide))) hp
      have hmul : Value.int .i64 (IntKind.i64.wrap (8 * (i : Int))) = i64 ((8 * i : Nat) : Int) := by rw [wrap64_id (by omega) (by omega)]; simp
      have hcvb : Value.int .u64 (IntKind.u64.wrap ((b.toNat : Nat) : Int)) = .int .u64 ((b.toNat : Nat) : Int) := by rw [wrap_u64' (by omega)]
      have hshl : Value.int .u64 (shl .u64 ((b.toNat : Nat) : Int) ((8 * i : Nat) : Int)) = .int .u64 ((b.toNat <<< (8 * i) : Nat) : Int) := by rw [shl_nat, Nat.mod_eq_of_lt hsh]
      have hadd : Value.int .u64 (IntKind.u64.wrap ((N : Int) + ((b.toNat <<< (8 * i) : Nat) : Int))) = .int .u64 ((natLE ((s.drop a).take (i + 1)) : Nat) : Int) := by rw [add_step hN (by omega) (by omega), hstep]
      clear hstep hN hp hsh htk htl hb
      repeat' (first
        | refine sl_op rfl rfl rfl ((opv_mul rfl rfl rfl).to hmul) ?_
        | refine sl_op rfl rfl rfl ((opv_convert rfl rfl).to hcvb) ?_
        | refine sl_op rfl rfl rfl ((opv_shl rfl rfl rfl (by omega)).to hshl) ?_
        | refine sl_op rfl rfl rfl ((opv_add rfl rfl rfl).to hadd) ?_
        | refine sl_op rfl rfl rfl (opv_indexS rfl rfl rfl (by omega) hb') ?_
        | refine sl_op rfl rfl rfl (opv_lenS rfl rfl rfl rfl rfl) ?_
        | refine swp_seq ?_
        | (refine gk 0 rfl ?_; first | refine sl_op rfl rfl rfl (by first | exact opv_move rfl rfl | exact opv_assign rfl rfl | exact opv_pick_t rfl rfl rfl ) ?_ )
        | (refine gk 1 rfl ?_; first | refine sl_op rfl rfl rfl (by first | exact opv_add64 rfl rfl rfl (by omega) (by omega) ) ?_ )
        | (refine gk 2 rfl ?_; first | refine sl_yes rfl rfl rfl (by first | exact opv_lss rfl rfl rfl | exact opv_geq rfl rfl rfl ) (by first | omega ) ?_ | refine sl_no rfl rfl rfl (by first | exact opv_geq rfl rfl rfl ) (by first | omega ) ?_ )
        | (refine gk 3 rfl ?_; first | refine sl_op rfl rfl rfl (by first | exact opv_load rfl (by exact rfl) rfl (by exact rfl) | exact opv_fieldAddr rfl rfl ) ?_ )
        | (refine gk 5 rfl ?_; first | refine sl_op rfl rfl rfl (by first | exact opv_nilCheck rfl rfl ) ?_ )
        | refine sl_region rfl ?_
        | refine sl_draw (by kernel_rfl) (by kernel_rfl) rfl ?_
        | refine sl_nil ?_
        | refine thn_k ?_
        | refine swp_true rfl ?_
        | refine swp_false rfl ?_
        | refine swp_block ?_
        | refine swp_skip ?_
        )
      exact ⟨rfl, i + 1, next_ok (by repeat first | exact Sub.nil _ | refine Sub.cons rfl ?_), ⟨by omega, by omega⟩, by omega⟩
    · have hg : num s many (okN many least most) a = .error a := by unfold num getF rd; rw [if_neg (by omega)]
      rw [hg]
      repeat' (first
        | refine sl_op rfl rfl rfl (opv_lenS rfl rfl rfl rfl rfl) ?_
        | refine swp_seq ?_
        | (refine gk 0 rfl ?_; first | refine sl_op rfl rfl rfl (by first | exact opv_move rfl rfl | exact opv_assign rfl rfl | exact opv_pick_t rfl rfl rfl ) ?_ )
        | (refine gk 1 rfl ?_; first | refine sl_op rfl rfl rfl (by first | exact opv_add64 rfl rfl rfl (by omega) (by omega) ) ?_ )
        | (refine gk 2 rfl ?_; first | refine sl_yes rfl rfl rfl (by first | exact opv_lss rfl rfl rfl | exact opv_geq rfl rfl rfl ) (by first | omega ) ?_ )
        | (refine gk 3 rfl ?_; first | refine sl_op rfl rfl rfl (by first | exact opv_load rfl (by exact rfl) rfl (by exact rfl) | exact opv_fieldAddr rfl rfl ) ?_ )
        | (refine gk 5 rfl ?_; first | refine sl_op rfl rfl rfl (by first | exact opv_nilCheck rfl rfl ) ?_ | refine sl_store rfl rfl rfl rfl rfl rfl (by exact rfl) rfl (by exact rfl) ?_)
        | refine sl_region rfl ?_
        | refine sl_draw (by kernel_rfl) (by kernel_rfl) rfl ?_
        | refine sl_nil ?_
        | refine thn_k ?_
        | refine swp_true rfl ?_
        | refine swp_block ?_
        | refine swp_ret ?_
        | refine swp_skip ?_
        | refine thn_ret ?_
        | refine inb_ret ?_
        )
      exact end_retZ [rr β s a (a : Int)] (resOk_one (resV_tmp rfl)) ⟨rfl, rfl, rfl⟩
  · obtain rfl : many = i := by omega
    have hrd : rd s a many = some (IntKind.i64.wrap (natLE ((s.drop a).take many))) := by unfold rd; rw [if_pos hai]
    generalize hn : IntKind.i64.wrap (natLE ((s.drop a).take many) : Int) = n at *
    have hcv : Value.int .i64 (IntKind.i64.wrap (natLE ((s.drop a).take many) : Int)) = i64 n := by rw [hn]
    have hg : num s many (okN many least most) a = if okN many least most n then .ok (n, a + many) else .error a := by
      unfold num getF; rw [hrd]; cases h : okN many least most n <;> simp [h]
    rw [hg]
    by_cases h8 : 8 ≤ many
    · rw [if_pos (by simp [okN, h8])]
      repeat' (first
        | refine sl_op rfl rfl rfl ((opv_convert rfl rfl).to hcv) ?_
        | refine swp_seq ?_
        | (refine gk 0 rfl ?_; first | refine sl_op rfl rfl rfl (by first | exact opv_move rfl rfl | exact opv_assign rfl rfl | exact opv_pick_t rfl rfl rfl | exact opv_pick_f rfl rfl rfl ) ?_ | refine sl_pass rfl rfl rfl rfl ?_)
        | (refine gk 1 rfl ?_; first | refine sl_op rfl rfl rfl (by first | exact opv_add64 rfl rfl rfl (by omega) (by omega) ) ?_ )
        | (refine gk 2 rfl ?_; first | refine sl_pass rfl rfl rfl rfl ?_ | refine sl_yes rfl rfl rfl (by first | exact opv_lss rfl rfl rfl | exact opv_geq rfl rfl rfl ) (by first | omega ) ?_ | refine sl_no rfl rfl rfl (by first | exact opv_lss rfl rfl rfl | exact opv_geq rfl rfl rfl ) (by first | omega ) ?_ )
        | (refine gk 3 rfl ?_; first | refine sl_op rfl rfl rfl (by first | exact opv_load rfl (by exact rfl) rfl (by exact rfl) | exact opv_fieldAddr rfl rfl ) ?_ )
        | (refine gk 5 rfl ?_; first | refine sl_op rfl rfl rfl (by first | exact opv_nilCheck rfl rfl ) ?_ | refine sl_pass rfl rfl rfl rfl ?_ | refine sl_store rfl rfl rfl rfl rfl rfl (by exact rfl) rfl (by exact rfl) ?_)
        | refine sl_region rfl ?_
        | refine sl_nil ?_
        | refine thn_k ?_
        | refine swp_false rfl ?_
        | refine swp_ret ?_
        | refine swp_exit ?_
        | refine swp_skip ?_
        )
      refine end_retW [rr β s (a + many) (-1)] (resOk_one (resV_tmp rfl)) (fun F w q => ?_) ⟨rfl, rfl⟩
      simp only [rr, Int.natCast_add]
      exact q
    · by_cases hw : least ≤ n ∧ n ≤ most
      · rw [if_pos (by simp [okN, wi, hw])]
        obtain ⟨hw1, hw2⟩ := hw
        repeat' (first
          | refine sl_op rfl rfl rfl ((opv_convert rfl rfl).to hcv) ?_
          | refine swp_seq ?_
          | (refine gk 0 rfl ?_; first | refine sl_op rfl rfl rfl (by first | exact opv_move rfl rfl | exact opv_assign rfl rfl | exact opv_pick_t rfl rfl rfl | exact opv_pick_f rfl rfl rfl ) ?_ )
          | (refine gk 1 rfl ?_; first | refine sl_op rfl rfl rfl (by first | exact opv_add64 rfl rfl rfl (by omega) (by omega) ) ?_ )
          | (refine gk 2 rfl ?_; first | refine sl_yes rfl rfl rfl (by first | exact opv_lss rfl rfl rfl | exact opv_gtr rfl rfl rfl | exact opv_geq rfl rfl rfl ) (by first | omega ) ?_ | refine sl_no rfl rfl rfl (by first | exact opv_lss rfl rfl rfl | exact opv_gtr rfl rfl rfl | exact opv_geq rfl rfl rfl ) (by first | omega ) ?_ )
          | (refine gk 3 rfl ?_; first | refine sl_op rfl rfl rfl (by first | exact opv_load rfl (by exact rfl) rfl (by exact rfl) | exact opv_fieldAddr rfl rfl ) ?_ )
          | (refine gk 5 rfl ?_; first | refine sl_op rfl rfl rfl (by first | exact opv_nilCheck rfl rfl ) ?_ | refine sl_store rfl rfl rfl rfl rfl rfl (by exact rfl) rfl (by exact rfl) ?_)
          | refine sl_region rfl ?_
          | refine sl_nil ?_
          | refine thn_k ?_
          | refine swp_false rfl ?_
          | refine swp_ret ?_
          | refine swp_exit ?_
          | refine swp_skip ?_
          )
        refine end_retW [rr β s (a + many) (-1)] (resOk_one (resV_tmp rfl)) (fun F w q => ?_) ⟨rfl, rfl⟩
        simp only [rr, Int.natCast_add]
        exact q
      · rw [if_neg (by simp [okN, wi]; omega)]
        rcases (by omega : n < least ∨ (least ≤ n ∧ most < n)) with hw | ⟨hw1, hw2⟩
        · repeat' (first
            | refine sl_op rfl rfl rfl ((opv_convert rfl rfl).to hcv) ?_
            | refine swp_seq ?_
            | (refine gk 0 rfl ?_; first | refine sl_op rfl rfl rfl (by first | exact opv_move rfl rfl | exact opv_assign rfl rfl | exact opv_pick_t rfl rfl rfl ) ?_ | refine sl_pass rfl rfl rfl rfl ?_)
            | (refine gk 2 rfl ?_; first | refine sl_pass rfl rfl rfl rfl ?_ | refine sl_yes rfl rfl rfl (by first | exact opv_lss rfl rfl rfl | exact opv_geq rfl rfl rfl ) (by first | omega ) ?_ | refine sl_no rfl rfl rfl (by first | exact opv_lss rfl rfl rfl ) (by first | omega ) ?_ )
            | (refine gk 3 rfl ?_; first | refine sl_op rfl rfl rfl (by first | exact opv_load rfl (by exact rfl) rfl (by exact rfl) | exact opv_fieldAddr rfl rfl ) ?_ )
            | (refine gk 5 rfl ?_; first | refine sl_op rfl rfl rfl (by first | exact opv_nilCheck rfl rfl ) ?_ | refine sl_pass rfl rfl rfl rfl ?_ | refine sl_store rfl rfl rfl rfl rfl rfl (by exact rfl) rfl (by exact rfl) ?_)
            | refine sl_region rfl ?_
            | refine sl_nil ?_
            | refine thn_k ?_
            | refine swp_true rfl ?_
            | refine swp_false rfl ?_
            | refine swp_ret ?_
            | refine swp_exit ?_
            | refine thn_ret ?_
            )
          exact end_retZ [rr β s a (a : Int)] (resOk_one (resV_tmp rfl)) ⟨rfl, rfl, rfl⟩
        · repeat' (first
            | refine sl_op rfl rfl rfl ((opv_convert rfl rfl).to hcv) ?_
            | refine swp_seq ?_
            | (refine gk 0 rfl ?_; first | refine sl_op rfl rfl rfl (by first | exact opv_move rfl rfl | exact opv_assign rfl rfl | exact opv_pick_t rfl rfl rfl | exact opv_pick_f rfl rfl rfl ) ?_ )
            | (refine gk 2 rfl ?_; first | refine sl_yes rfl rfl rfl (by first | exact opv_lss rfl rfl rfl | exact opv_gtr rfl rfl rfl | exact opv_geq rfl rfl rfl ) (by first | omega ) ?_ | refine sl_no rfl rfl rfl (by first | exact opv_lss rfl rfl rfl ) (by first | omega ) ?_ )
            | (refine gk 3 rfl ?_; first | refine sl_op rfl rfl rfl (by first | exact opv_load rfl (by exact rfl) rfl (by exact rfl) | exact opv_fieldAddr rfl rfl ) ?_ )
            | (refine gk 5 rfl ?_; first | refine sl_op rfl rfl rfl (by first | exact opv_nilCheck rfl rfl ) ?_ | refine sl_store rfl rfl rfl rfl rfl rfl (by exact rfl) rfl (by exact rfl) ?_)
            | refine sl_region rfl ?_
            | refine sl_nil ?_
            | refine thn_k ?_
            | refine swp_true rfl ?_
            | refine swp_false rfl ?_
            | refine swp_ret ?_
            | refine swp_exit ?_
            | refine thn_ret ?_
            )
          exact end_retZ [rr β s a (a : Int)] (resOk_one (resV_tmp rfl)) ⟨rfl, rfl, rfl⟩
end Go.Proofs.YtjdjkcebflablaaDoor
