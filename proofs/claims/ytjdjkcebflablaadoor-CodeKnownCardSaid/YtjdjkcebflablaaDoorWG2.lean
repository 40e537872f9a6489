/- The program's reader: numbers, walked (printed by g2.py). -/
import Derived.Test.YtjdjkcebflablaaDoorWG
set_option linter.unusedVariables false
set_option linter.unusedSimpArgs false
set_option linter.unusedSectionVars false
namespace Go.Proofs.YtjdjkcebflablaaDoor
open Go.SL
set_option maxRecDepth 100000
set_option maxHeartbeats 16000000
/-- More heaps than it needs. -/
theorem T_dropS {P : Program} {f : FuncId} {args : List Value} {h : Heap} {hs : List Heap} {Q : Ending → List Heap → Prop} (t : SL.T P f args [h] Q) : SL.T P f args (h :: hs) Q := by
  intro w X s
  have s1 : Sat ([h] ++ (hs ++ X)) w := by simpa using s
  refine (t w (hs ++ X) s1).mono fun e w' ⟨own, s2, hq⟩ => ⟨own, ?_, hq⟩
  have s3 : Sat ((own ++ X) ++ hs) w' := s2.perm (by simpa [List.append_assoc] using (List.perm_append_comm (l₁ := hs) (l₂ := X)).append_left own)
  exact s3.sub (List.sublist_append_left _ _)
theorem getF_ok {s : List UInt8} {a many : Nat} {p : Int → Bool} {n : Int} (h : rd s a many = some n) (hp : p n = true) : getF s a many p = .ok n := by unfold getF; rw [h]; simp [hp]
theorem getF_no {s : List UInt8} {a many : Nat} {p : Int → Bool} {n : Int} (h : rd s a many = some n) (hp : p n = false) : getF s a many p = .error a := by unfold getF; rw [h]; simp [hp]
attribute [local irreducible] SL.T PFn OpV SOL SWP HOp ChU DZ.ChU
-- ALIAS Tryd
-- CHANGES 45
theorem natLE_snoc : ∀ (l : List UInt8) (b : UInt8), natLE (l ++ [b]) = natLE l + 256 ^ l.length * b.toNat
  | [], b => by simp [natLE]
  | c :: l, b => by
    simp only [List.cons_append, natLE, natLE_snoc l b, List.length_cons, Nat.pow_succ]
    rw [Nat.mul_add, Nat.mul_comm (256 ^ l.length) 256, Nat.mul_assoc, Nat.add_assoc]
theorem natLE_lt : ∀ (l : List UInt8), natLE l < 256 ^ l.length
  | [] => by simp [natLE]
  | c :: l => by
    have h1 := natLE_lt l
    have h2 := c.toNat_lt
    simp only [natLE, List.length_cons, Nat.pow_succ]
    omega
theorem or_step {n i b : Nat} (hn : n < 256 ^ i) : n ||| (b <<< (8 * i)) = n + 256 ^ i * b := by
  have e : 256 ^ i = 2 ^ (8 * i) := by rw [Nat.pow_mul]
  rw [e] at hn ⊢
  rw [Nat.or_comm, ← Nat.shiftLeft_add_eq_or_of_lt hn, Nat.shiftLeft_eq, Nat.mul_comm, Nat.add_comm]
theorem pow256_le {i : Nat} (h : i < 8) : 256 ^ i * 256 ≤ 2 ^ 64 := by
  have : 256 ^ i * 256 = 2 ^ (8 * (i + 1)) := by rw [← Nat.pow_succ, Nat.pow_mul]
  rw [this]; exact Nat.pow_le_pow_right (by decide) (by omega)
theorem get_short (β : Nat) (s : List UInt8) (a many : Nat) (fv : Value) (hs : s.length ≤ 9223372036854775807) (ha : a ≤ s.length) (hm : many ≤ 8) (h : ¬ a + many ≤ s.length) :
    SL.T Tryd.prog 46 [ptr β, i64 (many : Int), fv] [rdr β s a] (Pan a) := by
  have hn := need_no β s a
  have hlen : (s.length : Int) - (a : Int) < many := by omega
  refine t_of_body Tryd.func46 rfl (Nat.le_of_ble_eq_true rfl) fun F => ?_
  repeat' (first
    | refine swp_seq ?_
    | (refine gk 0 rfl ?_; first | refine sl_op rfl rfl rfl (by first | exact opv_assign rfl rfl ) ?_ )
    | refine sl_region rfl ?_
    | refine sl_nil ?_
    )
  refine DZ.sl_drawC [.q [0, 1, 2, 3, 4, 5, 6, 7, 8, 9, 10, 11, 12], .h true 13] [] (by kernel_rfl) (by kernel_rfl) (by kernel_rfl) (by kernel_rfl) ?_
  repeat' (first
    | refine sl_op rfl rfl rfl (opv_lenS rfl rfl rfl rfl rfl) ?_
    | (refine gk 0 rfl ?_; first | refine sl_op rfl rfl rfl (by first | exact opv_move rfl rfl ) ?_ )
    | (refine gk 1 rfl ?_; first | refine sl_op rfl rfl rfl (by first | exact opv_sub64 rfl rfl rfl (by omega) (by omega) ) ?_ )
    | (refine gk 2 rfl ?_; first | refine sl_no rfl rfl rfl (by first | exact opv_geq rfl rfl rfl ) (by first | omega ) ?_ )
    | (refine gk 3 rfl ?_; first | refine sl_op rfl rfl rfl (by first | exact opv_load rfl (by exact rfl) rfl (by exact rfl) | exact opv_fieldAddr rfl rfl ) ?_ )
    | (refine gk 5 rfl ?_; first | refine sl_op rfl rfl rfl (by first | exact opv_nilCheck rfl rfl ) ?_ )
    | refine DZ.chu_q rfl ?_
    | (refine DZ.chu_Z rfl rfl rfl rfl rfl rfl rfl rfl (hn) (fun h => by cases h) (fun _ => .inl ⟨_, List.Perm.refl _⟩) ?_; rintro _ _ ⟨βf, rfl, rfl⟩; refine .inr ⟨_, _, rfl, rfl, ?_⟩; repeat (first | refine thn_panic ?_ ))
    | refine sl_nil ?_
    )
  exact pan_end ⟨_, rfl, rfl⟩
/-- A number, and what it must be. -/
theorem get_from (β : Nat) (s : List UInt8) (a many : Nat) (β1 β2 : Nat) (x y : Int) (hs : s.length ≤ 9223372036854775807) (ha : a ≤ s.length) (hm : many ≤ 8) :
    SL.T Tryd.prog 46 [ptr β, i64 (many : Int), .func (.func 64) #[] #[ptr β1, ptr β2]] [rdr β s a, blk β1 (.cells ⟨[i64 x]⟩ 3 (0, 0)), blk β2 (.cells ⟨[i64 y]⟩ 3 (0, 0))] fun e o =>
      (∃ n, getF s a many (fun z => wi z x y) = .ok n ∧ a + many ≤ s.length ∧ e = .returned (i64 n) ∧ o = [rdr β s (a + many), blk β1 (.cells ⟨[i64 x]⟩ 3 (0, 0)), blk β2 (.cells ⟨[i64 y]⟩ 3 (0, 0))]) ∨ (getF s a many (fun z => wi z x y) = .error a ∧ Pan a e o) := by
  by_cases h : a + many ≤ s.length
  · have hrd : rd s a many = some (IntKind.i64.wrap (natLE ((s.drop a).take many))) := by unfold rd; rw [if_pos h]
    have hny := need_yes β s a
    have hnn := need_no β s a
    have hlen : (many : Int) ≤ (s.length : Int) - (a : Int) := by omega
    have hc := fun z => from1_calls x y z β1 β2
    refine t_of_body Tryd.func46 rfl (Nat.le_of_ble_eq_true rfl) fun F => ?_
    repeat' (first
      | refine sl_op rfl rfl rfl (opv_lenS rfl rfl rfl rfl rfl) ?_
      | refine swp_seq ?_
      | (refine gk 0 rfl ?_; first | refine sl_op rfl rfl rfl (by first | exact opv_move rfl rfl | exact opv_assign rfl rfl ) ?_ )
      | (refine gk 1 rfl ?_; first | refine sl_op rfl rfl rfl (by first | exact opv_sub64 rfl rfl rfl (by omega) (by omega) ) ?_ )
      | (refine gk 2 rfl ?_; first | refine sl_yes rfl rfl rfl (by first | exact opv_geq rfl rfl rfl ) (by first | omega ) ?_ )
      | (refine gk 3 rfl ?_; first | refine sl_op rfl rfl rfl (by first | exact opv_load rfl (by exact rfl) rfl (by exact rfl) | exact opv_fieldAddr rfl rfl ) ?_ )
      | (refine gk 4 rfl ?_; first | refine sl_op rfl rfl rfl (opv_call rfl rfl rfl rfl rfl (hny)) ?_)
      | (refine gk 5 rfl ?_; first | refine sl_op rfl rfl rfl (by first | exact opv_nilCheck rfl rfl ) ?_ )
      | refine sl_region rfl ?_
      | refine sl_draw (by kernel_rfl) (by kernel_rfl) rfl ?_
      | refine sl_nil ?_
      | refine thn_k ?_
      | refine swp_block ?_
      )
    refine swp_loopS (fun i : Nat => [(0, ptr β), (1, i64 (many : Int)), (2, .func (.func 64) #[] #[ptr β1, ptr β2]), (7, .int .u64 ((natLE ((s.drop a).take i) : Nat) : Int)), (23, i64 (many : Int)), (24, i64 (i : Int))])
      (fun _ => [rdr β s a, blk β1 (.cells ⟨[i64 x]⟩ 3 (0, 0)), blk β2 (.cells ⟨[i64 y]⟩ 3 (0, 0))]) (fun i => i ≤ many) (fun i => many - i) 0 (by repeat first | exact Sub.nil _ | refine Sub.cons rfl ?_) (Nat.zero_le _) ?_
    rintro i hi
    by_cases hi2 : i < many
    · obtain ⟨b, hb⟩ : ∃ b, s[a + i]? = some b := ⟨_, List.getElem?_eq_getElem (by omega)⟩
      have hb' : s[((a : Int) + (i : Int)).toNat]? = some b := by rw [show ((a : Int) + (i : Int)).toNat = a + i by omega]; exact hb
      have hbl := b.toNat_lt
      have htk : (s.drop a).take (i + 1) = (s.drop a).take i ++ [b] := by rw [List.take_add_one, List.getElem?_drop, hb]; rfl
      have htl : ((s.drop a).take i).length = i := by rw [List.length_take, List.length_drop]; omega
      have hN := natLE_lt ((s.drop a).take i)
      rw [htl] at hN
      have hstep : natLE ((s.drop a).take (i + 1)) = natLE ((s.drop a).take i) ||| (b.toNat <<< (8 * i)) := by rw [htk, natLE_snoc, htl, or_step hN]
      generalize natLE ((s.drop a).take i) = N at *
      have hp := pow256_le (show i < 8 by omega)
      have hsh : b.toNat <<< (8 * i) < 2 ^ 64 := by
        rw [Nat.shiftLeft_eq, show 2 ^ (8 * i) = 256 ^ i by rw [Nat.pow_mul], Nat.mul_comm]
        exact Nat.lt_of_lt_of_le (Nat.mul_lt_mul_of_pos_left (show b.toNat < 256 by omega) (Nat.pow_pos (by decide))) hp
      have hN64 : N < 2 ^ 64 := Nat.lt_of_lt_of_le hN (Nat.le_trans (Nat.le_mul_of_pos_right _ (by decide)) hp)
      have hmul : Value.int .i64 (IntKind.i64.wrap (8 * (i : Int))) = i64 ((8 * i : Nat) : Int) := by rw [wrap64_id (by omega) (by omega)]; simp
      have hcvb : Value.int .u64 (IntKind.u64.wrap ((b.toNat : Nat) : Int)) = .int .u64 ((b.toNat : Nat) : Int) := by rw [wrap_u64' (by omega)]
      have hshl : Value.int .u64 (shl .u64 ((b.toNat : Nat) : Int) ((8 * i : Nat) : Int)) = .int .u64 ((b.toNat <<< (8 * i) : Nat) : Int) := by rw [shl_nat, Nat.mod_eq_of_lt hsh]
      have hor : Value.int .u64 (bitsOp .or .u64 (N : Int) ((b.toNat <<< (8 * i) : Nat) : Int)) = .int .u64 ((natLE ((s.drop a).take (i + 1)) : Nat) : Int) := by rw [or_nat hN64 hsh, hstep]
      clear hstep hN hp hsh hN64 htk htl hc hny hnn hrd
      repeat' (first
        | refine sl_op rfl rfl rfl ((opv_mul rfl rfl rfl).to hmul) ?_
        | refine sl_op rfl rfl rfl ((opv_convert rfl rfl).to hcvb) ?_
        | refine sl_op rfl rfl rfl ((opv_shl rfl rfl rfl (by omega)).to hshl) ?_
        | refine sl_op rfl rfl rfl ((opv_bits rfl rfl rfl (by decide)).to hor) ?_
        | refine sl_op rfl rfl rfl (opv_indexS rfl rfl rfl (by omega) hb') ?_
        | refine swp_seq ?_
        | (refine gk 0 rfl ?_; first | refine sl_op rfl rfl rfl (by first | exact opv_move rfl rfl | exact opv_assign rfl rfl ) ?_ )
        | (refine gk 1 rfl ?_; first | refine sl_op rfl rfl rfl (by first | exact opv_add64 rfl rfl rfl (by omega) (by omega) ) ?_ )
        | (refine gk 2 rfl ?_; first | refine sl_yes rfl rfl rfl (by first | exact opv_lss rfl rfl rfl ) (by first | omega ) ?_ )
        | (refine gk 3 rfl ?_; first | refine sl_op rfl rfl rfl (by first | exact opv_load rfl (by exact rfl) rfl (by exact rfl) | exact opv_fieldAddr rfl rfl ) ?_ )
        | (refine gk 5 rfl ?_; first | refine sl_op rfl rfl rfl (by first | exact opv_nilCheck rfl rfl ) ?_ )
        | refine sl_region rfl ?_
        | refine sl_draw (by kernel_rfl) (by kernel_rfl) rfl ?_
        | refine sl_nil ?_
        | refine thn_k ?_
        | refine swp_true rfl ?_
        | refine swp_block ?_
        | refine swp_skip ?_
        )
      exact ⟨rfl, i + 1, next_ok (by repeat first | exact Sub.nil _ | refine Sub.cons rfl ?_), by omega, by omega⟩
    · obtain rfl : many = i := by omega
      have hz : IntKind.i64.wrap (IntKind.u64.wrap (natLE ((s.drop a).take many))) = IntKind.i64.wrap (natLE ((s.drop a).take many)) := by
        rw [wrap_u64']
        have := natLE_lt ((s.drop a).take many)
        refine Nat.lt_of_lt_of_le this ?_
        have e : ((s.drop a).take many).length ≤ 8 := by rw [List.length_take]; omega
        exact Nat.le_trans (Nat.pow_le_pow_right (by decide) e) (by decide)
      generalize hn : IntKind.i64.wrap (natLE ((s.drop a).take many) : Int) = n at *
      have hcv : Value.int .i64 (IntKind.i64.wrap (natLE ((s.drop a).take many) : Int)) = i64 n := by rw [hn]
      cases hp : (fun z => wi z x y) n with
      | true =>
        have hcz := (hc n).to (congrArg Value.bool hp)
        repeat' (first
          | refine sl_op rfl rfl rfl ((opv_convert rfl rfl).to hcv) ?_
          | refine swp_seq ?_
          | (refine gk 0 rfl ?_; first | refine sl_op rfl rfl rfl (by first | exact opv_move rfl rfl | exact opv_assign rfl rfl ) ?_ )
          | (refine gk 1 rfl ?_; first | refine sl_op rfl rfl rfl (by first | exact opv_add64 rfl rfl rfl (by omega) (by omega) ) ?_ )
          | (refine gk 2 rfl ?_; first | refine sl_no rfl rfl rfl (by first | exact opv_lss rfl rfl rfl ) (by first | omega ) ?_ )
          | (refine gk 3 rfl ?_; first | refine sl_op rfl rfl rfl (by first | exact opv_load rfl (by exact rfl) rfl (by exact rfl) | exact opv_fieldAddr rfl rfl ) ?_ )
          | (refine gk 4 rfl ?_; first | refine sl_op rfl rfl rfl (opv_call rfl rfl rfl rfl rfl (hcz)) ?_ | refine sl_op rfl rfl rfl (opv_call rfl rfl rfl rfl rfl (hny)) ?_)
          | (refine gk 5 rfl ?_; first | refine sl_op rfl rfl rfl (by first | exact opv_nilCheck rfl rfl ) ?_ | refine sl_store rfl rfl rfl rfl rfl rfl (by exact rfl) rfl (by exact rfl) ?_)
          | refine sl_region rfl ?_
          | refine sl_nil ?_
          | refine thn_k ?_
          | refine swp_false rfl ?_
          | refine swp_ret ?_
          | refine swp_exit ?_
          )
        refine end_retW [rdr β s (a + many), blk β1 (.cells ⟨[i64 x]⟩ 3 (0, 0)), blk β2 (.cells ⟨[i64 y]⟩ 3 (0, 0))] (resOk_one (resV_tmp rfl)) (fun F w q => ?_) (.inl ⟨n, getF_ok hrd hp, h, rfl, rfl⟩)
        simp only [rdr, Int.natCast_add]
        exact q
      | false =>
        have hcz := (hc n).to (congrArg Value.bool hp)
        repeat' (first
          | refine sl_op rfl rfl rfl ((opv_convert rfl rfl).to hcv) ?_
          | refine swp_seq ?_
          | (refine gk 0 rfl ?_; first | refine sl_op rfl rfl rfl (by first | exact opv_move rfl rfl ) ?_ )
          | (refine gk 2 rfl ?_; first | refine sl_no rfl rfl rfl (by first | exact opv_lss rfl rfl rfl ) (by first | omega ) ?_ )
          | (refine gk 4 rfl ?_; first | refine sl_op rfl rfl rfl (opv_call rfl rfl rfl rfl rfl (hcz)) ?_ | (refine sl_call rfl rfl rfl rfl rfl rfl rfl rfl (hnn) ?_; rintro _ _ ⟨βf, rfl, rfl⟩; refine .inr ⟨_, rfl, ?_⟩; repeat (first | refine thn_panic ?_ )))
          | refine sl_region rfl ?_
          | refine sl_nil ?_
          | refine swp_false rfl ?_
          | refine swp_exit ?_
          )
        exact pan_end (.inr ⟨getF_no hrd hp, _, rfl, rfl⟩)
  · have hg : getF s a many (fun z => wi z x y) = .error a := by unfold getF rd; rw [if_neg h]
    exact (T_dropS (get_short β s a many _ hs ha hm h)).mono fun e o hP => .inr ⟨hg, hP⟩
/-- A number, and what it must be. -/
theorem get_free (β : Nat) (s : List UInt8) (a many : Nat) (hs : s.length ≤ 9223372036854775807) (ha : a ≤ s.length) (hm : many ≤ 8) :
    SL.T Tryd.prog 46 [ptr β, i64 (many : Int), .func (.func 74) #[] #[]] [rdr β s a] fun e o =>
      (∃ n, getF s a many (fun _ => true) = .ok n ∧ a + many ≤ s.length ∧ e = .returned (i64 n) ∧ o = [rdr β s (a + many)]) ∨ (getF s a many (fun _ => true) = .error a ∧ Pan a e o) := by
  by_cases h : a + many ≤ s.length
  · have hrd : rd s a many = some (IntKind.i64.wrap (natLE ((s.drop a).take many))) := by unfold rd; rw [if_pos h]
    have hny := need_yes β s a
    have hnn := need_no β s a
    have hlen : (many : Int) ≤ (s.length : Int) - (a : Int) := by omega
    have hc := fun z => free_calls z
    refine t_of_body Tryd.func46 rfl (Nat.le_of_ble_eq_true rfl) fun F => ?_
    repeat' (first
      | refine sl_op rfl rfl rfl (opv_lenS rfl rfl rfl rfl rfl) ?_
      | refine swp_seq ?_
      | (refine gk 0 rfl ?_; first | refine sl_op rfl rfl rfl (by first | exact opv_move rfl rfl | exact opv_assign rfl rfl ) ?_ )
      | (refine gk 1 rfl ?_; first | refine sl_op rfl rfl rfl (by first | exact opv_sub64 rfl rfl rfl (by omega) (by omega) ) ?_ )
      | (refine gk 2 rfl ?_; first | refine sl_yes rfl rfl rfl (by first | exact opv_geq rfl rfl rfl ) (by first | omega ) ?_ )
      | (refine gk 3 rfl ?_; first | refine sl_op rfl rfl rfl (by first | exact opv_load rfl (by exact rfl) rfl (by exact rfl) | exact opv_fieldAddr rfl rfl ) ?_ )
      | (refine gk 4 rfl ?_; first | refine sl_op rfl rfl rfl (opv_call rfl rfl rfl rfl rfl (hny)) ?_)
      | (refine gk 5 rfl ?_; first | refine sl_op rfl rfl rfl (by first | exact opv_nilCheck rfl rfl ) ?_ )
      | refine sl_region rfl ?_
      | refine sl_draw (by kernel_rfl) (by kernel_rfl) rfl ?_
      | refine sl_nil ?_
      | refine thn_k ?_
      | refine swp_block ?_
      )
    refine swp_loopS (fun i : Nat => [(0, ptr β), (1, i64 (many : Int)), (2, .func (.func 74) #[] #[]), (7, .int .u64 ((natLE ((s.drop a).take i) : Nat) : Int)), (23, i64 (many : Int)), (24, i64 (i : Int))])
      (fun _ => [rdr β s a]) (fun i => i ≤ many) (fun i => many - i) 0 (by repeat first | exact Sub.nil _ | refine Sub.cons rfl ?_) (Nat.zero_le _) ?_
    rintro i hi
    by_cases hi2 : i < many
    · obtain ⟨b, hb⟩ : ∃ b, s[a + i]? = some b := ⟨_, List.getElem?_eq_getElem (by omega)⟩
      have hb' : s[((a : Int) + (i : Int)).toNat]? = some b := by rw [show ((a : Int) + (i : Int)).toNat = a + i by omega]; exact hb
      have hbl := b.toNat_lt
      have htk : (s.drop a).take (i + 1) = (s.drop a).take i ++ [b] := by rw [List.take_add_one, List.getElem?_drop, hb]; rfl
      have htl : ((s.drop a).take i).length = i := by rw [List.length_take, List.length_drop]; omega
      have hN := natLE_lt ((s.drop a).take i)
      rw [htl] at hN
      have hstep : natLE ((s.drop a).take (i + 1)) = natLE ((s.drop a).take i) ||| (b.toNat <<< (8 * i)) := by rw [htk, natLE_snoc, htl, or_step hN]
      generalize natLE ((s.drop a).take i) = N at *
      have hp := pow256_le (show i < 8 by omega)
      have hsh : b.toNat <<< (8 * i) < 2 ^ 64 := by
        rw [Nat.shiftLeft_eq, show 2 ^ (8 * i) = 256 ^ i by rw [Nat.pow_mul], Nat.mul_comm]
        exact Nat.lt_of_lt_of_le (Nat.mul_lt_mul_of_pos_left (show b.toNat < 256 by omega) (Nat.pow_pos (by decide))) hp
      have hN64 : N < 2 ^ 64 := Nat.lt_of_lt_of_le hN (Nat.le_trans (Nat.le_mul_of_pos_right _ (by decide)) hp)
      have hmul : Value.int .i64 (IntKind.i64.wrap (8 * (i : Int))) = i64 ((8 * i : Nat) : Int) := by rw [wrap64_id (by omega) (by omega)]; simp
      have hcvb : Value.int .u64 (IntKind.u64.wrap ((b.toNat : Nat) : Int)) = .int .u64 ((b.toNat : Nat) : Int) := by rw [wrap_u64' (by omega)]
      have hshl : Value.int .u64 (shl .u64 ((b.toNat : Nat) : Int) ((8 * i : Nat) : Int)) = .int .u64 ((b.toNat <<< (8 * i) : Nat) : Int) := by rw [shl_nat, Nat.mod_eq_of_lt hsh]
      have hor : Value.int .u64 (bitsOp .or .u64 (N : Int) ((b.toNat <<< (8 * i) : Nat) : Int)) = .int .u64 ((natLE ((s.drop a).take (i + 1)) : Nat) : Int) := by rw [or_nat hN64 hsh, hstep]
      clear hstep hN hp hsh hN64 htk htl hc hny hnn hrd
      repeat' (first
        | refine sl_op rfl rfl rfl ((opv_mul rfl rfl rfl).to hmul) ?_
        | refine sl_op rfl rfl rfl ((opv_convert rfl rfl).to hcvb) ?_
        | refine sl_op rfl rfl rfl ((opv_shl rfl rfl rfl (by omega)).to hshl) ?_
        | refine sl_op rfl rfl rfl ((opv_bits rfl rfl rfl (by decide)).to hor) ?_
        | refine sl_op rfl rfl rfl (opv_indexS rfl rfl rfl (by omega) hb') ?_
        | refine swp_seq ?_
        | (refine gk 0 rfl ?_; first | refine sl_op rfl rfl rfl (by first | exact opv_move rfl rfl | exact opv_assign rfl rfl ) ?_ )
        | (refine gk 1 rfl ?_; first | refine sl_op rfl rfl rfl (by first | exact opv_add64 rfl rfl rfl (by omega) (by omega) ) ?_ )
        | (refine gk 2 rfl ?_; first | refine sl_yes rfl rfl rfl (by first | exact opv_lss rfl rfl rfl ) (by first | omega ) ?_ )
        | (refine gk 3 rfl ?_; first | refine sl_op rfl rfl rfl (by first | exact opv_load rfl (by exact rfl) rfl (by exact rfl) | exact opv_fieldAddr rfl rfl ) ?_ )
        | (refine gk 5 rfl ?_; first | refine sl_op rfl rfl rfl (by first | exact opv_nilCheck rfl rfl ) ?_ )
        | refine sl_region rfl ?_
        | refine sl_draw (by kernel_rfl) (by kernel_rfl) rfl ?_
        | refine sl_nil ?_
        | refine thn_k ?_
        | refine swp_true rfl ?_
        | refine swp_block ?_
        | refine swp_skip ?_
        )
      exact ⟨rfl, i + 1, next_ok (by repeat first | exact Sub.nil _ | refine Sub.cons rfl ?_), by omega, by omega⟩
    · obtain rfl : many = i := by omega
      have hz : IntKind.i64.wrap (IntKind.u64.wrap (natLE ((s.drop a).take many))) = IntKind.i64.wrap (natLE ((s.drop a).take many)) := by
        rw [wrap_u64']
        have := natLE_lt ((s.drop a).take many)
        refine Nat.lt_of_lt_of_le this ?_
        have e : ((s.drop a).take many).length ≤ 8 := by rw [List.length_take]; omega
        exact Nat.le_trans (Nat.pow_le_pow_right (by decide) e) (by decide)
      generalize hn : IntKind.i64.wrap (natLE ((s.drop a).take many) : Int) = n at *
      have hcv : Value.int .i64 (IntKind.i64.wrap (natLE ((s.drop a).take many) : Int)) = i64 n := by rw [hn]
      cases hp : (fun _ => true) n with
      | true =>
        have hcz := (hc n).to (congrArg Value.bool hp)
        repeat' (first
          | refine sl_op rfl rfl rfl ((opv_convert rfl rfl).to hcv) ?_
          | refine swp_seq ?_
          | (refine gk 0 rfl ?_; first | refine sl_op rfl rfl rfl (by first | exact opv_move rfl rfl | exact opv_assign rfl rfl ) ?_ )
          | (refine gk 1 rfl ?_; first | refine sl_op rfl rfl rfl (by first | exact opv_add64 rfl rfl rfl (by omega) (by omega) ) ?_ )
          | (refine gk 2 rfl ?_; first | refine sl_no rfl rfl rfl (by first | exact opv_lss rfl rfl rfl ) (by first | omega ) ?_ )
          | (refine gk 3 rfl ?_; first | refine sl_op rfl rfl rfl (by first | exact opv_load rfl (by exact rfl) rfl (by exact rfl) | exact opv_fieldAddr rfl rfl ) ?_ )
          | (refine gk 4 rfl ?_; first | refine sl_op rfl rfl rfl (opv_call rfl rfl rfl rfl rfl (hcz)) ?_ | refine sl_op rfl rfl rfl (opv_call rfl rfl rfl rfl rfl (hny)) ?_)
          | (refine gk 5 rfl ?_; first | refine sl_op rfl rfl rfl (by first | exact opv_nilCheck rfl rfl ) ?_ | refine sl_store rfl rfl rfl rfl rfl rfl (by exact rfl) rfl (by exact rfl) ?_)
          | refine sl_region rfl ?_
          | refine sl_nil ?_
          | refine thn_k ?_
          | refine swp_false rfl ?_
          | refine swp_ret ?_
          | refine swp_exit ?_
          )
        refine end_retW [rdr β s (a + many)] (resOk_one (resV_tmp rfl)) (fun F w q => ?_) (.inl ⟨n, getF_ok hrd hp, h, rfl, rfl⟩)
        simp only [rdr, Int.natCast_add]
        exact q
      | false =>
        have hcz := (hc n).to (congrArg Value.bool hp)
        repeat' (first
          | refine sl_op rfl rfl rfl ((opv_convert rfl rfl).to hcv) ?_
          | refine swp_seq ?_
          | (refine gk 0 rfl ?_; first | refine sl_op rfl rfl rfl (by first | exact opv_move rfl rfl ) ?_ )
          | (refine gk 2 rfl ?_; first | refine sl_no rfl rfl rfl (by first | exact opv_lss rfl rfl rfl ) (by first | omega ) ?_ )
          | (refine gk 4 rfl ?_; first | refine sl_op rfl rfl rfl (opv_call rfl rfl rfl rfl rfl (hcz)) ?_ | (refine sl_call rfl rfl rfl rfl rfl rfl rfl rfl (hnn) ?_; rintro _ _ ⟨βf, rfl, rfl⟩; refine .inr ⟨_, rfl, ?_⟩; repeat (first | refine thn_panic ?_ )))
          | refine sl_region rfl ?_
          | refine sl_nil ?_
          | refine swp_false rfl ?_
          | refine swp_exit ?_
          )
        exact pan_end (.inr ⟨getF_no hrd hp, _, rfl, rfl⟩)
  · have hg : getF s a many (fun _ => true) = .error a := by unfold getF rd; rw [if_neg h]
    exact (T_dropS (get_short β s a many _ hs ha hm h)).mono fun e o hP => .inr ⟨hg, hP⟩
end Go.Proofs.YtjdjkcebflablaaDoor
