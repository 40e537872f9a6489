/- What is filled: walked. -/
import Derived.Test.YtobcmglbdmaceaaGreatDoorWA4
set_option linter.unusedVariables false
set_option linter.unusedSimpArgs false
set_option linter.unusedSectionVars false
namespace Go.Proofs.YtobcmglbdmaceaaGreatDoor
open Go.SL
set_option maxRecDepth 100000
set_option maxHeartbeats 16000000
theorem end_retY {P : Program} {n : Nat} {fn : Func} {env : Env} {own own1 : List Heap} {ds : List Deferred} {v : Value} {Q : Ending → List Heap → Prop} (hs : List Heap) {rest : List Heap} [m : Marks ds own own1] [t : TakeL own1 hs rest] (hr : ResOk P fn.results.toList own1 env n v)
    (hq : Q (.returned v) hs) : bodyQ P fn n Q .normal env own ds := ⟨v, own1, hs, m, hr, sub_perm, hq⟩
attribute [local irreducible] SL.T PFn OpV SOL SWP HOp ChU
-- ALIAS Tryz
theorem between_iter (β1 β2 β3 : Nat) (J0 : Heap) (b : Option Addr) (n c : Nat) (l : List Pk) (t every : Nat) [sl : Sl J0 b (flatP l)] (hl : l.length = n) (hn : n ≤ 1000000) (ht : t ≤ 1000000) (he : 0 < every) :
    IterD Tryz.prog 42 [] [ptr β1, ptr β2, ptr β3] [blk β1 (.cells ⟨[i64 (t : Int)]⟩ 3 (0, 0)), blk β2 (.cells ⟨[.slice b n c]⟩ 22 (0, 0)), blk β3 (.cells ⟨[i64 (every : Int)]⟩ 3 (0, 0)), J0] [J0] ((fl t every 0 l).map fun p => [pkV p]) := by
  intro L J Jx hy H h0
  refine t_of_body Tryz.func42 rfl (Nat.le_of_ble_eq_true rfl) fun F => ?_
  repeat' (first
    | refine swp_seq ?_
    | (refine gk 0 rfl ?_; first | refine sl_op rfl rfl rfl (by first | exact opv_move rfl rfl | exact opv_assign rfl rfl | exact opv_makeFunc rfl rfl rfl) ?_ )
    | (refine gk 3 rfl ?_; first | refine sl_op rfl rfl rfl (by first | exact opv_load rfl (by exact rfl) rfl (by exact rfl) ) ?_ )
    | (refine gk 4 rfl ?_; first | refine sl_op rfl rfl rfl (by first | exact opv_len rfl rfl rfl rfl rfl ) ?_)
    | (refine gk 5 rfl ?_; first | refine sl_box rfl rfl rfl rfl rfl rfl (fun β => ?_) )
    | refine sl_region rfl ?_
    | refine sl_nil ?_
    | refine thn_k ?_
    | refine swp_block ?_
    )
  obtain ⟨β4, rfl⟩ : ∃ x, x = β := ⟨_, rfl⟩
  refine swp_loopS (fun s : (Nat × Heap) => [(1, ptr β1), (2, ptr β2), (3, ptr β3), (4, ptr β4), (5, .func (.func 43) #[] #[ptr β1, ptr β4]), (9, .slice b n c), (10, i64 (n : Int)), (11, i64 (s.1 : Int))])
    (fun s => [s.2, blk β4 (.cells ⟨[.func (.yield L) #[] #[]]⟩ 94 (0, 0)), blk β1 (.cells ⟨[i64 (t : Int)]⟩ 3 (0, 0)), blk β2 (.cells ⟨[.slice b n c]⟩ 22 (0, 0)), blk β3 (.cells ⟨[i64 (every : Int)]⟩ 3 (0, 0)), J0])
    (fun s => s.1 ≤ n ∧ J (pos t every s.1) s.2) (fun s => n - s.1) (0, H) (by repeat first | exact Sub.nil _ | refine Sub.cons rfl ?_) ⟨Nat.zero_le _, by simpa [pos] using h0⟩ ?_
  clear h0
  rintro ⟨i, H⟩ ⟨hi1, hJ⟩
  dsimp only at hi1 hJ ⊢
  obtain ⟨pre, hpl, hpre⟩ := fl_drop t every he l i (by omega)
  have hget : ∀ j x, (fl t every i (l.drop i))[j]? = some x → ((fl t every 0 l).map fun p => [pkV p])[pos t every i + j]? = some [pkV x] := fun j x hx => by
    rw [List.getElem?_map, hpre, List.getElem?_append_right (by omega), hpl, show pos t every i + j - pos t every i = j by omega, hx]; rfl
  by_cases hi : i < n
  · obtain ⟨p, hp⟩ : ∃ p, l[i]? = some p := ⟨_, List.getElem?_eq_getElem (by omega)⟩
    obtain ⟨c1, c2⟩ := flatP_at hp
    have hfl := flatP_length l
    have hcl : ((i : Nat) : Int).toNat * 2 < (flatP l).length := by simp; omega
    have hc1 : (flatP l)[((i : Nat) : Int).toNat * 2]? = some (i64 p.th) := by simpa using c1
    have hc2 : (flatP l)[((i : Nat) : Int).toNat * 2 + 1]? = some (i64 p.kd) := by simpa using c2
    have hd : l.drop i = p :: l.drop (i + 1) := by
      rw [List.drop_eq_getElem_cons (by omega), (List.getElem?_eq_some_iff.1 hp).2]
    rw [hd] at hget
    have hx0 := hget 0 p rfl
    rw [Nat.add_zero] at hx0
    have hyy := hy _ _ H hx0 hJ
    have hdv : (i + 1) / every = i / every + (if (i + 1) % every = 0 then 1 else 0) := by
      rw [Nat.succ_div]
      simp only [Nat.dvd_iff_mod_eq_zero]
    have hr : Value.int .i64 (((i : Int) + 1).tmod (every : Int)) = i64 (((i + 1) % every : Nat) : Int) := congrArg (Value.int .i64) (by
      rw [show ((i : Int) + 1) = ((i + 1 : Nat) : Int) by omega]
      exact (Int.ofNat_tmod (i + 1) every).symm)
    by_cases h0 : (i + 1) % every = 0
    · rw [h0] at hr
      rw [if_pos h0] at hdv
      have hpos : pos t every (i + 1) = pos t every i + 1 + t := by simp only [pos, hdv, Nat.mul_add, Nat.mul_one]; omega
      have hround : ∀ H', J (pos t every i + 1) H' → _ := fun H' hJ' => round_calls β1 β4 L t (pos t every i + 1) J Jx _ ht (fun u hu => by
        rw [Nat.add_assoc]
        refine hget (1 + u) _ ?_
        rw [fl, if_pos h0, Nat.add_comm 1 u, List.getElem?_cons_succ, List.getElem?_append_left (by rw [rnd_length]; exact hu)]
        exact rnd_get hu) hy H' hJ'
      repeat' (first
        | refine swp_seq ?_
        | (refine gk 0 rfl ?_; first | refine sl_op rfl rfl rfl (by first | exact opv_move rfl rfl | exact opv_assign rfl rfl ) ?_ )
        | (refine gk 2 rfl ?_; first | refine sl_yes rfl rfl rfl (by first | exact opv_lss rfl rfl rfl ) (by first | omega ) ?_ )
        | (refine gk 3 rfl ?_; first | refine sl_op rfl rfl rfl (by first | exact opv_load rfl (by exact rfl) rfl (by exact rfl) | exact opv_loadA rfl (by exact rfl) rfl (by exact rfl) (by exact rfl) | exact opv_indexAddrI rfl rfl rfl (by omega) (by omega) (by first | omega ) | exact opv_load2 rfl (by exact rfl) (by infer_instance) (by assumption) (by assumption) ) ?_ )
        | (refine gk 5 rfl ?_; first | refine sl_alloc rfl rfl rfl rfl (by exact rfl) (fun β => ?_) | refine sl_store rfl rfl rfl rfl rfl rfl (by exact rfl) rfl (by exact rfl) ?_)
        | refine sl_region rfl ?_
        | refine sl_nil ?_
        | refine swp_true rfl ?_
        | refine swp_block ?_
        | refine swp_skip ?_
        )
      refine sl_hop (hs := [H]) rfl rfl rfl (hop_yield rfl rfl rfl rfl hyy) ?_
      rintro v own' ⟨H', rfl, ⟨rfl, hJ'⟩ | ⟨rfl, hJ'⟩⟩ <;> refine ⟨_, rfl, ?_⟩
      · have hro := hround H' hJ'
        repeat' (first
          | refine sl_op rfl rfl rfl ((opv_rem rfl rfl rfl (by omega)).to hr) ?_
          | (refine gk 0 rfl ?_; first | refine sl_op rfl rfl rfl (by first | exact opv_move rfl rfl | exact opv_pick_t rfl rfl rfl | exact opv_pick_f rfl rfl rfl | exact opv_not_t rfl rfl | exact opv_not_f rfl rfl ) ?_ )
          | (refine gk 1 rfl ?_; first | refine sl_op rfl rfl rfl (by first | exact opv_add64 rfl rfl rfl (by omega) (by omega) ) ?_ )
          | (refine gk 2 rfl ?_; first | refine sl_yes rfl rfl rfl (by first | exact opv_eql rfl rfl rfl ) (by first | omega ) ?_ )
          | (refine gk 3 rfl ?_; first | refine sl_op rfl rfl rfl (by first | exact opv_load rfl (by exact rfl) rfl (by exact rfl) ) ?_ )
          | (refine gk 4 rfl ?_; first | (refine sl_callT rfl rfl rfl rfl rfl rfl rfl rfl hro ?_; rintro _ _ ⟨H3, rfl, ⟨rfl, hJ3⟩ | ⟨rfl, hJ3⟩⟩ <;> refine ⟨_, _, rfl, rfl, ?_⟩))
          | refine sl_region rfl ?_
          | refine sl_nil ?_
          | refine thn_k ?_
          | refine swp_true rfl ?_
          | refine swp_false rfl ?_
          | refine swp_ret ?_
          | refine swp_skip ?_
          | refine thn_ret ?_
          | refine inb_ret ?_
          )
        · exact ⟨rfl, (i + 1, H3), next_ok (by repeat first | exact Sub.nil _ | refine Sub.cons rfl ?_), ⟨hi, by rw [hpos]; exact hJ3⟩, by dsimp only; omega⟩
        · exact end_retZ [H3, J0] resOk_nil ⟨rfl, H3, rfl, .inr hJ3⟩
      · repeat' (first
          | (refine gk 0 rfl ?_; first | refine sl_op rfl rfl rfl (by first | exact opv_move rfl rfl | exact opv_pick_t rfl rfl rfl | exact opv_not_f rfl rfl ) ?_ | refine sl_pass rfl rfl rfl rfl ?_)
          | (refine gk 1 rfl ?_; first | refine sl_pass rfl rfl rfl rfl ?_)
          | (refine gk 2 rfl ?_; first | refine sl_pass rfl rfl rfl rfl ?_ )
          | (refine gk 3 rfl ?_; first | refine sl_pass rfl rfl rfl rfl ?_)
          | (refine gk 4 rfl ?_; first | refine sl_pass rfl rfl rfl rfl ?_ )
          | refine sl_nil ?_
          | refine thn_k ?_
          | refine swp_true rfl ?_
          | refine swp_ret ?_
          | refine thn_ret ?_
          | refine inb_ret ?_
          )
        exact end_retZ [H', J0] resOk_nil ⟨rfl, H', rfl, .inr hJ'⟩
    · rw [if_neg h0] at hdv
      have hpos : pos t every (i + 1) = pos t every i + 1 := by simp only [pos, hdv, Nat.add_zero]; omega
      generalize (i + 1) % every = mm at hr h0
      repeat' (first
        | refine swp_seq ?_
        | (refine gk 0 rfl ?_; first | refine sl_op rfl rfl rfl (by first | exact opv_move rfl rfl | exact opv_assign rfl rfl ) ?_ )
        | (refine gk 2 rfl ?_; first | refine sl_yes rfl rfl rfl (by first | exact opv_lss rfl rfl rfl ) (by first | omega ) ?_ )
        | (refine gk 3 rfl ?_; first | refine sl_op rfl rfl rfl (by first | exact opv_load rfl (by exact rfl) rfl (by exact rfl) | exact opv_loadA rfl (by exact rfl) rfl (by exact rfl) (by exact rfl) | exact opv_indexAddrI rfl rfl rfl (by omega) (by omega) (by first | omega ) | exact opv_load2 rfl (by exact rfl) (by infer_instance) (by assumption) (by assumption) ) ?_ )
        | (refine gk 5 rfl ?_; first | refine sl_alloc rfl rfl rfl rfl (by exact rfl) (fun β => ?_) | refine sl_store rfl rfl rfl rfl rfl rfl (by exact rfl) rfl (by exact rfl) ?_)
        | refine sl_region rfl ?_
        | refine sl_nil ?_
        | refine swp_true rfl ?_
        | refine swp_block ?_
        | refine swp_skip ?_
        )
      refine sl_hop (hs := [H]) rfl rfl rfl (hop_yield rfl rfl rfl rfl hyy) ?_
      rintro v own' ⟨H', rfl, ⟨rfl, hJ'⟩ | ⟨rfl, hJ'⟩⟩ <;> refine ⟨_, rfl, ?_⟩
      · repeat' (first
          | refine sl_op rfl rfl rfl ((opv_rem rfl rfl rfl (by omega)).to hr) ?_
          | (refine gk 0 rfl ?_; first | refine sl_op rfl rfl rfl (by first | exact opv_move rfl rfl | exact opv_pick_f rfl rfl rfl | exact opv_not_t rfl rfl ) ?_ | refine sl_pass rfl rfl rfl rfl ?_)
          | (refine gk 1 rfl ?_; first | refine sl_op rfl rfl rfl (by first | exact opv_add64 rfl rfl rfl (by omega) (by omega) ) ?_ )
          | (refine gk 2 rfl ?_; first | refine sl_no rfl rfl rfl (by first | exact opv_eql rfl rfl rfl ) (by first | omega ) ?_ )
          | (refine gk 3 rfl ?_; first | refine sl_op rfl rfl rfl (by first | exact opv_load rfl (by exact rfl) rfl (by exact rfl) ) ?_ )
          | (refine gk 4 rfl ?_; first | refine sl_pass rfl rfl rfl rfl ?_ )
          | refine sl_region rfl ?_
          | refine sl_nil ?_
          | refine thn_k ?_
          | refine swp_false rfl ?_
          | refine swp_skip ?_
          )
        exact ⟨rfl, (i + 1, H'), next_ok (by repeat first | exact Sub.nil _ | refine Sub.cons rfl ?_), ⟨hi, by rw [hpos]; exact hJ'⟩, by dsimp only; omega⟩
      · repeat' (first
          | (refine gk 0 rfl ?_; first | refine sl_op rfl rfl rfl (by first | exact opv_move rfl rfl | exact opv_pick_t rfl rfl rfl | exact opv_not_f rfl rfl ) ?_ | refine sl_pass rfl rfl rfl rfl ?_)
          | (refine gk 1 rfl ?_; first | refine sl_pass rfl rfl rfl rfl ?_)
          | (refine gk 2 rfl ?_; first | refine sl_pass rfl rfl rfl rfl ?_ )
          | (refine gk 3 rfl ?_; first | refine sl_pass rfl rfl rfl rfl ?_)
          | (refine gk 4 rfl ?_; first | refine sl_pass rfl rfl rfl rfl ?_ )
          | refine sl_nil ?_
          | refine thn_k ?_
          | refine swp_true rfl ?_
          | refine swp_ret ?_
          | refine thn_ret ?_
          | refine inb_ret ?_
          )
        exact end_retZ [H', J0] resOk_nil ⟨rfl, H', rfl, .inr hJ'⟩
  · obtain rfl : i = n := by omega
    rw [List.drop_eq_nil_of_le (by omega)] at hget hpre
    have hro := round_calls β1 β4 L t (pos t every i) J Jx _ ht (fun u hu => hget u _ (by rw [fl]; exact rnd_get hu)) hy H hJ
    have hlen : ((fl t every 0 l).map fun p => [pkV p]).length = pos t every i + t := by
      rw [List.length_map, hpre, List.length_append, hpl, fl, rnd_length]
    rw [← hlen] at hro
    repeat' (first
      | refine swp_seq ?_
      | (refine gk 0 rfl ?_; first | refine sl_op rfl rfl rfl (by first | exact opv_move rfl rfl ) ?_ )
      | (refine gk 2 rfl ?_; first | refine sl_no rfl rfl rfl (by first | exact opv_lss rfl rfl rfl ) (by first | omega ) ?_ )
      | (refine gk 4 rfl ?_; first | (refine sl_callT rfl rfl rfl rfl rfl rfl rfl rfl hro ?_; rintro _ _ ⟨H3, rfl, ⟨rfl, hJ3⟩ | ⟨rfl, hJ3⟩⟩ <;> refine ⟨_, _, rfl, rfl, ?_⟩))
      | refine sl_region rfl ?_
      | refine sl_nil ?_
      | refine swp_false rfl ?_
      | refine swp_exit ?_
      )
    · exact end_retY [H3, J0] resOk_nil ⟨rfl, H3, rfl, .inl hJ3⟩
    · exact end_retY [H3, J0] resOk_nil ⟨rfl, H3, rfl, .inr hJ3⟩
theorem between_calls (b : Option Addr) (n c : Nat) (t every : Int) :
    SL.T Tryz.prog 28 [.slice b n c, i64 t, i64 every] [] fun e o => ∃ β1 β2 β3, e = .returned (.func (.func 42) #[] #[ptr β1, ptr β2, ptr β3]) ∧ o = [blk β1 (.cells ⟨[i64 t]⟩ 3 (0, 0)), blk β2 (.cells ⟨[.slice b n c]⟩ 22 (0, 0)), blk β3 (.cells ⟨[i64 every]⟩ 3 (0, 0))] := by
  refine t_of_body Tryz.func28 rfl (Nat.le_of_ble_eq_true rfl) fun F => ?_
  repeat' (first
    | refine swp_seq ?_
    | (refine gk 0 rfl ?_; first | refine sl_op rfl rfl rfl (by first | exact opv_assign rfl rfl | exact opv_makeFunc rfl rfl rfl) ?_ )
    | (refine gk 5 rfl ?_; first | refine sl_box rfl rfl rfl rfl rfl rfl (fun β => ?_) )
    | refine sl_region rfl ?_
    | refine sl_nil ?_
    | refine thn_k ?_
    | refine swp_ret ?_
    )
  rename_i β2 β1
  exact end_retZ [blk β1 (.cells ⟨[i64 t]⟩ 3 (0, 0)), blk β2 (.cells ⟨[.slice b n c]⟩ 22 (0, 0)), blk β (.cells ⟨[i64 every]⟩ 3 (0, 0))] (resOk_one (resV_tmp rfl)) ⟨β1, β2, β, rfl, rfl⟩
theorem Fill_calls (J : Heap) (b : Option Addr) (n c : Nat) (l : List Pk) [sl : Sl J b (flatP l)] (hl : l.length = n) (hn : n ≤ 1000000) (t k : Int) (ht : t ≤ 1000000) (hk : k ≤ 9223372036854775807) (hB : (fillF l t k).length ≤ 1000000) :
    SL.T Tryz.prog 16 [.slice b n c, i64 t, i64 k] [J] fun e o => ∃ h b' c', e = .returned (.slice b' (fillF l t k).length c') ∧ OS h b' (fillF l t k).length c' 42 2 (flatP (fillF l t k)) ∧ o = [h, J] := by
  by_cases h1 : t < 1
  · have hf : fillF l t k = [] := by unfold fillF; rw [if_pos (.inl h1)]
    rw [hf]
    refine t_of_body Tryz.func16 rfl (Nat.le_of_ble_eq_true rfl) fun F => ?_
    refine swp_emp ?_
    repeat' (first
      | refine swp_seq ?_
      | (refine gk 0 rfl ?_; first | refine sl_op rfl rfl rfl (by first | exact opv_move rfl rfl | exact opv_pick_t rfl rfl rfl ) ?_ | refine sl_pass rfl rfl rfl rfl ?_)
      | (refine gk 2 rfl ?_; first | refine sl_pass rfl rfl rfl rfl ?_ | refine sl_yes rfl rfl rfl (by first | exact opv_lss rfl rfl rfl ) (by first | omega ) ?_ )
      | (refine gk 5 rfl ?_; first | refine sl_alloc rfl rfl rfl rfl (by exact rfl) (fun β => ?_) | refine sl_store rfl rfl rfl rfl rfl rfl (by exact rfl) rfl (by exact rfl) ?_)
      | refine sl_region rfl ?_
      | refine sl_nil ?_
      | refine thn_k ?_
      | refine swp_true rfl ?_
      | refine swp_ret ?_
      | refine thn_ret ?_
      )
    exact end_retZ [emp, J] (resOk_one (resV_cell rfl rfl rfl)) ⟨emp, none, 0, rfl, OS.nil, rfl⟩
  · by_cases h2 : k ≤ t
    · have hf : fillF l t k = [] := by unfold fillF; rw [if_pos (.inr h2)]
      rw [hf]
      refine t_of_body Tryz.func16 rfl (Nat.le_of_ble_eq_true rfl) fun F => ?_
      refine swp_emp ?_
      repeat' (first
        | refine swp_seq ?_
        | (refine gk 0 rfl ?_; first | refine sl_op rfl rfl rfl (by first | exact opv_move rfl rfl | exact opv_pick_f rfl rfl rfl ) ?_ )
        | (refine gk 2 rfl ?_; first | refine sl_yes rfl rfl rfl (by first | exact opv_lss rfl rfl rfl | exact opv_leq rfl rfl rfl ) (by first | omega ) ?_ | refine sl_no rfl rfl rfl (by first | exact opv_lss rfl rfl rfl ) (by first | omega ) ?_ )
        | (refine gk 5 rfl ?_; first | refine sl_alloc rfl rfl rfl rfl (by exact rfl) (fun β => ?_) | refine sl_store rfl rfl rfl rfl rfl rfl (by exact rfl) rfl (by exact rfl) ?_)
        | refine sl_region rfl ?_
        | refine sl_nil ?_
        | refine thn_k ?_
        | refine swp_true rfl ?_
        | refine swp_ret ?_
        | refine thn_ret ?_
        )
      exact end_retZ [emp, J] (resOk_one (resV_cell rfl rfl rfl)) ⟨emp, none, 0, rfl, OS.nil, rfl⟩
    · obtain ⟨tn, rfl⟩ : ∃ m : Nat, t = (m : Int) := ⟨t.toNat, by omega⟩
      obtain ⟨ev, hev⟩ : ∃ m : Nat, k - (tn : Int) = (m : Int) := ⟨(k - tn).toNat, by omega⟩
      have hf : fillF l tn k = fl tn ev 0 l := by unfold fillF; rw [if_neg (by omega), hev]; rfl
      rw [hf] at hB ⊢
      generalize hX : fl tn ev 0 l = X at hB ⊢
      refine t_of_body Tryz.func16 rfl (Nat.le_of_ble_eq_true rfl) fun F => ?_
      refine swp_emp ?_
      repeat' (first
        | refine sl_op rfl rfl rfl ((opv_sub64 rfl rfl rfl (by omega) (by omega)).to (congrArg (Value.int .i64) hev)) ?_
        | refine swp_seq ?_
        | (refine gk 0 rfl ?_; first | refine sl_op rfl rfl rfl (by first | exact opv_move rfl rfl | exact opv_pick_f rfl rfl rfl ) ?_ )
        | (refine gk 2 rfl ?_; first | refine sl_no rfl rfl rfl (by first | exact opv_lss rfl rfl rfl | exact opv_leq rfl rfl rfl ) (by first | omega ) ?_ )
        | (refine gk 4 rfl ?_; first | (refine sl_callT rfl rfl rfl rfl rfl rfl rfl rfl (between_calls b n c tn ev) ?_; rintro _ _ ⟨β1, β2, β3, rfl, rfl⟩; refine ⟨_, _, rfl, rfl, ?_⟩))
        | (refine gk 5 rfl ?_; first | refine sl_alloc rfl rfl rfl rfl (by exact rfl) (fun β => ?_) )
        | refine sl_region rfl ?_
        | refine sl_nil ?_
        | refine thn_k ?_
        | refine swp_false rfl ?_
        | refine swp_block ?_
        | refine swp_skip ?_
        )
      obtain ⟨β6, rfl⟩ : ∃ x, x = β := ⟨_, rfl⟩
      refine swp_rangeD (hsI := [blk β1 (.cells ⟨[i64 (tn : Int)]⟩ 3 (0, 0)), blk β2 (.cells ⟨[.slice b n c]⟩ 22 (0, 0)), blk β3 (.cells ⟨[i64 (ev : Int)]⟩ 3 (0, 0)), J]) (hk := [J]) (xs := X.map fun p => [pkV p])
        (fun k own1 => ∃ h b' c', own1 = [blk β6 (.cells ⟨[.slice b' k c']⟩ 22 (0, 0)), h] ∧ OS h b' k c' 42 2 (flatP (X.take k)))
        (fun c own1 => False) rfl (hX ▸ between_iter β1 β2 β3 J b n c l tn ev hl hn (by omega) (by omega)) rfl ?_ ?_ ?_ ?_ ?_
      · exact fun x hx => by obtain ⟨q, -, rfl⟩ := List.mem_map.1 hx; rfl
      · exact ⟨emp, none, 0, rfl, OS.nil⟩
      · rintro L k x own1 hx ⟨h, b', c', rfl, os⟩ F1
        rw [List.getElem?_map, Option.map_eq_some_iff] at hx
        obtain ⟨q, hq, rfl⟩ := hx
        have hkl := (List.getElem?_eq_some_iff.1 hq).1
        refine ⟨_, rfl, ?_⟩
        repeat' (first
          | (refine gk 5 rfl ?_; first | refine sl_alloc rfl rfl rfl rfl (by exact rfl) (fun β => ?_) | refine sl_store rfl rfl rfl rfl rfl rfl (by exact rfl) rfl (by exact rfl) ?_)
          | refine sl_region rfl ?_
          | refine sl_nil ?_
          | refine thn_k ?_
          )
        intro F2
        repeat' (first
          | (refine gk 3 rfl ?_; first | refine sl_op rfl rfl rfl (by first | exact opv_load rfl (by exact rfl) rfl (by exact rfl) | exact opv_loadA rfl (by exact rfl) rfl (by exact rfl) (by exact rfl) ) ?_ )
          | (refine gk 4 rfl ?_; first | refine sl_appendG rfl rfl rfl rfl rfl rfl rfl rfl rfl (by assumption) (by first | rfl ) (by decide) (by first | rfl ) (by omega) (by omega) (fun h' b'' c'' os' hb' => ?_))
          | (refine gk 5 rfl ?_; first | refine sl_buildSlice rfl rfl rfl rfl rfl (by exact rfl) (by exact rfl) (by exact rfl) (by exact rfl) rfl (fun b => ?_) | refine sl_store rfl rfl rfl rfl rfl rfl (by exact rfl) rfl (by exact rfl) ?_)
          | refine sl_region rfl ?_
          | refine sl_nil ?_
          | refine swp_block ?_
          | refine inb_k ?_
          )
        refine round_end [blk β6 (.cells ⟨[.slice b'' (k + 1) c'']⟩ 22 (0, 0)), h'] ⟨h', b'', c'', rfl, ?_⟩
        rw [List.take_add_one, hq, flatP_append]
        exact os'
      · rintro D own1 ⟨h, b', c', rfl, os⟩
        refine ⟨_, rfl, ?_⟩
        rw [List.length_map, List.take_length] at os
        rw [List.length_map]
        repeat' (first
          | refine swp_seq ?_
          | (refine gk 3 rfl ?_; first | refine sl_op rfl rfl rfl (by first | exact opv_load rfl (by exact rfl) rfl (by exact rfl) ) ?_ )
          | (refine gk 5 rfl ?_; first | refine sl_store rfl rfl rfl rfl rfl rfl (by exact rfl) rfl (by exact rfl) ?_)
          | refine sl_region rfl ?_
          | refine sl_nil ?_
          | refine thn_k ?_
          | refine swp_ret ?_
          )
        exact end_retZ [h, J] (resOk_one (resV_cell rfl rfl rfl)) ⟨h, b', c', rfl, os, rfl⟩
      · rintro D c own1 hF
        exact hF.elim
end Go.Proofs.YtobcmglbdmaceaaGreatDoor
