/- Who waits, one behind the other. -/
import Derived.Test.YtimmclibnfdjhaaWB2
set_option linter.unusedVariables false
set_option linter.unusedSimpArgs false
set_option linter.unusedSectionVars false
namespace Go.Proofs.Ytimmclibnfdjhaa
open Go.SL
set_option maxRecDepth 100000
set_option maxHeartbeats 16000000
attribute [local irreducible] SL.T PFn OpV SOL SWP HOp ChU
def waitsB (fars : List Int) (o : Int) (t : Th) : Bool := match t.opn with
  | some x => decide (x.obj = o) && decide (x.far ∈ fars)
  | none => false
/-- Who waits for an object, in a way: from a place on. -/
def waitX (fars : List Int) (o : Int) : Nat → List Th → List (List Value)
  | _, [] => []
  | j, t :: ts => if waitsB fars o t then [i64 (j : Int)] :: waitX fars o (j + 1) ts else waitX fars o (j + 1) ts
abbrev wBox (β1 β2 β3 βs : Nat) (o : Int) (fb : Option Addr) (fn fc : Nat) : List Heap := [blk β1 (.cells ⟨[ptr βs]⟩ 28 (0, 0)), blk β2 (.cells ⟨[i64 o]⟩ 3 (0, 0)), blk β3 (.cells ⟨[.slice fb fn fc]⟩ 30 (0, 0))]
/-- What comes next, as the heap says. -/
def nxT (S HT OP : Heap) (fars : List Int) (o : Int) (th : List Th) (k : Nat) (H : Heap) (r : Option (List Value)) : Prop := hle S H ∧ hle HT H ∧ hle OP H ∧ r = (waitX fars o 0 th)[k]?
theorem nxT_mono {S HT OP : Heap} {fars : List Int} {o : Int} {th : List Th} (k : Nat) (H H' : Heap) (r : Option (List Value)) (h : hle H H') (x : nxT S HT OP fars o th k H r) : nxT S HT OP fars o th k H' r :=
  ⟨x.1.trans h, x.2.1.trans h, x.2.2.1.trans h, x.2.2.2⟩
structure SW where
  j : Nat
  H : Heap
theorem waiting_iter (β1 β2 β3 βs : Nat) (bt bo : Option Addr) (n ct k co : Nat) (rel o : Int) (fb : Option Addr) (fn fc : Nat) (fars : List Int) (HT OP FS : Heap) (bs : List (Option Nat)) (th : List Th)
    [slT : Sl HT bt (thCells bs th)] [slF : Sl FS fb (fars.map i64)] (hf : fars.length = fn) (hfn : fn ≤ 1000) (hn : th.length = n) (hsm : n ≤ 1000000) (ok : OpOk OP bs th) :
    IterL Try.prog 48 [] [ptr β1, ptr β2, ptr β3] [blk β1 (.cells ⟨[ptr βs]⟩ 28 (0, 0)), blk β2 (.cells ⟨[i64 o]⟩ 3 (0, 0)), blk β3 (.cells ⟨[.slice fb fn fc]⟩ 30 (0, 0)), FS] (nxT (specB βs bt bo n ct k co rel) HT OP fars o th) := by
  intro L J Jd Jx hy H h0
  have look : ∀ q H, J q H → hle (specB βs bt bo n ct k co rel) H ∧ hle HT H ∧ hle OP H := fun q H hJ => by
    rcases hy q H hJ with ⟨x, h, -⟩ | ⟨h, -⟩ <;> exact ⟨h.1, h.2.1, h.2.2.1⟩
  obtain ⟨lS, -, -⟩ := look 0 H h0
  haveI iS : InH H βs (.cells ⟨[.slice bt n ct, .slice bo k co, i64 rel]⟩ 68 (0, 0)) := ⟨hle_blk.1 lS⟩
  refine t_of_body Try.func48 rfl (Nat.le_of_ble_eq_true rfl) fun F => ?_
  repeat' (first
    | refine swp_seq ?_
    | (refine gk 0 rfl ?_; first | refine sl_op rfl rfl rfl (by first | exact opv_move rfl rfl ) ?_ )
    | (refine gk 3 rfl ?_; first | refine sl_op rfl rfl rfl (by first | exact opv_load rfl (by exact rfl) rfl (by exact rfl) | exact opv_fieldAddr rfl rfl ) ?_ )
    | (refine gk 4 rfl ?_; first | refine sl_op rfl rfl rfl (by first | exact opv_len rfl rfl rfl rfl rfl ) ?_)
    | (refine gk 5 rfl ?_; first | refine sl_op rfl rfl rfl (by first | exact opv_nilCheck rfl rfl ) ?_ )
    | refine sl_region rfl ?_
    | refine sl_nil ?_
    | refine thn_k ?_
    | refine swp_block ?_
    )
  refine swp_loopS (fun s : SW => [(0, .func (.yield L) #[] #[]), (1, ptr β1), (2, ptr β2), (3, ptr β3), (10, .slice bt n ct), (11, i64 (n : Int)), (12, i64 (s.j : Int))])
    (fun s => [s.H, blk β1 (.cells ⟨[ptr βs]⟩ 28 (0, 0)), blk β2 (.cells ⟨[i64 o]⟩ 3 (0, 0)), blk β3 (.cells ⟨[.slice fb fn fc]⟩ 30 (0, 0)), FS])
    (fun s => s.j ≤ n ∧ ∃ pre, waitX fars o 0 th = pre ++ waitX fars o s.j (th.drop s.j) ∧ J pre.length s.H)
    (fun s => n - s.j) ⟨0, H⟩ (by repeat first | exact Sub.nil _ | refine Sub.cons rfl ?_) ⟨Nat.zero_le _, [], rfl, h0⟩ ?_
  clear h0
  rintro ⟨j, H⟩ ⟨hj, pre, hpre, hJ⟩
  dsimp only at hj hpre hJ ⊢
  obtain ⟨lS2, lT, lO⟩ := look _ _ hJ
  haveI slT2 := slT.mono lT
  by_cases hj2 : j < n
  · obtain ⟨t, ht⟩ : ∃ z, th[j]? = some z := ⟨_, List.getElem?_eq_getElem (by omega)⟩
    obtain ⟨b, hb, hb1, hb2⟩ := ok.at_ _ _ ht
    obtain ⟨c1, c2, c3⟩ := thCells_at hb ht
    have hl3 := thCells_length bs th ok.len
    have hcl : ((j : Nat) : Int).toNat * 3 < (thCells bs th).length := by simp; omega
    have hc1 : (thCells bs th)[((j : Nat) : Int).toNat * 3]? = some (ptrV b) := c1
    have hc2 : (thCells bs th)[((j : Nat) : Int).toNat * 3 + 1]? = some (i64 t.calls) := c2
    have hc3 : (thCells bs th)[((j : Nat) : Int).toNat * 3 + 2]? = some (.bool t.flag) := c3
    have hd : th.drop j = t :: th.drop (j + 1) := by
      rw [List.drop_eq_getElem_cons (by omega)]
      rw [(List.getElem?_eq_some_iff.1 ht).2]
    have hstep : waitX fars o j (th.drop j) = if waitsB fars o t then [i64 (j : Int)] :: waitX fars o (j + 1) (th.drop (j + 1)) else waitX fars o (j + 1) (th.drop (j + 1)) := by rw [hd, waitX]
    cases hto : t.opn with
    | none =>
      obtain rfl := hb1 hto
      have hw : waitsB fars o t = false := by simp [waitsB, hto]
      rw [hw] at hstep
      repeat' (first
        | refine swp_seq ?_
        | (refine gk 0 rfl ?_; first | refine sl_op rfl rfl rfl (by first | exact opv_move rfl rfl | exact opv_assign rfl rfl | exact opv_pick_f rfl rfl rfl ) ?_ | refine sl_pass rfl rfl rfl rfl ?_)
        | (refine gk 1 rfl ?_; first | refine sl_op rfl rfl rfl (by first | exact opv_add64 rfl rfl rfl (by omega) (by omega) ) ?_ )
        | (refine gk 2 rfl ?_; first | refine sl_pass rfl rfl rfl rfl ?_ | refine sl_yes rfl rfl rfl (by first | exact opv_lss rfl rfl rfl ) (by first | omega ) ?_ | refine sl_op rfl rfl rfl (by first | exact opv_ptrNeq rfl rfl) ?_ )
        | (refine gk 3 rfl ?_; first | refine sl_op rfl rfl rfl (by first | exact opv_load rfl (by exact rfl) rfl (by exact rfl) | exact opv_fieldAddr rfl rfl | exact opv_indexAddrI rfl rfl rfl (by omega) (by omega) (by first | omega ) | exact opv_load3 rfl (by exact rfl) (by infer_instance) (by assumption) (by assumption) (by assumption)) ?_ | refine sl_pass rfl rfl rfl rfl ?_)
        | (refine gk 4 rfl ?_; first | refine sl_pass rfl rfl rfl rfl ?_ )
        | (refine gk 5 rfl ?_; first | refine sl_pass rfl rfl rfl rfl ?_ | refine sl_alloc rfl rfl rfl rfl (by exact rfl) (fun β => ?_) | refine sl_store rfl rfl rfl rfl rfl rfl (by exact rfl) rfl (by exact rfl) ?_)
        | refine sl_region rfl ?_
        | refine sl_draw (by kernel_rfl) (by kernel_rfl) rfl ?_
        | refine sl_nil ?_
        | refine thn_k ?_
        | refine swp_true rfl ?_
        | refine swp_false rfl ?_
        | refine swp_block ?_
        | refine swp_skip ?_
        )
      exact ⟨rfl, ⟨j + 1, H⟩, next_ok (by repeat first | exact Sub.nil _ | refine Sub.cons rfl ?_), ⟨by dsimp only; omega, pre, by rw [hpre, hstep]; rfl, hJ⟩, by dsimp only; omega⟩
    | some x =>
      obtain ⟨β, rfl, hβ⟩ := hb2 x hto
      haveI : InH H β (oblk x) := ⟨lO _ _ hβ⟩
      by_cases hob : x.obj = o
      · have hC := Contains_calls [FS] fb fn fc fars x.far hf (by omega)
        by_cases hfar : x.far ∈ fars
        · rw [decide_eq_true hfar] at hC
          have hw : waitsB fars o t = true := by simp [waitsB, hto, hob, hfar]
          rw [hw, if_pos rfl] at hstep
          have hx : (waitX fars o 0 th)[pre.length]? = some [i64 (j : Int)] := by rw [hpre, hstep]; simp
          obtain ⟨xv, ⟨-, -, -, hxv⟩, hyy⟩ : ∃ x, nxT (specB βs bt bo n ct k co rel) HT OP fars o th pre.length H (some x) ∧ YT Try.prog L x H fun v H' => (v = .bool true ∧ J (pre.length + 1) H') ∨ (v = .bool false ∧ Jx H') := by
            rcases hy _ H hJ with h | ⟨⟨-, -, -, h⟩, -⟩
            · exact h
            · rw [hx] at h; cases h
          obtain rfl : xv = [i64 (j : Int)] := by rw [hx] at hxv; cases hxv; rfl
          repeat' (first
            | refine swp_seq ?_
            | (refine gk 0 rfl ?_; first | refine sl_op rfl rfl rfl (by first | exact opv_move rfl rfl | exact opv_assign rfl rfl ) ?_ )
            | (refine gk 2 rfl ?_; first | refine sl_yes rfl rfl rfl (by first | exact opv_lss rfl rfl rfl ) (by first | omega ) ?_ )
            | (refine gk 3 rfl ?_; first | refine sl_op rfl rfl rfl (by first | exact opv_indexAddrI rfl rfl rfl (by omega) (by omega) (by first | omega ) | exact opv_load3 rfl (by exact rfl) (by infer_instance) (by assumption) (by assumption) (by assumption)) ?_ )
            | (refine gk 5 rfl ?_; first | refine sl_alloc rfl rfl rfl rfl (by exact rfl) (fun β => ?_) | refine sl_store rfl rfl rfl rfl rfl rfl (by exact rfl) rfl (by exact rfl) ?_)
            | refine sl_region rfl ?_
            | refine sl_nil ?_
            | refine swp_true rfl ?_
            | refine swp_block ?_
            | refine swp_skip ?_
            )
          refine sl_draw1 (ownM := [H]) (R := fun v own' => ∃ H', own' = [H'] ∧ ((v = .bool true ∧ J (pre.length + 1) H') ∨ (v = .bool false ∧ Jx H'))) [0, 1, 2, 3, 4, 5, 6, 7, 8, 9, 10, 11, 12, 13, 14, 15, 16, 17, 18, 19, 20, 21, 22, 23, 24] [] 25 [26, 27] (by kernel_rfl) (by kernel_rfl) (by kernel_rfl) (by kernel_rfl) rfl rfl rfl rfl rfl ?_
          repeat' (first
            | refine ⟨rfl, hop_yield rfl rfl rfl rfl hyy, ?_⟩
            | (refine gk 0 rfl ?_; first | refine sl_op rfl rfl rfl (by first | exact opv_move rfl rfl | exact opv_pick_t rfl rfl rfl ) ?_ )
            | (refine gk 2 rfl ?_; first | refine sl_yes rfl rfl rfl (by first | exact opv_eql rfl rfl rfl ) (by first | omega ) ?_ | refine sl_op rfl rfl rfl (by first | exact opv_ptrNeq rfl rfl) ?_ )
            | (refine gk 3 rfl ?_; first | refine sl_op rfl rfl rfl (by first | exact opv_load rfl (by exact rfl) rfl (by exact rfl) | exact opv_fieldAddr rfl rfl ) ?_ )
            | (refine gk 4 rfl ?_; first | refine sl_op rfl rfl rfl (opv_call rfl rfl rfl rfl rfl (hC)) ?_)
            | (refine gk 5 rfl ?_; first | refine sl_op rfl rfl rfl (by first | exact opv_nilCheck rfl rfl ) ?_ )
            | refine sl_nil ?_
            )
          rintro v own' ⟨H', rfl, ⟨rfl, hJ'⟩ | ⟨rfl, hJ'⟩⟩ <;> refine ⟨_, rfl, ?_⟩
          · repeat' (first
              | (refine gk 0 rfl ?_; first | refine sl_op rfl rfl rfl (by first | exact opv_move rfl rfl | exact opv_pick_t rfl rfl rfl | exact opv_not_t rfl rfl ) ?_ )
              | (refine gk 1 rfl ?_; first | refine sl_op rfl rfl rfl (by first | exact opv_add64 rfl rfl rfl (by omega) (by omega) ) ?_ )
              | refine sl_region rfl ?_
              | refine sl_nil ?_
              | refine thn_k ?_
              | refine swp_false rfl ?_
              | refine swp_skip ?_
              )
            exact ⟨rfl, ⟨j + 1, H'⟩, next_ok (by repeat first | exact Sub.nil _ | refine Sub.cons rfl ?_), ⟨by dsimp only; omega, pre ++ [[i64 (j : Int)]], by rw [hpre, hstep]; simp, by simpa using hJ'⟩, by dsimp only; omega⟩
          · repeat' (first
              | (refine gk 0 rfl ?_; first | refine sl_op rfl rfl rfl (by first | exact opv_pick_t rfl rfl rfl | exact opv_not_f rfl rfl ) ?_ )
              | refine sl_nil ?_
              | refine thn_k ?_
              | refine swp_true rfl ?_
              | refine swp_ret ?_
              | refine thn_ret ?_
              | refine inb_ret ?_
              )
            exact end_ret [H', blk β1 (.cells ⟨[ptr βs]⟩ 28 (0, 0)), blk β2 (.cells ⟨[i64 o]⟩ 3 (0, 0)), blk β3 (.cells ⟨[.slice fb fn fc]⟩ 30 (0, 0)), FS] resOk_nil ⟨rfl, H', rfl, .inr hJ'⟩
        · rw [decide_eq_false hfar] at hC
          have hw : waitsB fars o t = false := by simp [waitsB, hto, hfar]
          rw [hw] at hstep
          repeat' (first
            | refine swp_seq ?_
            | (refine gk 0 rfl ?_; first | refine sl_op rfl rfl rfl (by first | exact opv_move rfl rfl | exact opv_assign rfl rfl | exact opv_pick_t rfl rfl rfl | exact opv_pick_f rfl rfl rfl ) ?_ | refine sl_pass rfl rfl rfl rfl ?_)
            | (refine gk 1 rfl ?_; first | refine sl_op rfl rfl rfl (by first | exact opv_add64 rfl rfl rfl (by omega) (by omega) ) ?_ )
            | (refine gk 2 rfl ?_; first | refine sl_yes rfl rfl rfl (by first | exact opv_lss rfl rfl rfl | exact opv_eql rfl rfl rfl ) (by first | omega ) ?_ | refine sl_op rfl rfl rfl (by first | exact opv_ptrNeq rfl rfl) ?_ )
            | (refine gk 3 rfl ?_; first | refine sl_op rfl rfl rfl (by first | exact opv_load rfl (by exact rfl) rfl (by exact rfl) | exact opv_fieldAddr rfl rfl | exact opv_indexAddrI rfl rfl rfl (by omega) (by omega) (by first | omega ) | exact opv_load3 rfl (by exact rfl) (by infer_instance) (by assumption) (by assumption) (by assumption)) ?_ )
            | (refine gk 4 rfl ?_; first | refine sl_pass rfl rfl rfl rfl ?_ | refine sl_op rfl rfl rfl (opv_call rfl rfl rfl rfl rfl (hC)) ?_)
            | (refine gk 5 rfl ?_; first | refine sl_op rfl rfl rfl (by first | exact opv_nilCheck rfl rfl ) ?_ | refine sl_alloc rfl rfl rfl rfl (by exact rfl) (fun β => ?_) | refine sl_store rfl rfl rfl rfl rfl rfl (by exact rfl) rfl (by exact rfl) ?_)
            | refine sl_region rfl ?_
            | refine sl_draw (by kernel_rfl) (by kernel_rfl) rfl ?_
            | refine sl_nil ?_
            | refine thn_k ?_
            | refine swp_true rfl ?_
            | refine swp_false rfl ?_
            | refine swp_block ?_
            | refine swp_skip ?_
            )
          exact ⟨rfl, ⟨j + 1, H⟩, next_ok (by repeat first | exact Sub.nil _ | refine Sub.cons rfl ?_), ⟨by dsimp only; omega, pre, by rw [hpre, hstep]; rfl, hJ⟩, by dsimp only; omega⟩
      · have hw : waitsB fars o t = false := by simp [waitsB, hto, hob]
        rw [hw] at hstep
        repeat' (first
          | refine swp_seq ?_
          | (refine gk 0 rfl ?_; first | refine sl_op rfl rfl rfl (by first | exact opv_move rfl rfl | exact opv_assign rfl rfl | exact opv_pick_t rfl rfl rfl | exact opv_pick_f rfl rfl rfl ) ?_ | refine sl_pass rfl rfl rfl rfl ?_)
          | (refine gk 1 rfl ?_; first | refine sl_op rfl rfl rfl (by first | exact opv_add64 rfl rfl rfl (by omega) (by omega) ) ?_ )
          | (refine gk 2 rfl ?_; first | refine sl_yes rfl rfl rfl (by first | exact opv_lss rfl rfl rfl | exact opv_eql rfl rfl rfl ) (by first | omega ) ?_ | refine sl_no rfl rfl rfl (by first | exact opv_eql rfl rfl rfl ) (by first | omega ) ?_ | refine sl_op rfl rfl rfl (by first | exact opv_ptrNeq rfl rfl) ?_ )
          | (refine gk 3 rfl ?_; first | refine sl_op rfl rfl rfl (by first | exact opv_load rfl (by exact rfl) rfl (by exact rfl) | exact opv_fieldAddr rfl rfl | exact opv_indexAddrI rfl rfl rfl (by omega) (by omega) (by first | omega ) | exact opv_load3 rfl (by exact rfl) (by infer_instance) (by assumption) (by assumption) (by assumption)) ?_ | refine sl_pass rfl rfl rfl rfl ?_)
          | (refine gk 4 rfl ?_; first | refine sl_pass rfl rfl rfl rfl ?_ )
          | (refine gk 5 rfl ?_; first | refine sl_op rfl rfl rfl (by first | exact opv_nilCheck rfl rfl ) ?_ | refine sl_pass rfl rfl rfl rfl ?_ | refine sl_alloc rfl rfl rfl rfl (by exact rfl) (fun β => ?_) | refine sl_store rfl rfl rfl rfl rfl rfl (by exact rfl) rfl (by exact rfl) ?_)
          | refine sl_region rfl ?_
          | refine sl_draw (by kernel_rfl) (by kernel_rfl) rfl ?_
          | refine sl_nil ?_
          | refine thn_k ?_
          | refine swp_true rfl ?_
          | refine swp_false rfl ?_
          | refine swp_block ?_
          | refine swp_skip ?_
          )
        exact ⟨rfl, ⟨j + 1, H⟩, next_ok (by repeat first | exact Sub.nil _ | refine Sub.cons rfl ?_), ⟨by dsimp only; omega, pre, by rw [hpre, hstep]; rfl, hJ⟩, by dsimp only; omega⟩
  · repeat' (first
      | refine swp_seq ?_
      | (refine gk 2 rfl ?_; first | refine sl_no rfl rfl rfl (by first | exact opv_lss rfl rfl rfl ) (by first | omega ) ?_ )
      | refine sl_region rfl ?_
      | refine sl_nil ?_
      | refine swp_false rfl ?_
      | refine swp_exit ?_
      | refine thn_exit ?_
      | refine inb_exit ?_
      )
    refine end_ret' [H, blk β1 (.cells ⟨[ptr βs]⟩ 28 (0, 0)), blk β2 (.cells ⟨[i64 o]⟩ 3 (0, 0)), blk β3 (.cells ⟨[.slice fb fn fc]⟩ 30 (0, 0)), FS] resOk_nil ⟨rfl, H, rfl, .inl ?_⟩
    rw [List.drop_eq_nil_of_le (by omega)] at hpre
    simp only [waitX, List.append_nil] at hpre
    rcases hy _ H hJ with ⟨x, ⟨-, -, -, h⟩, -⟩ | ⟨-, h⟩
    · rw [hpre] at h; simp at h
    · exact h
theorem waiting_calls (βs : Nat) (o : Int) (fb : Option Addr) (fn fc : Nat) :
    SL.T Try.prog 30 [ptr βs, i64 o, .slice fb fn fc] [] fun e w => ∃ β1 β2 β3, e = .returned (.func (.func 48) #[] #[ptr β1, ptr β2, ptr β3]) ∧ w = [blk β1 (.cells ⟨[ptr βs]⟩ 28 (0, 0)), blk β2 (.cells ⟨[i64 o]⟩ 3 (0, 0)), blk β3 (.cells ⟨[.slice fb fn fc]⟩ 30 (0, 0))] := by
  refine t_of_body Try.func30 rfl (Nat.le_of_ble_eq_true rfl) fun F => ?_
  repeat' (first
    | refine swp_seq ?_
    | (refine gk 0 rfl ?_; first | refine sl_op rfl rfl rfl (by first | exact opv_assign rfl rfl | exact opv_makeFunc rfl rfl rfl) ?_ )
    | (refine gk 5 rfl ?_; first | refine sl_box rfl rfl rfl rfl rfl rfl (fun β => ?_) )
    | refine sl_region rfl ?_
    | refine sl_nil ?_
    | refine thn_k ?_
    | refine swp_ret ?_
    )
  rename_i β1 β2
  exact end_retL [blk β1 (.cells ⟨[ptr βs]⟩ 28 (0, 0)), blk β2 (.cells ⟨[i64 o]⟩ 3 (0, 0)), blk β (.cells ⟨[.slice fb fn fc]⟩ 30 (0, 0))] (resOk_one (resV_tmp rfl)) ⟨β1, β2, β, rfl, rfl⟩
end Go.Proofs.Ytimmclibnfdjhaa
