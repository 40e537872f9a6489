/- Who waits the longest. -/
import Derived.Test.YtimmclibnfdjhaaWB3
set_option linter.unusedVariables false
set_option linter.unusedSimpArgs false
set_option linter.unusedSectionVars false
namespace Go.Proofs.Ytimmclibnfdjhaa
open Go.SL
set_option maxRecDepth 100000
set_option maxHeartbeats 16000000
attribute [local irreducible] SL.T PFn OpV SOL SWP HOp ChU
def wlist (fars : List Int) (o : Int) : Nat → List Th → List Nat
  | _, [] => []
  | j, t :: ts => if waitsB fars o t then j :: wlist fars o (j + 1) ts else wlist fars o (j + 1) ts
theorem waitX_map (fars : List Int) (o : Int) : ∀ (ts : List Th) (j : Nat), waitX fars o j ts = List.map (fun u : Nat => [i64 (u : Int)]) (wlist fars o j ts)
  | [], _ => rfl
  | t :: ts, j => by
    have ih := waitX_map fars o ts (j + 1)
    simp only [waitX, wlist]
    split
    · rw [ih]; rfl
    · exact ih
theorem wlist_mem (fars : List Int) (o : Int) : ∀ (ts : List Th) (j u : Nat), u ∈ wlist fars o j ts → j ≤ u ∧ ∃ t, ts[u - j]? = some t ∧ waitsB fars o t = true
  | [], _, _, h => by cases h
  | t :: ts, j, u, h => by
    simp only [wlist] at h
    have key : u ∈ wlist fars o (j + 1) ts → j ≤ u ∧ ∃ t', (t :: ts)[u - j]? = some t' ∧ waitsB fars o t' = true := fun h => by
      obtain ⟨h1, t', h2, h3⟩ := wlist_mem fars o ts (j + 1) u h
      refine ⟨by omega, t', ?_, h3⟩
      rw [show u - j = (u - (j + 1)) + 1 by omega]; simpa using h2
    split at h
    · rename_i hw
      rcases List.mem_cons.1 h with rfl | h
      · exact ⟨Nat.le_refl _, t, by simp, hw⟩
      · exact key h
    · exact key h
def sinceOf (th : List Th) (u : Nat) : Int := match th[u]? with
  | some t => match t.opn with
    | some x => x.since
    | none => 0
  | none => 0
/-- The one that waits the longest, of some. -/
def longG (th : List Th) : List Nat → Int → Int
  | [], f => f
  | u :: l, f => longG th l (if f < 0 ∨ sinceOf th u < sinceOf th f.toNat then (u : Int) else f)
theorem longG_snoc (th : List Th) (u : Nat) : ∀ (l : List Nat) (f : Int), longG th (l ++ [u]) f = if longG th l f < 0 ∨ sinceOf th u < sinceOf th (longG th l f).toNat then (u : Int) else longG th l f
  | [], f => rfl
  | v :: l, f => by
    simp only [List.cons_append, longG]
    exact longG_snoc th u l _
theorem longG_mem (th : List Th) : ∀ (l : List Nat) (f : Int), longG th l f = f ∨ ∃ u ∈ l, longG th l f = (u : Int)
  | [], f => .inl rfl
  | v :: l, f => by
    simp only [longG]
    rcases longG_mem th l (if f < 0 ∨ sinceOf th v < sinceOf th f.toNat then (v : Int) else f) with h | ⟨u, hu, h⟩
    · rw [h]
      split
      · exact .inr ⟨v, List.mem_cons_self .., rfl⟩
      · exact .inl rfl
    · exact .inr ⟨u, List.mem_cons_of_mem _ hu, h⟩
def longF (th : List Th) (o : Int) : Int := longG th (wlist [2] o 0 th) (-1)
theorem longest_calls (βs : Nat) (bt bo : Option Addr) (n ct k co : Nat) (rel o : Int) (HT OP : Heap) (bs : List (Option Nat)) (th : List Th) [slT : Sl HT bt (thCells bs th)] [nn : NN bt] (hn : th.length = n) (hsm : n ≤ 1000000) (ok : OpOk OP bs th) :
    PFn Try.prog 61 [ptr βs, i64 o] [specB βs bt bo n ct k co rel, HT, OP] (i64 (longF th o)) := by
  have hl3 := thCells_length bs th ok.len
  refine pure_of_body Try.func61 rfl (Nat.le_of_ble_eq_true rfl) fun F => ?_
  repeat' (first
    | refine swp_seq ?_
    | (refine gk 0 rfl ?_; first | refine sl_op rfl rfl rfl (by first | exact opv_move rfl rfl | exact opv_assign rfl rfl ) ?_ )
    | (refine gk 3 rfl ?_; first | refine sl_op rfl rfl rfl (by first | exact opv_load rfl (by exact rfl) rfl (by exact rfl) ) ?_ )
    | (refine gk 4 rfl ?_; first | (refine sl_callT rfl rfl rfl rfl rfl rfl rfl rfl (waiting_calls _ _ _ _ _) ?_; rintro _ _ ⟨β1, β2, β3, rfl, rfl⟩; refine ⟨_, _, rfl, rfl, ?_⟩))
    | (refine gk 5 rfl ?_; first | refine sl_buildSlice rfl rfl rfl rfl rfl (by exact rfl) (by exact rfl) (by exact rfl) (by exact rfl) rfl (fun b => ?_) | refine sl_box rfl rfl rfl rfl rfl rfl (fun β => ?_) | refine sl_alloc rfl rfl rfl rfl (by exact rfl) (fun β => ?_) | refine sl_store rfl rfl rfl rfl rfl rfl (by exact rfl) rfl (by exact rfl) ?_)
    | refine sl_region rfl ?_
    | refine sl_nil ?_
    | refine thn_k ?_
    | refine swp_block ?_
    )
  rename_i βs0
  haveI : Sl (blk b (.cells ⟨[i64 2]⟩ 3 (0, 0))) (some ⟨b, 0, none⟩) ([2].map i64) := Sl.blk
  refine swp_rangeL (hsI := [blk β1 (.cells ⟨[ptr βs]⟩ 28 (0, 0)), blk β2 (.cells ⟨[i64 o]⟩ 3 (0, 0)), blk β3 (.cells ⟨[.slice (some ⟨b, 0, none⟩) 1 1]⟩ 30 (0, 0)), blk b (.cells ⟨[i64 2]⟩ 3 (0, 0))]) (nx := nxT (specB βs bt bo n ct k co rel) HT OP [2] o th)
    (fun q own1 => own1 = [blk β (.cells ⟨[i64 (longG th ((wlist [2] o 0 th).take q) (-1))]⟩ 3 (0, 0)), blk βs0 (.cells ⟨[ptr βs]⟩ 28 (0, 0)), specB βs bt bo n ct k co rel, HT, OP])
    (fun own1 => own1 = [blk β (.cells ⟨[i64 (longF th o)]⟩ 3 (0, 0)), blk βs0 (.cells ⟨[ptr βs]⟩ 28 (0, 0)), specB βs bt bo n ct k co rel, HT, OP]) (fun _ _ => False)
    rfl (waiting_iter β1 β2 β3 βs bt bo n ct k co rel o (some ⟨b, 0, none⟩) 1 1 [2] HT OP _ bs th rfl (by omega) hn hsm ok) nxT_mono rfl rfl ?_ ?_ ?_
  · rintro L q own1 rfl hdj
    have lS : hle (specB βs bt bo n ct k co rel) (joins [blk β (.cells ⟨[i64 (longG th ((wlist [2] o 0 th).take q) (-1))]⟩ 3 (0, 0)), blk βs0 (.cells ⟨[ptr βs]⟩ 28 (0, 0)), specB βs bt bo n ct k co rel, HT, OP]) := hle_joins hdj (by simp)
    have lT : hle HT (joins [blk β (.cells ⟨[i64 (longG th ((wlist [2] o 0 th).take q) (-1))]⟩ 3 (0, 0)), blk βs0 (.cells ⟨[ptr βs]⟩ 28 (0, 0)), specB βs bt bo n ct k co rel, HT, OP]) := hle_joins hdj (by simp)
    have lO : hle OP (joins [blk β (.cells ⟨[i64 (longG th ((wlist [2] o 0 th).take q) (-1))]⟩ 3 (0, 0)), blk βs0 (.cells ⟨[ptr βs]⟩ 28 (0, 0)), specB βs bt bo n ct k co rel, HT, OP]) := hle_joins hdj (by simp)
    cases hq : (wlist [2] o 0 th)[q]? with
    | none =>
      refine .inr ⟨⟨lS, lT, lO, by rw [waitX_map]; simp [hq]⟩, ?_⟩
      rw [List.take_of_length_le (by rw [List.getElem?_eq_none_iff] at hq; exact hq)]
      rfl
    | some u =>
      refine .inl ⟨[i64 (u : Int)], ⟨lS, lT, lO, by rw [waitX_map]; simp [hq]⟩, rfl, fun F1 => ⟨_, rfl, ?_⟩⟩
      obtain ⟨-, t, ht, hw⟩ := wlist_mem _ _ _ _ _ (List.mem_of_getElem? hq)
      rw [Nat.sub_zero] at ht
      obtain ⟨bb, hb, hb1, hb2⟩ := ok.at_ _ _ ht
      cases hto : t.opn with
      | none => simp [waitsB, hto] at hw
      | some x =>
        obtain ⟨βu, rfl, hβ⟩ := hb2 x hto
        haveI : InH OP βu (oblk x) := ⟨hβ⟩
        have hu : u < th.length := (List.getElem?_eq_some_iff.1 ht).1
        have hc1 : (thCells bs th)[((u : Nat) : Int).toNat * 3 + 0]? = some (ptr βu) := (thCells_at hb ht).1
        have hcl : ((u : Nat) : Int).toNat * 3 < (thCells bs th).length := by simp; omega
        have hsu : sinceOf th u = x.since := by simp [sinceOf, ht, hto]
        have hsn := longG_snoc th u ((wlist [2] o 0 th).take q) (-1)
        have htk : (wlist [2] o 0 th).take q ++ [u] = (wlist [2] o 0 th).take (q + 1) := by rw [List.take_add_one, hq]; rfl
        rw [htk] at hsn
        generalize hf0 : longG th ((wlist [2] o 0 th).take q) (-1) = f at hsn ⊢
        repeat' (first
          | (refine gk 0 rfl ?_; first | refine sl_op rfl rfl rfl (by first | exact opv_assign rfl rfl ) ?_ )
          | refine sl_region rfl ?_
          | refine sl_nil ?_
          | refine thn_k ?_
          )
        intro F2
        by_cases hf : f < 0
        · rw [if_pos (.inl hf)] at hsn
          repeat' (first
            | refine swp_seq ?_
            | (refine gk 0 rfl ?_; first | refine sl_op rfl rfl rfl (by first | exact opv_move rfl rfl | exact opv_pick_t rfl rfl rfl ) ?_ | refine sl_pass rfl rfl rfl rfl ?_)
            | (refine gk 2 rfl ?_; first | refine sl_pass rfl rfl rfl rfl ?_ | refine sl_yes rfl rfl rfl (by first | exact opv_lss rfl rfl rfl ) (by first | omega ) ?_ )
            | (refine gk 3 rfl ?_; first | refine sl_op rfl rfl rfl (by first | exact opv_load rfl (by exact rfl) rfl (by exact rfl) ) ?_ | refine sl_pass rfl rfl rfl rfl ?_)
            | (refine gk 5 rfl ?_; first | refine sl_pass rfl rfl rfl rfl ?_ | refine sl_store rfl rfl rfl rfl rfl rfl (by exact rfl) rfl (by exact rfl) ?_)
            | refine sl_region rfl ?_
            | refine sl_draw (by kernel_rfl) (by kernel_rfl) rfl ?_
            | refine sl_nil ?_
            | refine thn_k ?_
            | refine swp_true rfl ?_
            | refine swp_block ?_
            | refine inb_k ?_
            )
          exact round_end [blk β (.cells ⟨[i64 (u : Int)]⟩ 3 (0, 0)), blk βs0 (.cells ⟨[ptr βs]⟩ 28 (0, 0)), specB βs bt bo n ct k co rel, HT, OP] (by rw [hsn])
        · obtain ⟨v, hv, hfv⟩ : ∃ v ∈ (wlist [2] o 0 th).take q, f = (v : Int) := by
            rcases longG_mem th ((wlist [2] o 0 th).take q) (-1) with h | ⟨v, hv, h⟩
            · omega
            · exact ⟨v, hv, by rw [← hf0, h]⟩
          subst hfv
          obtain ⟨-, t2, ht2, hw2⟩ := wlist_mem _ _ _ _ _ (List.mem_of_mem_take hv)
          rw [Nat.sub_zero] at ht2
          obtain ⟨bb2, hbb2, hb12, hb22⟩ := ok.at_ _ _ ht2
          cases hto2 : t2.opn with
          | none => simp [waitsB, hto2] at hw2
          | some y =>
            obtain ⟨βv, rfl, hβv⟩ := hb22 y hto2
            haveI : InH OP βv (oblk y) := ⟨hβv⟩
            have hu2 : v < th.length := (List.getElem?_eq_some_iff.1 ht2).1
            have hc12 : (thCells bs th)[((v : Nat) : Int).toNat * 3 + 0]? = some (ptr βv) := (thCells_at hbb2 ht2).1
            have hcl2 : ((v : Nat) : Int).toNat * 3 < (thCells bs th).length := by simp; omega
            have hsv : sinceOf th v = y.since := by simp [sinceOf, ht2, hto2]
            rw [Int.toNat_natCast, hsu, hsv] at hsn
            by_cases hlt : x.since < y.since
            · rw [if_pos (.inr hlt)] at hsn
              repeat' (first
                | refine swp_seq ?_
                | (refine gk 0 rfl ?_; first | refine sl_op rfl rfl rfl (by first | exact opv_move rfl rfl | exact opv_pick_f rfl rfl rfl ) ?_ )
                | (refine gk 2 rfl ?_; first | refine sl_yes rfl rfl rfl (by first | exact opv_lss rfl rfl rfl ) (by first | omega ) ?_ | refine sl_no rfl rfl rfl (by first | exact opv_lss rfl rfl rfl ) (by first | omega ) ?_ )
                | (refine gk 3 rfl ?_; first | refine sl_op rfl rfl rfl (by first | exact opv_load rfl (by exact rfl) rfl (by exact rfl) | exact opv_fieldAddr rfl rfl | exact opv_indexAddrI rfl rfl rfl (by omega) (by omega) (by first | omega ) | exact opv_fieldAddrE rfl rfl (by first | assumption ) | exact opv_loadEx rfl (by exact rfl) (by infer_instance) (by first | assumption ) ) ?_ )
                | (refine gk 5 rfl ?_; first | refine sl_op rfl rfl rfl (by first | exact opv_nilCheck rfl rfl ) ?_ | refine sl_store rfl rfl rfl rfl rfl rfl (by exact rfl) rfl (by exact rfl) ?_)
                | refine sl_region rfl ?_
                | refine sl_draw (by kernel_rfl) (by kernel_rfl) rfl ?_
                | refine sl_nil ?_
                | refine thn_k ?_
                | refine swp_true rfl ?_
                | refine swp_block ?_
                | refine inb_k ?_
                )
              exact round_end [blk β (.cells ⟨[i64 (u : Int)]⟩ 3 (0, 0)), blk βs0 (.cells ⟨[ptr βs]⟩ 28 (0, 0)), specB βs bt bo n ct k co rel, HT, OP] (by rw [hsn])
            · rw [if_neg (by omega)] at hsn
              repeat' (first
                | refine swp_seq ?_
                | (refine gk 0 rfl ?_; first | refine sl_op rfl rfl rfl (by first | exact opv_move rfl rfl | exact opv_pick_f rfl rfl rfl ) ?_ )
                | (refine gk 2 rfl ?_; first | refine sl_no rfl rfl rfl (by first | exact opv_lss rfl rfl rfl ) (by first | omega ) ?_ )
                | (refine gk 3 rfl ?_; first | refine sl_op rfl rfl rfl (by first | exact opv_load rfl (by exact rfl) rfl (by exact rfl) | exact opv_fieldAddr rfl rfl | exact opv_indexAddrI rfl rfl rfl (by omega) (by omega) (by first | omega ) | exact opv_fieldAddrE rfl rfl (by first | assumption ) | exact opv_loadEx rfl (by exact rfl) (by infer_instance) (by first | assumption ) ) ?_ )
                | (refine gk 5 rfl ?_; first | refine sl_op rfl rfl rfl (by first | exact opv_nilCheck rfl rfl ) ?_ )
                | refine sl_draw (by kernel_rfl) (by kernel_rfl) rfl ?_
                | refine sl_nil ?_
                | refine thn_k ?_
                | refine swp_false rfl ?_
                | refine swp_block ?_
                | refine swp_skip ?_
                | refine inb_k ?_
                )
              exact round_end [blk β (.cells ⟨[i64 (v : Int)]⟩ 3 (0, 0)), blk βs0 (.cells ⟨[ptr βs]⟩ 28 (0, 0)), specB βs bt bo n ct k co rel, HT, OP] (by rw [hsn])
  · rintro D own1 rfl
    refine ⟨_, rfl, ?_⟩
    repeat' (first
      | refine swp_seq ?_
      | (refine gk 0 rfl ?_; first | refine sl_op rfl rfl rfl (by first | exact opv_assign rfl rfl ) ?_ )
      | (refine gk 3 rfl ?_; first | refine sl_op rfl rfl rfl (by first | exact opv_load rfl (by exact rfl) rfl (by exact rfl) ) ?_ )
      | refine sl_region rfl ?_
      | refine sl_nil ?_
      | refine thn_k ?_
      | refine swp_ret ?_
      )
    refine end_pure (resOk_one (resV_tmp rfl)) ?_
    rfl
  · rintro D c own1 h
    exact h.elim
end Go.Proofs.Ytimmclibnfdjhaa
