/- The first that goes off, by a range over a function. -/
import Derived.Test.YtgcajldkegdllaaWT5
namespace Go.Proofs.Ytgcajldkegdllaa
open Go.SL
set_option maxRecDepth 100000
set_option maxHeartbeats 16000000
attribute [local irreducible] SL.T PFn OpV SOL SWP HOp ChU
/-- All goings of so many places. -/
def prs (cs : List Ins) (k : Nat) : List (Nat × Int) := (List.range k).flatMap fun (j : Nat) => (nxt cs (j : Int)).map fun (t : Int) => ((j, t) : Nat × Int)
theorem prs_succ (cs : List Ins) (k : Nat) : prs cs (k + 1) = prs cs k ++ (nxt cs (k : Int)).map (fun (t : Int) => ((k, t) : Nat × Int)) := by simp [prs, List.range_succ]
theorem prs_get {cs : List Ins} : ∀ {n k : Nat}, k < n → ∀ {i : Nat} {t : Int}, (nxt cs (k : Int))[i]? = some t → (prs cs n)[(prs cs k).length + i]? = some (k, t)
  | n + 1, k, hk, i, t, ht => by
    rw [prs_succ]
    by_cases e : k = n
    · subst e
      rw [List.getElem?_append_right (by omega), show (prs cs k).length + i - (prs cs k).length = i by omega]
      simp [ht]
    · have ih := prs_get (n := n) (k := k) (by omega) ht
      rw [List.getElem?_append_left (List.getElem?_eq_some_iff.1 ih).1]; exact ih
theorem prs_fst {cs : List Ins} {k : Nat} {q : Nat × Int} (h : q ∈ prs cs k) : q.1 < k ∧ q.2 ∈ nxt cs (q.1 : Int) := by
  unfold prs at h
  rw [List.mem_flatMap] at h
  obtain ⟨j, hj, h⟩ := h
  obtain ⟨t, ht, rfl⟩ := List.mem_map.1 h
  exact ⟨List.mem_range.1 hj, ht⟩
theorem prs_mem {cs : List Ins} {n k : Nat} {t : Int} (hk : k < n) (ht : t ∈ nxt cs (k : Int)) : (k, t) ∈ prs cs n := by
  unfold prs
  rw [List.mem_flatMap]
  exact ⟨k, List.mem_range.2 hk, List.mem_map.2 ⟨t, ht, rfl⟩⟩
theorem prs_pre {cs : List Ins} : ∀ {n k : Nat}, k ≤ n → ∀ {p : Nat}, p < (prs cs k).length → (prs cs n)[p]? = (prs cs k)[p]?
  | 0, k, hk, p, hp => by have : k = 0 := by omega
                          subst this; rfl
  | n + 1, k, hk, p, hp => by
    by_cases e : k = n + 1
    · subst e; rfl
    · have ih := prs_pre (n := n) (k := k) (by omega) hp
      rw [prs_succ, List.getElem?_append_left, ih]
      have := (List.getElem?_eq_some_iff.1 (ih.trans (List.getElem?_eq_getElem hp))).1
      exact this
theorem off_pair {cs : List Ins} {p a : Nat} {t : Int} (hp : (prs cs cs.length)[p]? = some (a, t)) (hin : ∀ q < p, ∀ z, (prs cs cs.length)[q]? = some z → inC cs.length z.2 = true) (ht : inC cs.length t = false) : off cs = a := by
  obtain ⟨h1, h2⟩ := prs_fst (List.mem_of_getElem? hp)
  refine off_at h1 (fun j hj => ?_) ?_
  · rw [bad, List.any_eq_false]
    intro u hu
    have hm := prs_mem (n := a) hj hu
    obtain ⟨q, hq⟩ := List.mem_iff_getElem?.1 hm
    have hql := (List.getElem?_eq_some_iff.1 hq).1
    have hlp : (prs cs a).length ≤ p := by
      rcases Nat.lt_or_ge p (prs cs a).length with h | h
      · have := prs_pre (cs := cs) (Nat.le_of_lt h1) h
        rw [hp] at this
        have := (prs_fst (List.mem_of_getElem? this.symm)).1
        simp at this
      · exact h
    have := hin q (by omega) _ ((prs_pre (Nat.le_of_lt h1) hql).trans hq)
    simp [this]
  · rw [bad, List.any_eq_true]
    exact ⟨t, h2, by simp [ht]⟩
theorem off_all {cs : List Ins} (hin : ∀ q < (prs cs cs.length).length, ∀ z, (prs cs cs.length)[q]? = some z → inC cs.length z.2 = true) : off cs = if cs.length = 0 then 0 else -1 := by
  refine off_none fun j hj => ?_
  rw [bad, List.any_eq_false]
  intro u hu
  obtain ⟨q, hq⟩ := List.mem_iff_getElem?.1 (prs_mem hj hu)
  have := hin q (List.getElem?_eq_some_iff.1 hq).1 _ hq
  simp [this]
abbrev goV (q : Nat × Int) : List Value := [i64 (q.1 : Int), i64 q.2]
theorem goes_iter (β1 : Nat) (J0 : Heap) (p : Value) (lo st : Int) (cb : Option Addr) (cl cc : Nat) (cs : List Ins) [Sl J0 cb (flatI cs)] (hl : cs.length = cl) (hsm : cl ≤ 4000000) :
    Iter Try.prog 28 [] [.pointer (some ⟨β1, 0, none⟩)] [mBlk β1 p lo st cb cl cc, J0] ((prs cs cl).map goV) := by
  intro L J Jx hy H h0
  refine t_of_body Try.func28 rfl (Nat.le_of_ble_eq_true rfl) fun F => ?_
  repeat' (first
    | refine swp_seq ?_
    | (refine gk 0 rfl ?_; first | refine sl_op rfl rfl rfl (by first | exact opv_move rfl rfl ) ?_ )
    | (refine gk 3 rfl ?_; first | refine sl_op rfl rfl rfl (by first | exact opv_load rfl (by exact rfl) rfl (by exact rfl) | exact opv_fieldAddr rfl rfl ) ?_ )
    | (refine gk 4 rfl ?_; first | refine sl_op rfl rfl rfl (by first | exact opv_len rfl rfl rfl rfl rfl ) ?_)
    | refine sl_region rfl ?_
    | refine sl_nil ?_
    | refine thn_k ?_
    | refine swp_block ?_
    )
  refine swp_loopS (fun s : (Nat × Heap) => [(0, .func (.yield L) #[] #[]), (1, .pointer (some ⟨β1, 0, none⟩)), (8, i64 (cl : Int)), (9, i64 (s.1 : Int))])
    (fun s => [s.2, mBlk β1 p lo st cb cl cc, J0]) (fun s => s.1 ≤ cl ∧ J (prs cs s.1).length s.2) (fun s => cl - s.1) (0, H) (by repeat first | exact Sub.nil _ | refine Sub.cons rfl ?_) ⟨Nat.zero_le _, h0⟩ ?_
  clear h0
  rintro ⟨k, H⟩ ⟨hk1, hJ⟩
  dsimp only at hk1 hJ ⊢
  by_cases hk : k < cl
  · have hn2 := nxt_length cs (k : Int)
    repeat' (first
      | refine swp_seq ?_
      | (refine gk 0 rfl ?_; first | refine sl_op rfl rfl rfl (by first | exact opv_move rfl rfl | exact opv_assign rfl rfl ) ?_ )
      | (refine gk 2 rfl ?_; first | refine sl_yes rfl rfl rfl (by first | exact opv_lss rfl rfl rfl ) (by first | omega ) ?_ )
      | (refine gk 3 rfl ?_; first | refine sl_op rfl rfl rfl (by first | exact opv_loadA rfl (by exact rfl) rfl (by exact rfl) (by exact rfl) ) ?_ )
      | (refine gk 4 rfl ?_; first | refine sl_op rfl rfl rfl (by first | exact opv_len rfl rfl rfl rfl rfl ) ?_ | (refine sl_callW rfl rfl rfl rfl rfl rfl rfl rfl (Next_W _ p lo st cb cl cc cs (k : Int) hl hsm) ?_; rintro _ _ ⟨hN, bN, cN, rfl, rfl, osN⟩; haveI slN := osN.sl; refine ⟨_, _, rfl, rfl, ?_⟩))
      | refine sl_region rfl ?_
      | refine sl_nil ?_
      | refine thn_k ?_
      | refine swp_true rfl ?_
      | refine swp_block ?_
      | refine swp_skip ?_
      )
    refine swp_loopS (fun s : (Nat × Heap) => [(0, .func (.yield L) #[] #[]), (1, .pointer (some ⟨β1, 0, none⟩)), (8, i64 (cl : Int)), (9, i64 (k : Int)), (3, i64 (k : Int)), (14, .slice bN (nxt cs (k : Int)).length cN), (15, i64 ((nxt cs (k : Int)).length : Int)), (16, i64 (s.1 : Int))])
      (fun s => [s.2, hN, mBlk β1 p lo st cb cl cc, J0]) (fun s => s.1 ≤ (nxt cs (k : Int)).length ∧ J ((prs cs k).length + s.1) s.2) (fun s => (nxt cs (k : Int)).length - s.1) (0, H) (by repeat first | exact Sub.nil _ | refine Sub.cons rfl ?_) ⟨Nat.zero_le _, hJ⟩ ?_
    clear hJ
    rintro ⟨i, H⟩ ⟨hi1, hJ⟩
    dsimp only at hi1 hJ ⊢
    by_cases hi : i < (nxt cs (k : Int)).length
    · obtain ⟨t, ht⟩ : ∃ t, (nxt cs (k : Int))[i]? = some t := ⟨_, List.getElem?_eq_getElem hi⟩
      have hct : ((nxt cs (k : Int)).map i64)[((i : Nat) : Int).toNat * 1]? = some (i64 t) := by simp [ht]
      have hx : ((prs cs cl).map goV)[(prs cs k).length + i]? = some (goV (k, t)) := by rw [List.getElem?_map, prs_get hk ht]; rfl
      have hyy := hy _ _ H hx hJ
      repeat' (first
        | refine swp_seq ?_
        | (refine gk 0 rfl ?_; first | refine sl_op rfl rfl rfl (by first | exact opv_move rfl rfl | exact opv_assign rfl rfl ) ?_ )
        | (refine gk 2 rfl ?_; first | refine sl_yes rfl rfl rfl (by first | exact opv_lss rfl rfl rfl ) (by first | omega ) ?_ )
        | (refine gk 3 rfl ?_; first | refine sl_op rfl rfl rfl (by first | exact opv_indexAddrI rfl rfl rfl (by omega) (by omega) (by first | (simp only [List.length_map]; omega) ) | exact opv_loadEx rfl (by exact rfl) (by infer_instance) (by first | assumption ) ) ?_ )
        | refine sl_region rfl ?_
        | refine sl_nil ?_
        | refine swp_true rfl ?_
        | refine swp_block ?_
        | refine swp_skip ?_
        )
      refine sl_hop (hs := [H]) rfl rfl rfl (hop_yield rfl rfl rfl rfl hyy) ?_
      rintro v own' ⟨H', rfl, ⟨rfl, hJ'⟩ | ⟨rfl, hJ'⟩⟩ <;> refine ⟨_, rfl, ?_⟩
      · repeat' (first
          | (refine gk 0 rfl ?_; first | refine sl_op rfl rfl rfl (by first | exact opv_move rfl rfl | exact opv_not_t rfl rfl ) ?_ )
          | (refine gk 1 rfl ?_; first | refine sl_op rfl rfl rfl (by first | exact opv_add64 rfl rfl rfl (by omega) (by omega) ) ?_ )
          | refine sl_region rfl ?_
          | refine sl_nil ?_
          | refine thn_k ?_
          | refine swp_false rfl ?_
          | refine swp_skip ?_
          )
        exact ⟨rfl, (i + 1, H'), next_ok (by repeat first | exact Sub.nil _ | refine Sub.cons rfl ?_), ⟨hi, hJ'⟩, by dsimp only; omega⟩
      · repeat' (first
          | (refine gk 0 rfl ?_; first | refine sl_op rfl rfl rfl (by first | exact opv_not_f rfl rfl ) ?_ )
          | refine sl_nil ?_
          | refine thn_k ?_
          | refine swp_true rfl ?_
          | refine swp_ret ?_
          | refine thn_ret ?_
          | refine inb_ret ?_
          )
        exact end_retL [H', mBlk β1 p lo st cb cl cc, J0] resOk_nil ⟨rfl, H', rfl, .inr hJ'⟩
    · have e : (prs cs k).length + i = (prs cs (k + 1)).length := by rw [prs_succ, List.length_append, List.length_map]; omega
      rw [e] at hJ
      repeat' (first
        | refine swp_seq ?_
        | (refine gk 0 rfl ?_; first | refine sl_op rfl rfl rfl (by first | exact opv_move rfl rfl ) ?_ )
        | (refine gk 1 rfl ?_; first | refine sl_op rfl rfl rfl (by first | exact opv_add64 rfl rfl rfl (by omega) (by omega) ) ?_ )
        | (refine gk 2 rfl ?_; first | refine sl_no rfl rfl rfl (by first | exact opv_lss rfl rfl rfl ) (by first | omega ) ?_ )
        | refine sl_region rfl ?_
        | refine sl_nil ?_
        | refine thn_k ?_
        | refine swp_false rfl ?_
        | refine swp_exit ?_
        )
      exact ⟨rfl, (k + 1, H), next_ok (by repeat first | exact Sub.nil _ | refine Sub.cons rfl ?_), ⟨hk, hJ⟩, by dsimp only; omega⟩
  · obtain rfl : k = cl := by omega
    repeat' (first
      | refine swp_seq ?_
      | (refine gk 2 rfl ?_; first | refine sl_no rfl rfl rfl (by first | exact opv_lss rfl rfl rfl ) (by first | omega ) ?_ )
      | refine sl_region rfl ?_
      | refine sl_nil ?_
      | refine swp_false rfl ?_
      | refine swp_exit ?_
      | refine thn_exit ?_
      | refine inb_exit ?_
      )
    refine end_ret' [H, mBlk β1 p lo st cb k cc, J0] resOk_nil ⟨rfl, H, rfl, .inl ?_⟩
    rw [List.length_map]; exact hJ
theorem goes_calls (p : Value) (lo st : Int) (cb : Option Addr) (cl cc : Nat) :
    SL.T Try.prog 19 [mth p lo st cb cl cc] [] fun e o => ∃ β, e = .returned (.func (.func 28) #[] #[.pointer (some ⟨β, 0, none⟩)]) ∧ o = [mBlk β p lo st cb cl cc] := by
  refine t_of_body Try.func19 rfl (Nat.le_of_ble_eq_true rfl) fun F => ?_
  repeat' (first
    | refine swp_seq ?_
    | (refine gk 0 rfl ?_; first | refine sl_op rfl rfl rfl (by first | exact opv_assign rfl rfl | exact opv_makeFunc rfl rfl rfl) ?_ )
    | (refine gk 5 rfl ?_; first | refine sl_box rfl rfl rfl rfl rfl rfl (fun β => ?_) )
    | refine sl_region rfl ?_
    | refine sl_nil ?_
    | refine thn_k ?_
    | refine swp_ret ?_
    )
  exact end_retL [mBlk β p lo st cb cl cc] (resOk_one (resV_tmp rfl)) ⟨β, rfl, rfl⟩
theorem Off_calls (J : Heap) (p : Value) (lo st : Int) (cb : Option Addr) (cl cc : Nat) (cs : List Ins) [Sl J cb (flatI cs)] (hl : cs.length = cl) (hsm : cl ≤ 4000000) :
    PFn Try.prog 8 [mth p lo st cb cl cc] [J] (i64 (off cs)) := by
  refine pure_of_body Try.func8 rfl (Nat.le_of_ble_eq_true rfl) fun F => ?_
  repeat' (first
    | refine swp_seq ?_
    | (refine gk 3 rfl ?_; first | refine sl_op rfl rfl rfl (by first | exact opv_loadA rfl (by exact rfl) rfl (by exact rfl) (by exact rfl) ) ?_ )
    | (refine gk 4 rfl ?_; first | (refine sl_callT rfl rfl rfl rfl rfl rfl rfl rfl (goes_calls p lo st cb cl cc) ?_; rintro _ _ ⟨βg, rfl, rfl⟩; refine ⟨_, _, rfl, rfl, ?_⟩))
    | (refine gk 5 rfl ?_; first | refine sl_box rfl rfl rfl rfl rfl rfl (fun β => ?_) | refine sl_alloc rfl rfl rfl rfl (by exact rfl) (fun β => ?_) )
    | refine sl_region rfl ?_
    | refine sl_nil ?_
    | refine thn_k ?_
    | refine swp_block ?_
    )
  rename_i β1
  obtain ⟨β2, rfl⟩ : ∃ x, x = β := ⟨_, rfl⟩
  have hpl : prs cs cl = prs cs cs.length := by rw [hl]
  refine swp_range (hsI := [mBlk βg p lo st cb cl cc, J]) (xs := (prs cs cl).map goV)
    (fun k own1 => own1 = [blk β2 (.cells ⟨[i64 0]⟩ 3 (0, 0)), mBlk β1 p lo st cb cl cc] ∧ ∀ q < k, ∀ z, (prs cs cl)[q]? = some z → inC cl z.2 = true)
    (fun c own1 => c = .ret ∧ own1 = [blk β2 (.cells ⟨[i64 (off cs)]⟩ 3 (0, 0)), mBlk β1 p lo st cb cl cc]) rfl (goes_iter _ _ _ _ _ _ _ _ _ hl hsm) rfl ?_ ?_ ?_ ?_ ?_
  · exact fun x hx => by obtain ⟨q, -, rfl⟩ := List.mem_map.1 hx; rfl
  · exact ⟨rfl, fun q hq => absurd hq (Nat.not_lt_zero _)⟩
  · rintro L k x own1 hx ⟨rfl, hin⟩ F1
    rw [List.getElem?_map, Option.map_eq_some_iff] at hx
    obtain ⟨⟨a, t⟩, hq, rfl⟩ := hx
    refine ⟨_, rfl, ?_⟩
    repeat' (first
      | refine swp_seq ?_
      | (refine gk 0 rfl ?_; first | refine sl_op rfl rfl rfl (by first | exact opv_assign rfl rfl ) ?_ )
      | refine sl_region rfl ?_
      | refine sl_nil ?_
      | refine thn_k ?_
      )
    intro F2
    have hth := there_calls p lo st cb cl cc t
    have e : decide (0 ≤ t ∧ t < cl) = inC cl t := rfl
    rw [e] at hth
    by_cases ht : inC cl t = true
    · rw [ht] at hth
      repeat' (first
        | refine swp_seq ?_
        | (refine gk 0 rfl ?_; first | refine sl_op rfl rfl rfl (by first | exact opv_move rfl rfl | exact opv_not_t rfl rfl ) ?_ )
        | (refine gk 3 rfl ?_; first | refine sl_op rfl rfl rfl (by first | exact opv_loadA rfl (by exact rfl) rfl (by exact rfl) (by exact rfl) ) ?_ )
        | (refine gk 4 rfl ?_; first | refine sl_op rfl rfl rfl (opv_call rfl rfl rfl rfl rfl (hth)) ?_)
        | refine sl_region rfl ?_
        | refine sl_nil ?_
        | refine thn_k ?_
        | refine swp_false rfl ?_
        | refine swp_block ?_
        | refine swp_skip ?_
        | refine inb_k ?_
        )
      refine round_end [blk β2 (.cells ⟨[i64 0]⟩ 3 (0, 0)), mBlk β1 p lo st cb cl cc] ⟨rfl, fun q hqk z hz => ?_⟩
      by_cases e : q = k
      · subst e; rw [hq] at hz; cases hz; exact ht
      · exact hin q (by omega) z hz
    · rw [Bool.not_eq_true] at ht
      rw [ht] at hth
      have ho : off cs = a := by
        rw [hpl] at hq hin
        rw [← hl] at hin ht
        exact off_pair hq hin ht
      repeat' (first
        | refine swp_seq ?_
        | (refine gk 0 rfl ?_; first | refine sl_op rfl rfl rfl (by first | exact opv_move rfl rfl | exact opv_not_f rfl rfl ) ?_ )
        | (refine gk 3 rfl ?_; first | refine sl_op rfl rfl rfl (by first | exact opv_loadA rfl (by exact rfl) rfl (by exact rfl) (by exact rfl) ) ?_ )
        | (refine gk 4 rfl ?_; first | refine sl_op rfl rfl rfl (opv_call rfl rfl rfl rfl rfl (hth)) ?_)
        | (refine gk 5 rfl ?_; first | refine sl_store rfl rfl rfl rfl rfl rfl (by exact rfl) rfl (by exact rfl) ?_)
        | refine sl_region rfl ?_
        | refine sl_nil ?_
        | refine thn_k ?_
        | refine swp_true rfl ?_
        | refine swp_block ?_
        | refine swp_ret ?_
        | refine inb_ret ?_
        )
      exact round_ret [blk β2 (.cells ⟨[i64 (a : Int)]⟩ 3 (0, 0)), mBlk β1 p lo st cb cl cc] ⟨rfl, by rw [ho]⟩
  · rintro D own1 ⟨rfl, hin⟩
    refine ⟨_, rfl, ?_⟩
    rw [List.length_map] at hin
    have ho : off cs = if cs.length = 0 then 0 else -1 := by
      rw [hpl] at hin
      rw [← hl] at hin
      exact off_all hin
    by_cases h0 : cl = 0
    · rw [if_pos (by omega)] at ho
      rw [ho]
      repeat' (first
        | refine swp_seq ?_
        | (refine gk 2 rfl ?_; first | refine sl_yes rfl rfl rfl (by first | exact opv_eql rfl rfl rfl ) (by first | omega ) ?_ )
        | (refine gk 3 rfl ?_; first | refine sl_op rfl rfl rfl (by first | exact opv_load rfl (by exact rfl) rfl (by exact rfl) | exact opv_fieldAddr rfl rfl ) ?_ )
        | (refine gk 4 rfl ?_; first | refine sl_op rfl rfl rfl (by first | exact opv_len rfl rfl rfl rfl rfl ) ?_)
        | (refine gk 5 rfl ?_; first | refine sl_store rfl rfl rfl rfl rfl rfl (by exact rfl) rfl (by exact rfl) ?_)
        | refine sl_region rfl ?_
        | refine sl_nil ?_
        | refine thn_k ?_
        | refine swp_true rfl ?_
        | refine swp_ret ?_
        | refine thn_ret ?_
        )
      exact end_retL [J] (resOk_one (resV_cell rfl rfl rfl)) ⟨rfl, rfl⟩
    · rw [if_neg (by omega)] at ho
      rw [ho]
      repeat' (first
        | refine swp_seq ?_
        | (refine gk 2 rfl ?_; first | refine sl_no rfl rfl rfl (by first | exact opv_eql rfl rfl rfl ) (by first | omega ) ?_ )
        | (refine gk 3 rfl ?_; first | refine sl_op rfl rfl rfl (by first | exact opv_load rfl (by exact rfl) rfl (by exact rfl) | exact opv_fieldAddr rfl rfl ) ?_ )
        | (refine gk 4 rfl ?_; first | refine sl_op rfl rfl rfl (by first | exact opv_len rfl rfl rfl rfl rfl ) ?_)
        | (refine gk 5 rfl ?_; first | refine sl_store rfl rfl rfl rfl rfl rfl (by exact rfl) rfl (by exact rfl) ?_)
        | refine sl_region rfl ?_
        | refine sl_nil ?_
        | refine thn_k ?_
        | refine swp_false rfl ?_
        | refine swp_ret ?_
        | refine swp_skip ?_
        )
      exact end_retL [J] (resOk_one (resV_cell rfl rfl rfl)) ⟨rfl, rfl⟩
  · rintro D c own1 ⟨rfl, rfl⟩
    refine ⟨_, rfl, ?_⟩
    repeat' (first
      | refine swp_ret ?_
      | refine thn_ret ?_
      | refine inb_ret ?_
      )
    exact end_retL [J] (resOk_one (resV_cell rfl rfl rfl)) ⟨rfl, rfl⟩
end Go.Proofs.Ytgcajldkegdllaa
