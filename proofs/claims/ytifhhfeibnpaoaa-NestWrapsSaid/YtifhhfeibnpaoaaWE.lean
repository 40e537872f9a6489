/- Places where straight pieces begin. -/
import Derived.Test.YtifhhfeibnpaoaaWD
namespace Go.Proofs.Ytifhhfeibnpaoaa
open Go.SL
set_option maxRecDepth 100000
set_option maxHeartbeats 16000000
attribute [local irreducible] SL.T PFn OpV SOL SWP HOp ChU
def leadF (k : Nat) (x : Ins) : List Int := (if jmp x.1 then [x.2.1] else []) ++ (if jmp x.1 ∨ x.1 = 20 then [(k : Int) + 1] else [])
def leadA (cs : List Ins) (j : Nat) : List Int := 0 :: (List.range j).flatMap fun k => leadF k (cs.getD k (0, 0, 0))
theorem leadA_succ {cs : List Ins} {j : Nat} {x : Ins} (h : cs[j]? = some x) : leadA cs (j + 1) = leadA cs j ++ leadF j x := by
  simp [leadA, List.range_succ, List.getD, h]
theorem leadF_length (k : Nat) (x : Ins) : (leadF k x).length ≤ 2 := by
  unfold leadF; rw [List.length_append]; split <;> split <;> simp
theorem leadA_length (cs : List Ins) : ∀ j, (leadA cs j).length ≤ 1 + 2 * j
  | 0 => by simp [leadA]
  | j + 1 => by
    have ih := leadA_length cs j
    have e : leadA cs (j + 1) = leadA cs j ++ leadF j (cs.getD j (0, 0, 0)) := by simp [leadA, List.range_succ]
    rw [e, List.length_append]
    have := leadF_length j (cs.getD j (0, 0, 0)); omega
def leads (cs : List Ins) : List Int := (rise (leadA cs cs.length)).filter (inC cs.length)
theorem rise_length (xs : List Int) : (rise xs).length ≤ xs.length := by
  unfold rise; refine Nat.le_trans (compact_length_le _) ?_; rw [List.length_mergeSort]; exact Nat.le_refl _
structure SE where
  j : Nat
  h : Heap
  b : Option Addr
  m : Nat
  c : Nat
theorem Leaders_calls (J : Heap) (p : Value) (lo st : Int) (cb : Option Addr) (cl cc : Nat) (cs : List Ins) [Sl J cb (flatI cs)] (hl : cs.length = cl) (hsm : cl ≤ 1000000) :
    SL.T Try.prog 29 [mth p lo st cb cl cc] [J] fun e o => ∃ N, o = J :: N ∧ ∃ h b c, e = .returned (.slice b (leads cs).length c) ∧ N = [h] ∧ OS h b (leads cs).length c 3 1 ((leads cs).map i64) := by
  refine t_of_body Try.func29 rfl (Nat.le_of_ble_eq_true rfl) fun F => ?_
  repeat' (first
    | refine swp_seq ?_
    | (refine gk 0 rfl ?_; first | refine sl_op rfl rfl rfl (by first | exact opv_move rfl rfl | exact opv_assign rfl rfl ) ?_ )
    | (refine gk 3 rfl ?_; first | refine sl_op rfl rfl rfl (by first | exact opv_load rfl (by exact rfl) rfl (by exact rfl) | exact opv_fieldAddr rfl rfl ) ?_ )
    | (refine gk 4 rfl ?_; first | refine sl_op rfl rfl rfl (by first | exact opv_len rfl rfl rfl rfl rfl ) ?_)
    | (refine gk 5 rfl ?_; first | refine sl_buildSlice rfl rfl rfl rfl rfl (by exact rfl) (by exact rfl) (by exact rfl) (by exact rfl) rfl (fun b => ?_) | refine sl_box rfl rfl rfl rfl rfl rfl (fun β => ?_) )
    | refine sl_region rfl ?_
    | refine sl_nil ?_
    | refine thn_k ?_
    | refine swp_block ?_
    )
  obtain ⟨β1, rfl⟩ : ∃ x, x = β := ⟨_, rfl⟩
  refine swp_loopS (fun s : SE => [(1, .pointer (some ⟨β1, 0, none⟩)), (3, .slice s.b s.m s.c), (8, .slice cb cl cc), (9, i64 (cl : Int)), (10, i64 (s.j : Int))])
    (fun s => [s.h, J, mBlk β1 p lo st cb cl cc]) (fun s => s.j ≤ cl ∧ OS s.h s.b s.m s.c 3 1 ((leadA cs s.j).map i64)) (fun s => cl - s.j) ⟨0, blk b (.cells ⟨[.int .i64 0]⟩ 3 (0, 0)), some ⟨b, 0, none⟩, 1, 1⟩ (by repeat first | exact Sub.nil _ | refine Sub.cons rfl ?_) ⟨Nat.zero_le _, OS.blk rfl⟩ ?_
  rintro ⟨j, H, bL, m, cL⟩ ⟨hj1, os⟩
  dsimp only at hj1 os ⊢
  have hml := os.len
  have hm2 := leadA_length cs j
  by_cases hj : j < cl
  · obtain ⟨⟨op, a, b⟩, hx⟩ : ∃ x, cs[j]? = some x := ⟨_, List.getElem?_eq_getElem (by omega)⟩
    obtain ⟨c0, c1, c2⟩ := flatI_at hx
    have c0 : (flatI cs)[((j : Nat) : Int).toNat * 3]? = some (i64 op) := c0
    have c1 : (flatI cs)[((j : Nat) : Int).toNat * 3 + 1]? = some (i64 a) := c1
    have c2 : (flatI cs)[((j : Nat) : Int).toNat * 3 + 2]? = some (i64 b) := c2
    have hfl := flatI_length cs
    have hq : ((j : Nat) : Int).toNat * 3 < (flatI cs).length := by simp; omega
    have hjc := jumps_calls op a b
    have hs := leadA_succ hx
    by_cases hjm : jmp op
    · rw [decide_eq_true hjm] at hjc
      have e : leadF j (op, a, b) = [a, (j : Int) + 1] := by simp only [leadF]; rw [if_pos hjm, if_pos (.inl hjm)]; rfl
      rw [e] at hs
      repeat' (first
        | refine swp_seq ?_
        | (refine gk 0 rfl ?_; first | refine sl_op rfl rfl rfl (by first | exact opv_move rfl rfl | exact opv_assign rfl rfl | exact opv_pick_t rfl rfl rfl ) ?_ )
        | (refine gk 1 rfl ?_; first | refine sl_op rfl rfl rfl (by first | exact opv_add64 rfl rfl rfl (by omega) (by omega) ) ?_ )
        | (refine gk 2 rfl ?_; first | refine sl_pass rfl rfl rfl rfl ?_ | refine sl_yes rfl rfl rfl (by first | exact opv_lss rfl rfl rfl ) (by first | omega ) ?_ )
        | (refine gk 3 rfl ?_; first | refine sl_op rfl rfl rfl (by first | exact opv_load rfl (by exact rfl) rfl (by exact rfl) | exact opv_fieldAddr rfl rfl | exact opv_loadA rfl (by exact rfl) rfl (by exact rfl) (by exact rfl) | exact opv_indexAddrI rfl rfl rfl (by omega) (by omega) (by first | omega ) | exact opv_load3 rfl (by exact rfl) (by infer_instance) (by assumption) (by assumption) (by assumption)) ?_ | refine sl_pass rfl rfl rfl rfl ?_)
        | (refine gk 4 rfl ?_; first | refine sl_op rfl rfl rfl (opv_call rfl rfl rfl rfl rfl (hjc)) ?_ | (refine sl_append rfl rfl rfl rfl rfl rfl rfl rfl rfl os (by decide) rfl (by decide) rfl (by omega) (by omega) (fun h1 b1 c1 os1 => ?_)) | (refine sl_append rfl rfl rfl rfl rfl rfl rfl rfl rfl os1 (by decide) rfl (by decide) rfl (by omega) (by omega) (fun h3 b3 c3 os3 => ?_)))
        | (refine gk 5 rfl ?_; first | refine sl_buildSlice rfl rfl rfl rfl rfl (by exact rfl) (by exact rfl) (by exact rfl) (by exact rfl) rfl (fun b => ?_) | refine sl_alloc rfl rfl rfl rfl (by exact rfl) (fun β => ?_) | refine sl_store rfl rfl rfl rfl rfl rfl (by exact rfl) rfl (by exact rfl) ?_)
        | refine sl_region rfl ?_
        | refine sl_nil ?_
        | refine thn_k ?_
        | refine swp_true rfl ?_
        | refine swp_block ?_
        | refine swp_skip ?_
        )
      refine ⟨rfl, ⟨j + 1, h3, b3, m + 1 + 1, c3⟩, next_ok (by repeat first | exact Sub.nil _ | refine Sub.cons rfl ?_), ⟨hj, ?_⟩, by dsimp only; omega⟩
      dsimp only
      rw [hs, List.map_append]; simpa using os3
    · rw [decide_eq_false hjm] at hjc
      by_cases h20 : op = 20
      · have e : leadF j (op, a, b) = [(j : Int) + 1] := by simp only [leadF]; rw [if_neg hjm, if_pos (.inr h20)]; rfl
        rw [e] at hs
        repeat' (first
          | refine swp_seq ?_
          | (refine gk 0 rfl ?_; first | refine sl_op rfl rfl rfl (by first | exact opv_move rfl rfl | exact opv_assign rfl rfl | exact opv_pick_f rfl rfl rfl ) ?_ )
          | (refine gk 1 rfl ?_; first | refine sl_op rfl rfl rfl (by first | exact opv_add64 rfl rfl rfl (by omega) (by omega) ) ?_ )
          | (refine gk 2 rfl ?_; first | refine sl_yes rfl rfl rfl (by first | exact opv_lss rfl rfl rfl | exact opv_eql rfl rfl rfl ) (by first | omega ) ?_ )
          | (refine gk 3 rfl ?_; first | refine sl_op rfl rfl rfl (by first | exact opv_load rfl (by exact rfl) rfl (by exact rfl) | exact opv_fieldAddr rfl rfl | exact opv_loadA rfl (by exact rfl) rfl (by exact rfl) (by exact rfl) | exact opv_indexAddrI rfl rfl rfl (by omega) (by omega) (by first | omega ) | exact opv_load3 rfl (by exact rfl) (by infer_instance) (by assumption) (by assumption) (by assumption)) ?_ )
          | (refine gk 4 rfl ?_; first | refine sl_op rfl rfl rfl (opv_call rfl rfl rfl rfl rfl (hjc)) ?_ | (refine sl_append rfl rfl rfl rfl rfl rfl rfl rfl rfl os (by decide) rfl (by decide) rfl (by omega) (by omega) (fun h1 b1 c1 os1 => ?_)))
          | (refine gk 5 rfl ?_; first | refine sl_buildSlice rfl rfl rfl rfl rfl (by exact rfl) (by exact rfl) (by exact rfl) (by exact rfl) rfl (fun b => ?_) | refine sl_alloc rfl rfl rfl rfl (by exact rfl) (fun β => ?_) | refine sl_store rfl rfl rfl rfl rfl rfl (by exact rfl) rfl (by exact rfl) ?_)
          | refine sl_region rfl ?_
          | refine sl_nil ?_
          | refine thn_k ?_
          | refine swp_true rfl ?_
          | refine swp_false rfl ?_
          | refine swp_block ?_
          | refine swp_skip ?_
          )
        refine ⟨rfl, ⟨j + 1, h1, b1, m + 1, c1⟩, next_ok (by repeat first | exact Sub.nil _ | refine Sub.cons rfl ?_), ⟨hj, ?_⟩, by dsimp only; omega⟩
        dsimp only
        rw [hs, List.map_append]; exact os1
      · have e : leadF j (op, a, b) = [] := by simp only [leadF]; rw [if_neg hjm, if_neg (by rintro (h | h) <;> contradiction)]; rfl
        rw [e, List.append_nil] at hs
        repeat' (first
          | refine swp_seq ?_
          | (refine gk 0 rfl ?_; first | refine sl_op rfl rfl rfl (by first | exact opv_move rfl rfl | exact opv_assign rfl rfl | exact opv_pick_f rfl rfl rfl ) ?_ )
          | (refine gk 1 rfl ?_; first | refine sl_op rfl rfl rfl (by first | exact opv_add64 rfl rfl rfl (by omega) (by omega) ) ?_ )
          | (refine gk 2 rfl ?_; first | refine sl_yes rfl rfl rfl (by first | exact opv_lss rfl rfl rfl | exact opv_eql rfl rfl rfl ) (by first | omega ) ?_ | refine sl_no rfl rfl rfl (by first | exact opv_eql rfl rfl rfl ) (by first | omega ) ?_ )
          | (refine gk 3 rfl ?_; first | refine sl_op rfl rfl rfl (by first | exact opv_load rfl (by exact rfl) rfl (by exact rfl) | exact opv_fieldAddr rfl rfl | exact opv_loadA rfl (by exact rfl) rfl (by exact rfl) (by exact rfl) | exact opv_indexAddrI rfl rfl rfl (by omega) (by omega) (by first | omega ) | exact opv_load3 rfl (by exact rfl) (by infer_instance) (by assumption) (by assumption) (by assumption)) ?_ )
          | (refine gk 4 rfl ?_; first | refine sl_op rfl rfl rfl (opv_call rfl rfl rfl rfl rfl (hjc)) ?_)
          | (refine gk 5 rfl ?_; first | refine sl_alloc rfl rfl rfl rfl (by exact rfl) (fun β => ?_) | refine sl_store rfl rfl rfl rfl rfl rfl (by exact rfl) rfl (by exact rfl) ?_)
          | refine sl_region rfl ?_
          | refine sl_nil ?_
          | refine thn_k ?_
          | refine swp_true rfl ?_
          | refine swp_false rfl ?_
          | refine swp_block ?_
          | refine swp_skip ?_
          )
        refine ⟨rfl, ⟨j + 1, H, bL, m, cL⟩, next_ok (by repeat first | exact Sub.nil _ | refine Sub.cons rfl ?_), ⟨hj, ?_⟩, by dsimp only; omega⟩
        dsimp only
        rw [hs]; exact os
  · obtain rfl : j = cl := by omega
    have hr := rise_length (leadA cs j)
    repeat' (first
      | refine swp_seq ?_
      | (refine gk 0 rfl ?_; first | refine sl_op rfl rfl rfl (by first | exact opv_move rfl rfl | exact opv_assign rfl rfl | exact opv_makeFunc rfl rfl rfl) ?_ )
      | (refine gk 2 rfl ?_; first | refine sl_no rfl rfl rfl (by first | exact opv_lss rfl rfl rfl ) (by first | omega ) ?_ )
      | (refine gk 4 rfl ?_; first | (refine sl_callT rfl rfl rfl rfl rfl rfl rfl rfl (rising_calls H bL m cL _ os (by omega)) ?_; rintro _ _ ⟨hR, rfl, rfl, osR⟩; refine ⟨_, _, rfl, rfl, ?_⟩) | (refine sl_callT rfl rfl rfl rfl rfl rfl rfl rfl (DeleteFunc_calls hR bL _ cL _ osR (by omega) β1 p lo st cb j cc) ?_; rintro _ _ ⟨hD, rfl, rfl, osD⟩; refine ⟨_, _, rfl, rfl, ?_⟩))
      | refine sl_region rfl ?_
      | refine sl_nil ?_
      | refine thn_k ?_
      | refine swp_false rfl ?_
      | refine swp_ret ?_
      | refine swp_exit ?_
      )
    have e : (rise (leadA cs j)).filter (inC j) = leads cs := by rw [leads, hl]
    rw [e] at osD ⊢
    exact end_retL [J, hD] (resOk_one (resV_tmp rfl)) ⟨[hD], rfl, hD, _, _, rfl, rfl, osD⟩
theorem Leaders_W (own : List Heap) (p : Value) (lo st : Int) (cb : Option Addr) (cl cc : Nat) (cs : List Ins) [s : SlIn own cb (flatI cs)] (hl : cs.length = cl) (hsm : cl ≤ 1000000) :
    SL.T Try.prog 29 [mth p lo st cb cl cc] own fun e o => ∃ N, o = own ++ N ∧ ∃ h b c, e = .returned (.slice b (leads cs).length c) ∧ N = [h] ∧ OS h b (leads cs).length c 3 1 ((leads cs).map i64) :=
  T_whole fun J hJ => by
    haveI := s.all hJ
    exact Leaders_calls J p lo st cb cl cc cs hl hsm
/-! What leads. -/
theorem mem_leadA {cs : List Ins} {n : Nat} {z : Int} : z ∈ leadA cs n ↔ z = 0 ∨ ∃ k : Nat, k < n ∧ z ∈ leadF k (cs.getD k (0, 0, 0)) := by
  simp [leadA, List.mem_flatMap]
theorem mem_leads {cs : List Ins} {z : Int} : z ∈ leads cs ↔ (0 ≤ z ∧ z < cs.length) ∧ z ∈ leadA cs cs.length := by
  unfold leads
  rw [List.mem_filter, mem_rise]
  simp [inC, and_comm]
theorem leads_sorted (cs : List Ins) : (leads cs).Pairwise (· < ·) := (rise_sorted _).filter _
theorem leads_length (cs : List Ins) : (leads cs).length ≤ 1 + 2 * cs.length :=
  Nat.le_trans (List.length_filter_le _ _) (Nat.le_trans (rise_length _) (leadA_length _ _))
theorem nextL_of {x : Ins} {k : Nat} (hj : ¬ jmp x.1) : nextL x k = if x.1 = 20 then [] else [(k : Int) + 1] := by
  have h6 : x.1 ≠ 6 := fun e => hj (by rw [e]; decide)
  unfold nextL
  rw [if_neg hj, List.nil_append]
  split
  · rename_i h; rw [if_neg h.2]; exact rise_eq (List.pairwise_singleton _ _) (fun _ => Iff.rfl)
  · rename_i h
    have : x.1 = 20 := Classical.byContradiction fun e => h ⟨h6, e⟩
    rw [if_pos this]; exact rise_nil
theorem mem_nextL {x : Ins} {k : Nat} {z : Int} : z ∈ nextL x k ↔ (jmp x.1 ∧ z = x.2.1) ∨ ((x.1 ≠ 6 ∧ x.1 ≠ 20) ∧ z = (k : Int) + 1) := by
  unfold nextL
  rw [mem_rise, List.mem_append]
  constructor
  · rintro (h | h)
    · split at h
      · rename_i hj; exact .inl ⟨hj, by simpa using h⟩
      · cases h
    · split at h
      · rename_i hj; exact .inr ⟨hj, by simpa using h⟩
      · cases h
  · rintro (⟨h1, h2⟩ | ⟨h1, h2⟩)
    · left; rw [if_pos h1, h2]; exact List.mem_singleton.2 rfl
    · right; rw [if_pos h1, h2]; exact List.mem_singleton.2 rfl
/-- A place that is no leader is come to from the one ahead of it alone. -/
theorem lead_next {cs : List Ins} {at_ : Nat} {x : Ins} {t : Int} (hx : cs[at_]? = some x) (ht : t ∈ nextL x at_) (h0 : 0 ≤ t) (h1 : t < cs.length) (hn : t ∉ leads cs) : t = (at_ : Int) + 1 ∧ (nextL x at_).length = 1 := by
  have hlt := (List.getElem?_eq_some_iff.1 hx).1
  have hno : t ∉ leadF at_ x := fun hm => hn (mem_leads.2 ⟨⟨h0, h1⟩, mem_leadA.2 (.inr ⟨at_, hlt, by simpa [List.getD, hx] using hm⟩)⟩)
  by_cases hj : jmp x.1
  · exfalso
    rcases mem_nextL.1 ht with ⟨-, e⟩ | ⟨-, e⟩
    · exact hno (by unfold leadF; rw [if_pos hj, e]; simp)
    · exact hno (by unfold leadF; rw [if_pos hj, if_pos (.inl hj), e]; simp)
  · rw [nextL_of hj] at ht ⊢
    split at ht
    · cases ht
    · rename_i h20
      rw [if_neg h20]
      exact ⟨by simpa using ht, rfl⟩
theorem lead_behind {cs : List Ins} {at_ : Nat} {x : Ins} (hx : cs[at_]? = some x) (h1 : at_ + 1 < cs.length) (hn : (at_ : Int) + 1 ∉ leads cs) : nextL x at_ = [(at_ : Int) + 1] := by
  have hlt := (List.getElem?_eq_some_iff.1 hx).1
  have hno : (at_ : Int) + 1 ∉ leadF at_ x := fun hm => hn (mem_leads.2 ⟨⟨by omega, by omega⟩, mem_leadA.2 (.inr ⟨at_, hlt, by simpa [List.getD, hx] using hm⟩)⟩)
  have hj : ¬ jmp x.1 := fun hj => hno (by unfold leadF; rw [if_pos hj, if_pos (.inl hj)]; simp)
  have h20 : x.1 ≠ 20 := fun e => hno (by unfold leadF; rw [if_neg hj, if_pos (.inr e)]; simp)
  rw [nextL_of hj, if_neg h20]
end Go.Proofs.Ytifhhfeibnpaoaa
