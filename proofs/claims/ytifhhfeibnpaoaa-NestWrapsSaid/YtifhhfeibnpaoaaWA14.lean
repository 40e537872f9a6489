/- Going through a method: its end; whether it is right. -/
import Derived.Test.YtifhhfeibnpaoaaWA13
import Derived.Test.YtifhhfeibnpaoaaSlG8
namespace Go.Proofs.Ytifhhfeibnpaoaa
open Go.SL
set_option maxRecDepth 100000
set_option maxHeartbeats 16000000
attribute [local irreducible] SL.T PFn OpV SOL SWP HOp ChU
open Classical in
/-- The end of going through a method. -/
noncomputable def endG (cs : List Ins) : GS := if h : ∃ n, (GS.run cs n).res.isSome then GS.run cs (Classical.choose h) else GS.start
theorem endG_eq {cs : List Ins} {n : Nat} (h : (GS.run cs n).res.isSome) : GS.run cs n = endG cs := by
  unfold endG
  rw [dif_pos ⟨n, h⟩]
  exact GS.one h (Classical.choose_spec (⟨n, h⟩ : ∃ n, (GS.run cs n).res.isSome))
noncomputable def wrG (cs : List Ins) : Int := (endG cs).res.getD (-1)
theorem wrG_eq {cs : List Ins} {n : Nat} {g : GS} {wr : Int} (h : GS.run cs n = g) (hr : g.res = some wr) : g = endG cs ∧ wr = wrG cs ∧ (endG cs).res = some (wrG cs) := by
  have e := endG_eq (cs := cs) (n := n) (by rw [h, hr]; rfl)
  rw [h] at e
  have : wr = wrG cs := by unfold wrG; rw [← e, hr]; rfl
  exact ⟨e, this, by rw [← e, hr, this]⟩
theorem run_pos (cs : List Ins) (n : Nat) : (∀ z ∈ (GS.run cs n).V, 0 ≤ z) ∧ ∀ r, (GS.run cs n).res = some r → r = -1 ∨ 0 ≤ r := by
  induction n with
  | zero => exact ⟨fun z hz => by rw [List.mem_singleton.1 hz]; omega, fun r hr => by cases hr⟩
  | succ n ih =>
    rw [GS.run, GS.step]
    generalize GS.run cs n = g at ih
    split
    · exact ih
    · split
      · exact ⟨ih.1, fun r hr => by cases hr; exact .inl rfl⟩
      · rename_i z hz
        split
        · exact ⟨ih.1, fun r hr => by cases hr; exact .inr (ih.1 z (List.mem_of_getElem? hz))⟩
        · split
          · exact ih
          · split
            · rename_i t ht hr
              split
              · split
                · exact ih
                · exact ⟨ih.1, fun r hr2 => by cases hr2; exact .inr hr.1⟩
              · exact ⟨fun z hz => by
                  rcases List.mem_append.1 hz with hz | hz
                  · exact ih.1 z hz
                  · rw [List.mem_singleton.1 hz]; exact hr.1, ih.2⟩
            · exact ih
theorem wrG_pos {cs : List Ins} (h : (endG cs).res = some (wrG cs)) : wrG cs = -1 ∨ 0 ≤ wrG cs := by
  unfold endG at h
  split at h
  · exact (run_pos cs _).2 _ h
  · cases h
theorem wr_no {cs : List Ins} (h : (endG cs).res = some (wrG cs)) (h2 : ¬ 0 ≤ wrG cs) : wrG cs = -1 := (wrG_pos h).resolve_right h2
/-- What a map says of the stack ahead of a place. -/
def StackAt (K : Heap) (v : Option Value) (s : List Int) : Prop := (v = none ∧ s = []) ∨ ∃ b n c, v = some (.slice b n c) ∧ Sl K b (s.map i64) ∧ s.length = n ∧ n ≤ c ∧ n ≤ 8
theorem gone_none (J : Heap) (p : Value) (lo st : Int) (cb : Option Addr) (cc : Nat) [Sl J cb (flatI [])] :
    SL.T Try.prog 26 [mth p lo st cb 0 cc] [J] fun e o => ∃ K hM βw bm, o = [J, K, wBlk βw p lo st cb 0 cc bm none 0 0 (-1), hM] ∧ e = .returned (.pointer (some ⟨βw, 0, none⟩)) ∧ MP hM bm .i64 (fun _ => none) := by
  refine t_of_body Try.func26 rfl (Nat.le_of_ble_eq_true rfl) fun F => ?_
  refine swp_emp ?_
  repeat' (first
    | refine sl_makeMap rfl rfl rfl rfl (fun bm => ?_)
    | refine swp_seq ?_
    | (refine gk 3 rfl ?_; first | refine sl_op rfl rfl rfl (by first | exact opv_load rfl (by exact rfl) rfl (by exact rfl) | exact opv_loadA rfl (by exact rfl) rfl (by exact rfl) (by exact rfl) ) ?_ )
    | (refine gk 4 rfl ?_; first | refine sl_op rfl rfl rfl (opv_call rfl rfl rfl rfl rfl (come_out _ p lo st cb 0 cc bm none 0 0 (-1) 0 _ (by omega))) ?_ | (refine sl_callT rfl rfl rfl rfl rfl rfl rfl rfl (places_calls _) ?_; rintro _ _ ⟨β5, rfl, rfl⟩; refine ⟨_, _, rfl, rfl, ?_⟩))
    | (refine gk 5 rfl ?_; first | refine sl_op rfl rfl rfl (by first | exact opv_build rfl rfl (by exact rfl) ) ?_ | refine sl_box rfl rfl rfl rfl rfl rfl (fun β => ?_) | refine sl_alloc rfl rfl rfl rfl (by exact rfl) (fun β => ?_) | refine sl_store rfl rfl rfl rfl rfl rfl (by exact rfl) rfl (by exact rfl) ?_)
    | refine sl_region rfl ?_
    | refine sl_nil ?_
    | refine thn_k ?_
    | refine swp_block ?_
    )
  rename_i iJ β1 β2 βw
  obtain ⟨β3, rfl⟩ : ∃ x, x = β := ⟨_, rfl⟩
  refine swp_rangeL (hsI := [blk β5 (.cells ⟨[.pointer (some ⟨βw, 0, none⟩)]⟩ 67 (0, 0))]) (nx := nxW βw)
    (fun i own1 => own1 = [blk β3 (.cells ⟨[.pointer (some ⟨βw, 0, none⟩)]⟩ 67 (0, 0)), wBlk βw p lo st cb 0 cc bm none 0 0 (-1), blk bm (.map #[] 0), blk β2 (.cells ⟨[.pointer none]⟩ 67 (0, 0)), mBlk β1 p lo st cb 0 cc, emp, J])
    (fun own1 => own1 = [blk β3 (.cells ⟨[.pointer (some ⟨βw, 0, none⟩)]⟩ 67 (0, 0)), wBlk βw p lo st cb 0 cc bm none 0 0 (-1), blk bm (.map #[] 0), blk β2 (.cells ⟨[.pointer none]⟩ 67 (0, 0)), mBlk β1 p lo st cb 0 cc, emp, J])
    (fun c own1 => False)
    rfl (places_iter βw β5) (nxW_mono βw) rfl rfl ?_ ?_ ?_
  · rintro L i own1 rfl hdj
    exact .inr ⟨⟨_, _, _, _, _, none, 0, 0, _, [], hle_joins hdj (List.mem_cons_of_mem _ (List.mem_cons_self ..)) _ _ (blk_self _ _), Sl.none, rfl, by omega, rfl⟩, rfl⟩
  · rintro D own1 rfl
    refine ⟨_, rfl, ?_⟩
    repeat' (first
      | refine swp_seq ?_
      | (refine gk 3 rfl ?_; first | refine sl_op rfl rfl rfl (by first | exact opv_load rfl (by exact rfl) rfl (by exact rfl) ) ?_ )
      | (refine gk 5 rfl ?_; first | refine sl_store rfl rfl rfl rfl rfl rfl (by exact rfl) rfl (by exact rfl) ?_)
      | refine sl_region rfl ?_
      | refine sl_nil ?_
      | refine thn_k ?_
      | refine swp_ret ?_
      )
    exact end_retL [J, emp, wBlk βw p lo st cb 0 cc bm none 0 0 (-1), blk bm (.map #[] 0)] (resOk_one (resV_cell rfl rfl rfl)) ⟨emp, _, βw, bm, rfl, rfl, MP.nil⟩
  · rintro D c own1 ⟨⟩
theorem end_none : (GS.run [] 2).res = some (-1) := by
  have h1 : GS.run [] 1 = ⟨[0], fun _ => [], 1, 0, none⟩ := by
    rw [run_step (n := 0) (g := ⟨[0], fun _ => [], 0, 0, none⟩) rfl]
    exact step_next (z := 0) (s := []) rfl (by decide) (by rw [nxt_no (by simp)]; rfl)
  rw [run_step h1, step_done rfl]
theorem gone_calls (J : Heap) (p : Value) (lo st : Int) (cb : Option Addr) (cl cc : Nat) (cs : List Ins) [iJ : Sl J cb (flatI cs)] (hl : cs.length = cl) (hsm : cl ≤ 1000000) :
    SL.T Try.prog 26 [mth p lo st cb cl cc] [J] fun e o => ∃ K hM βw bm ob on oc f, o = [J, K, wBlk βw p lo st cb cl cc bm ob on oc (wrG cs), hM] ∧ e = .returned (.pointer (some ⟨βw, 0, none⟩)) ∧
      MP hM bm .i64 f ∧ (endG cs).res = some (wrG cs) ∧ ∀ t : Int, 0 ≤ t → t < cl → StackAt K (f t) ((endG cs).stk t) := by
  rcases Nat.eq_zero_or_pos cl with h0 | h0
  · subst h0
    obtain rfl : cs = [] := List.length_eq_zero_iff.1 hl
    obtain ⟨h1, h2, h3⟩ := wrG_eq (cs := []) rfl end_none
    refine (gone_none J p lo st cb cc).mono ?_
    rintro e o ⟨K, hM, βw, bm, rfl, rfl, mp⟩
    exact ⟨K, hM, βw, bm, none, 0, 0, _, by rw [← h2], rfl, mp, h3, fun t ht ht2 => by omega⟩
  · refine (gone_big J p lo st cb cl cc cs hl hsm h0).mono ?_
    rintro e o ⟨K, hM, hO, βw, bm, ob, oc, f, V, stk, i, k, n, wr, rfl, rfl, gi, hg⟩
    obtain ⟨h1, rfl, h3⟩ := wrG_eq hg rfl
    refine ⟨K, hM, βw, bm, ob, V.length, oc, f, rfl, rfl, gi.mp, h3, fun t ht ht2 => ?_⟩
    rw [← h1]
    by_cases hv : t ∈ V
    · obtain ⟨b, n1, c, h5, h6, h7, h8, h9⟩ := gi.ws.inn t hv
      exact .inr ⟨b, n1, c, h5, h6, h7, h8, h9⟩
    · exact .inl (gi.ws.out t hv)
theorem Check_calls (J : Heap) (p : Value) (lo st : Int) (cb : Option Addr) (cl cc : Nat) (cs : List Ins) [iJ : Sl J cb (flatI cs)] (hl : cs.length = cl) (hsm : cl ≤ 1000000) :
    SL.T Try.prog 9 [mth p lo st cb cl cc] [J] fun e o => ∃ N, o = J :: N ∧ N = [] ∧ e = .returned (.tuple ⟨[i64 (wrG cs), i64 (if 0 ≤ wrG cs then 10 else 0)]⟩) ∧ (endG cs).res = some (wrG cs) := by
  refine t_of_body Try.func9 rfl (Nat.le_of_ble_eq_true rfl) fun F => ?_
  repeat' (first
    | refine swp_seq ?_
    | (refine gk 0 rfl ?_; first | refine sl_op rfl rfl rfl (by first | exact opv_move rfl rfl | exact opv_assign rfl rfl ) ?_ )
    | (refine gk 2 rfl ?_; first | refine sl_if rfl rfl rfl (by first | exact opv_geq rfl rfl rfl ) (fun h => ?_) (fun h => ?_) )
    | (refine gk 3 rfl ?_; first | refine sl_op rfl rfl rfl (by first | exact opv_load rfl (by exact rfl) rfl (by exact rfl) | exact opv_fieldAddr rfl rfl | exact opv_loadA rfl (by exact rfl) rfl (by exact rfl) (by exact rfl) ) ?_ )
    | (refine gk 4 rfl ?_; first | (refine sl_callT rfl rfl rfl rfl rfl rfl rfl rfl (gone_calls J p lo st cb cl cc cs hl hsm) ?_; rintro _ _ ⟨K, hM, βw, bm, ob, on, oc, f, rfl, rfl, mp, hE, hS⟩; refine ⟨_, _, rfl, rfl, ?_⟩))
    | (refine gk 5 rfl ?_; first | refine sl_op rfl rfl rfl (by first | exact opv_nilCheck rfl rfl ) ?_ | refine sl_box rfl rfl rfl rfl rfl rfl (fun β => ?_) )
    | refine sl_region rfl ?_
    | refine sl_nil ?_
    | refine thn_k ?_
    | refine swp_true rfl ?_
    | refine swp_false rfl ?_
    | refine swp_ret ?_
    | refine swp_skip ?_
    | refine thn_ret ?_
    )
  all_goals
    first
    | exact end_retL [J] (resOk_two (resV_tmp rfl) (resV_tmp rfl)) ⟨[], rfl, rfl, by rw [if_pos (by assumption)], hE⟩
    | exact end_retL [J] (resOk_two (resV_tmp rfl) (resV_tmp rfl)) ⟨[], rfl, rfl, by rw [if_neg (by assumption), wr_no hE (by assumption)], hE⟩
end Go.Proofs.Ytifhhfeibnpaoaa
