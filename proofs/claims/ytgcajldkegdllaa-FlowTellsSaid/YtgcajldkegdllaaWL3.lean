/- The law FlowTells, walked. -/
import Derived.Test.YtgcajldkegdllaaWT6
import Derived.Test.YtgcajldkegdllaaWRZ
namespace Go.Proofs.Ytgcajldkegdllaa
open Go.SL
set_option maxRecDepth 100000
set_option maxHeartbeats 32000000
attribute [local irreducible] SL.T PFn OpV SOL SWP HOp ChU
theorem Off_P (own : List Heap) (p : Value) (lo st : Int) (cb : Option Addr) (cl cc : Nat) (cs : List Ins) [s : SlIn own cb (flatI cs)] (hl : cs.length = cl) (hsm : cl ≤ 4000000) : PFn Try.prog 8 [mth p lo st cb cl cc] own (i64 (off cs)) :=
  P_whole fun J hJ => by
    haveI := s.all hJ
    exact Off_calls J p lo st cb cl cc cs hl hsm
theorem rOff_P (own : List Heap) (p : Value) (lo st : Int) (cb : Option Addr) (cl cc : Nat) (cs : List Ins) [s : SlIn own cb (flatI cs)] (hl : cs.length = cl) (hsm : cl ≤ 4000000) : PFn Try.prog 9 [mth p lo st cb cl cc] own (i64 (off cs)) :=
  P_whole fun J hJ => by
    haveI := s.all hJ
    exact rOff_calls J p lo st cb cl cc cs hl hsm
theorem Leader_P (own : List Heap) (p : Value) (lo st : Int) (cb : Option Addr) (cl cc : Nat) (cs : List Ins) (at_ : Int) {b : Bool} (hb : decide (at_ ∈ leads cs) = b) [s : SlIn own cb (flatI cs)] (hl : cs.length = cl) (hsm : cl ≤ 4000000) : PFn Try.prog 16 [mth p lo st cb cl cc, i64 at_] own (.bool b) :=
  P_whole fun J hJ => by
    haveI := s.all hJ
    rw [← hb]
    exact Leader_calls J p lo st cb cl cc cs at_ hl hsm
theorem rSame_yes (own : List Heap) (b1 b2 : Option Addr) (n1 n2 c1 c2 : Nat) (xs ys : List Int) [SlIn own b1 (xs.map i64)] [SlIn own b2 (ys.map i64)] (h1 : xs.length = n1) (h2 : ys.length = n2) (hsm : n1 ≤ 4000000) (e : xs = ys) :
    PFn Try.prog 10 [.slice b1 n1 c1, .slice b2 n2 c2] own (.bool true) :=
  (rSame_calls own b1 b2 n1 n2 c1 c2 xs ys h1 h2 (by omega)).to (by rw [decide_eq_true e])
theorem cut_any (b : Bool) (J : Heap) (lb : Option Addr) (ll lc : Nat) (ls : List Ins) [Sl J lb (flatI ls)] (hl : ls.length = ll) (hsm : ll ≤ 9223372036854775807) (hlc : ll ≤ lc) :
    SL.T Try.prog 7 [.slice lb ll lc, .bool b] [J] fun e o => ∃ N, o = J :: N ∧ ∃ h b n c cs, e = .returned (mth nilS 0 0 b n c) ∧ N = [h] ∧ OS h b n c 40 3 (flatI cs) ∧ cs.length = n ∧ n ≤ 40 := by
  cases b
  · exact cut_raw J lb ll lc ls hl hsm hlc
  · exact cut_near J lb ll lc ls hl hsm hlc
def leadL (cs : List Ins) (i : Nat) : List Int := ((List.range i).map fun (k : Nat) => (k : Int)).filter fun z => decide (z ∈ leads cs)
theorem leadL_succ (cs : List Ins) (i : Nat) : leadL cs (i + 1) = leadL cs i ++ if (i : Int) ∈ leads cs then [(i : Int)] else [] := by
  unfold leadL
  rw [List.range_succ, List.map_append, List.filter_append]
  congr 1
  by_cases h : (i : Int) ∈ leads cs <;> simp [h]
theorem leadL_length (cs : List Ins) (i : Nat) : (leadL cs i).length ≤ i := by
  unfold leadL; exact Nat.le_trans (List.length_filter_le _ _) (by simp)
theorem leadL_all (cs : List Ins) : leads cs = leadL cs cs.length := by
  refine sorted_unique (leads_sorted cs) ?_ fun x => ?_
  · unfold leadL
    refine List.Pairwise.filter _ ?_
    rw [List.pairwise_map]
    exact (List.pairwise_lt_range).imp fun h => by omega
  · unfold leadL
    rw [List.mem_filter, List.mem_map]
    constructor
    · intro h
      obtain ⟨⟨h0, h1⟩, -⟩ := mem_leads.1 h
      obtain ⟨k, rfl⟩ := Int.eq_ofNat_of_zero_le h0
      exact ⟨⟨k, List.mem_range.2 (by omega), rfl⟩, decide_eq_true h⟩
    · rintro ⟨-, h⟩; exact of_decide_eq_true h
theorem reach_far {cs : List Ins} {V : List Int} {d : Int → Int} {out : List Int} (_hol : out.length = cs.length) (hd : Dist cs (fun z => out.getD z 0)) (h : BFS cs V V.length d) {i : Nat} (hi : i < cs.length) {w : Int} (hw : out[i]? = some w) : (i : Int) ∈ V ↔ 0 ≤ w := by
  have e := (dist_far h).eq hd i hi
  have hg : out.getD i 0 = w := by simp [List.getD, hw]
  rw [hg] at e
  simp only [farOf] at e
  split at e
  · rename_i hm; have := h.nonneg _ hm; exact ⟨fun _ => by omega, fun _ => hm⟩
  · rename_i hm; exact ⟨fun x => absurd x hm, fun x => by omega⟩
structure SW where
  i : Nat
  m : Nat
  h : Heap
  b : Option Addr
  c : Nat
theorem FlowTells_calls (J : Heap) (lb : Option Addr) (ll lc : Nat) (ls : List Ins) (at_ : Int) [Sl J lb (flatI ls)] (hl : ls.length = ll) (hsm : ll ≤ 9223372036854775807) (hlc : ll ≤ lc) : PFn Try.prog 3 [.slice lb ll lc, i64 at_] [J] (.bool true) := by
  refine pure_of_body Try.func3 rfl (Nat.le_of_ble_eq_true rfl) fun F => ?_
  repeat' (first
    | refine swp_seq ?_
    | (refine gk 0 rfl ?_; first | refine sl_op rfl rfl rfl (by first | exact opv_move rfl rfl | exact opv_assign rfl rfl ) ?_ )
    | (refine gk 5 rfl ?_; first | refine sl_op rfl rfl rfl (by first | exact opv_build rfl rfl (by exact rfl) ) ?_ )
    | refine sl_region rfl ?_
    | refine sl_nil ?_
    | refine thn_k ?_
    | refine swp_block ?_
    )
  refine swp_loopS (fun r : Nat => [(0, .slice lb ll lc), (1, i64 at_), (13, .agg ⟨[.bool true, .bool false]⟩), (14, i64 (r : Int))])
    (fun _ => [J]) (fun r => r ≤ 2) (fun r => 2 - r) 0 (by repeat first | exact Sub.nil _ | refine Sub.cons rfl ?_) (Nat.zero_le _) ?_
  rintro r hr1
  by_cases hr : r < 2
  · obtain ⟨b, hcb⟩ : ∃ b, ([.bool true, .bool false] : List Value)[((r : Nat) : Int).toNat * 1]? = some (.bool b) := by
      rcases (by omega : r = 0 ∨ r = 1) with rfl | rfl
      · exact ⟨_, rfl⟩
      · exact ⟨_, rfl⟩
    repeat' (first
      | refine swp_seq ?_
      | (refine gk 0 rfl ?_; first | refine sl_op rfl rfl rfl (by first | exact opv_move rfl rfl | exact opv_assign rfl rfl ) ?_ )
      | (refine gk 2 rfl ?_; first | refine sl_yes rfl rfl rfl (by first | exact opv_lss rfl rfl rfl ) (by first | omega ) ?_ )
      | (refine gk 3 rfl ?_; first | refine sl_op rfl rfl rfl (by first | exact opv_load rfl (by exact rfl) rfl (by exact rfl) | exact opv_fieldAddr rfl rfl | exact opv_index rfl rfl rfl (by omega) (by omega) (by first | assumption ) ) ?_ )
      | (refine gk 4 rfl ?_; first | refine sl_op rfl rfl rfl (by first | exact opv_len rfl rfl rfl rfl rfl ) ?_ | (refine sl_callT rfl rfl rfl rfl rfl rfl rfl rfl (cut_any b J lb ll lc ls hl hsm hlc) ?_; rintro _ _ ⟨_, rfl, hc, cb, n, cc, cs, rfl, rfl, osc, hcl, hn⟩; haveI slc := osc.sl; refine ⟨_, _, rfl, rfl, ?_⟩))
      | (refine gk 5 rfl ?_; first | refine sl_alloc rfl rfl rfl rfl (by exact rfl) (fun β => ?_) | refine sl_store rfl rfl rfl rfl rfl rfl (by exact rfl) rfl (by exact rfl) ?_)
      | refine sl_region rfl ?_
      | refine sl_nil ?_
      | refine swp_true rfl ?_
      | refine swp_block ?_
      | refine swp_skip ?_
      )
    refine sl_drawC [.q [0, 2], .h false 1, .h false 3, .q [4, 5, 6, 8], .h false 7, .h false 9, .h false 10, .q [11, 12, 13, 14, 15, 17, 18], .h false 16, .h false 19, .h false 20, .q [21, 22]] [] (by kernel_rfl) (by kernel_rfl) (by kernel_rfl) (by kernel_rfl) ?_
    have hna := nxt_length cs at_
    repeat' (first
      | refine swp_seq ?_
      | (refine gk 0 rfl ?_; first | refine sl_op rfl rfl rfl (by first | exact opv_move rfl rfl | exact opv_assign rfl rfl | exact opv_pick_f rfl rfl rfl | exact opv_not_t rfl rfl ) ?_ )
      | (refine gk 2 rfl ?_; first | refine sl_no rfl rfl rfl (by first | exact opv_neq rfl rfl rfl) (by first | omega ) ?_ )
      | (refine gk 3 rfl ?_; first | refine sl_op rfl rfl rfl (by first | exact opv_loadA rfl (by exact rfl) rfl (by exact rfl) (by exact rfl) ) ?_ )
      | (refine gk 4 rfl ?_; first | refine sl_op rfl rfl rfl (by first | exact opv_len rfl rfl rfl rfl rfl ) ?_ | (refine sl_callW rfl rfl rfl rfl rfl rfl rfl rfl (rFar_W _ nilS 0 0 cb n cc cs hcl (by omega)) ?_; rintro _ _ ⟨hG, gb, out, rfl, rfl, osG, hol, hd⟩; haveI slG := osG.sl; refine ⟨_, _, rfl, rfl, ?_⟩) | (refine sl_callW rfl rfl rfl rfl rfl rfl rfl rfl (Reach_W _ nilS 0 0 cb n cc cs hcl (by omega)) ?_; rintro _ _ ⟨hE, eb, rl, V2, d2, rfl, rfl, osE, hrl, hV2⟩; haveI slE := osE.sl; refine ⟨_, _, rfl, rfl, ?_⟩))
      | refine sl_region rfl ?_
      | refine chu_nil ?_
      | refine chu_q rfl ?_
      | refine chu_PW rfl rfl rfl rfl rfl rfl rfl rfl (Off_P _ nilS 0 0 cb n cc cs hcl (by omega)) ?_
      | refine chu_PW rfl rfl rfl rfl rfl rfl rfl rfl (rOff_P _ nilS 0 0 cb n cc cs hcl (by omega)) ?_
      | (refine chu_callW rfl rfl rfl rfl rfl rfl rfl rfl (Far_W _ nilS 0 0 cb n cc cs hcl (by omega)) ?_; rintro _ _ ⟨hF, fb, V, d, rfl, rfl, osF, hV0, hV1⟩; haveI slF := osF.sl; refine ⟨_, _, rfl, rfl, ?_⟩)
      | (refine chu_callW rfl rfl rfl rfl rfl rfl rfl rfl (rFar_W _ nilS 0 0 cb n cc cs hcl (by omega)) ?_; rintro _ _ ⟨hG, gb, out, rfl, rfl, osG, hol, hd⟩; haveI slG := osG.sl; refine ⟨_, _, rfl, rfl, ?_⟩)
      | refine chu_PW rfl rfl rfl rfl rfl rfl rfl rfl (rSame_yes _ _ _ _ _ _ _ (farL n V d) out farL_length hol (by omega) (by rw [← hcl]; exact far_same (by omega) hd (by rw [hcl]; exact hV1))) ?_
      | (refine chu_callW rfl rfl rfl rfl rfl rfl rfl rfl (Next_W _ nilS 0 0 cb n cc cs at_ hcl (by omega)) ?_; rintro _ _ ⟨hN, bN, cN, rfl, rfl, osN⟩; haveI slN := osN.sl; refine ⟨_, _, rfl, rfl, ?_⟩)
      | (refine chu_callW rfl rfl rfl rfl rfl rfl rfl rfl (rNext_W _ nilS 0 0 cb n cc cs at_ hcl (by omega)) ?_; rintro _ _ ⟨hR, bR, cR, rfl, rfl, osR⟩; haveI slR := osR.sl; refine ⟨_, _, rfl, rfl, ?_⟩)
      | refine chu_PW rfl rfl rfl rfl rfl rfl rfl rfl (rSame_yes _ _ _ _ _ _ _ (nxt cs at_) (nxt cs at_) rfl rfl (by omega) rfl) ?_
      | refine sl_nil ?_
      | refine thn_k ?_
      | refine swp_false rfl ?_
      | refine swp_block ?_
      | refine swp_skip ?_
      )
    clear osN osR slN slR osF slF
    obtain ⟨β7, rfl⟩ : ∃ x, x = β := ⟨_, rfl⟩
    have hll := leads_length cs
    refine swp_emp ?_
    refine swp_loopS (fun s : SW => [(0, .slice lb ll lc), (1, i64 at_), (7, .pointer (some ⟨β7, 0, none⟩)), (8, i64 (n : Int)), (9, .slice s.b s.m s.c), (10, .slice gb n n), (11, .slice eb n n), (12, i64 (s.i : Int)), (13, .agg ⟨[.bool true, .bool false]⟩), (14, i64 (r : Int))])
      (fun s => [s.h, blk β7 (.cells ⟨[nilS, i64 0, i64 0, .slice cb n cc]⟩ 26 (0, 0)), J, hc, hG, hE]) (fun s => s.i ≤ n ∧ OS s.h s.b s.m s.c 3 1 ((leadL cs s.i).map i64)) (fun s => n - s.i) ⟨0, 0, emp, none, 0⟩ (by repeat first | exact Sub.nil _ | refine Sub.cons rfl ?_) ⟨Nat.zero_le _, OS.nil⟩ ?_
    rintro ⟨i, m, H, bL, cL⟩ ⟨hi1, os⟩
    dsimp only at hi1 os ⊢
    have hml := os.len
    have hm2 := leadL_length cs i
    by_cases hi : i < n
    · have B2 := hV2 (by omega)
      obtain ⟨w, hw⟩ : ∃ w, out[i]? = some w := ⟨_, List.getElem?_eq_getElem (by omega)⟩
      have hcw : (out.map i64)[((i : Nat) : Int).toNat * 1]? = some (i64 w) := by simp [hw]
      have hrf := reach_far (by omega) hd B2 (by omega) hw
      have hce : (rl.map boV)[((i : Nat) : Int).toNat * 1]? = some (boV (decide ((i : Int) ∈ V2))) := by simp [hrl i hi]
      have hni := nxt_length cs (i : Int)
      have hrl2 := osE.len
      have hls := leadL_succ cs i
      by_cases hL : (i : Int) ∈ leads cs
      · rw [if_pos hL] at hls
        by_cases hVi : (i : Int) ∈ V2
        · rw [decide_eq_true hVi] at hce
          have hw0 := hrf.1 hVi
          repeat' (first
            | refine swp_seq ?_
            | (refine gk 0 rfl ?_; first | refine sl_op rfl rfl rfl (by first | exact opv_move rfl rfl | exact opv_assign rfl rfl ) ?_ )
            | (refine gk 2 rfl ?_; first | refine sl_yes rfl rfl rfl (by first | exact opv_lss rfl rfl rfl ) (by first | omega ) ?_ )
            | (refine gk 3 rfl ?_; first | refine sl_op rfl rfl rfl (by first | exact opv_loadA rfl (by exact rfl) rfl (by exact rfl) (by exact rfl) ) ?_ )
            | (refine gk 4 rfl ?_; first | refine sl_op rfl rfl rfl (opv_callW rfl rfl rfl rfl rfl (Leader_P _ nilS 0 0 cb n cc cs (i : Int) (decide_eq_true hL) hcl (by omega))) ?_ | (refine sl_append rfl rfl rfl rfl rfl rfl rfl rfl rfl os (by decide) rfl (by decide) rfl (by omega) (by omega) (fun h1 b1 c1 os1 => ?_)))
            | (refine gk 5 rfl ?_; first | refine sl_buildSlice rfl rfl rfl rfl rfl (by exact rfl) (by exact rfl) (by exact rfl) (by exact rfl) rfl (fun b => ?_) )
            | refine sl_region rfl ?_
            | refine sl_nil ?_
            | refine thn_k ?_
            | refine swp_true rfl ?_
            | refine swp_block ?_
            | refine swp_skip ?_
            )
          refine sl_drawC [.q [0, 1, 3, 4], .h false 2, .h false 5, .h false 6, .q [7, 8, 9, 10, 11, 12, 13, 14, 15, 16, 17, 18, 19]] [] (by kernel_rfl) (by kernel_rfl) (by kernel_rfl) (by kernel_rfl) ?_
          repeat' (first
            | (refine gk 0 rfl ?_; first | refine sl_op rfl rfl rfl (by first | exact opv_move rfl rfl | exact opv_assign rfl rfl | exact opv_pick_f rfl rfl rfl | exact opv_not_t rfl rfl ) ?_ )
            | (refine gk 1 rfl ?_; first | refine sl_op rfl rfl rfl (by first | exact opv_add64 rfl rfl rfl (by omega) (by omega) ) ?_ )
            | (refine gk 2 rfl ?_; first | refine sl_yes rfl rfl rfl (by first | exact opv_geq rfl rfl rfl ) (by first | omega ) ?_ | refine sl_ff rfl rfl rfl (by first | exact opv_neqB Try.underlying4 rfl rfl rfl ) (by first | rfl ) ?_ )
            | (refine gk 3 rfl ?_; first | refine sl_op rfl rfl rfl (by first | exact opv_loadA rfl (by exact rfl) rfl (by exact rfl) (by exact rfl) | exact opv_indexAddrI rfl rfl rfl (by omega) (by omega) (by first | (simp only [List.length_map]; omega) ) | exact opv_loadEx rfl (by exact rfl) (by infer_instance) (by first | assumption ) ) ?_ )
            | refine sl_region rfl ?_
            | refine chu_nil ?_
            | refine chu_q rfl ?_
            | (refine chu_callW rfl rfl rfl rfl rfl rfl rfl rfl (Next_W _ nilS 0 0 cb n cc cs (i : Int) hcl (by omega)) ?_; rintro _ _ ⟨hN, bN, cN, rfl, rfl, osN⟩; haveI slN := osN.sl; refine ⟨_, _, rfl, rfl, ?_⟩)
            | (refine chu_callW rfl rfl rfl rfl rfl rfl rfl rfl (rNext_W _ nilS 0 0 cb n cc cs (i : Int) hcl (by omega)) ?_; rintro _ _ ⟨hR, bR, cR, rfl, rfl, osR⟩; haveI slR := osR.sl; refine ⟨_, _, rfl, rfl, ?_⟩)
            | refine chu_PW rfl rfl rfl rfl rfl rfl rfl rfl (rSame_yes _ _ _ _ _ _ _ (nxt cs (i : Int)) (nxt cs (i : Int)) rfl rfl (by omega) rfl) ?_
            | refine sl_nil ?_
            | refine thn_k ?_
            | refine swp_false rfl ?_
            | refine swp_skip ?_
            )
          refine ⟨rfl, ⟨i + 1, m + 1, h1, b1, c1⟩, next_ok (by repeat first | exact Sub.nil _ | refine Sub.cons rfl ?_), ⟨hi, ?_⟩, by dsimp only; omega⟩
          dsimp only; rw [hls, List.map_append]; exact os1
        · rw [decide_eq_false hVi] at hce
          have hw0 : ¬ 0 ≤ w := fun h => hVi (hrf.2 h)
          repeat' (first
            | refine swp_seq ?_
            | (refine gk 0 rfl ?_; first | refine sl_op rfl rfl rfl (by first | exact opv_move rfl rfl | exact opv_assign rfl rfl ) ?_ )
            | (refine gk 2 rfl ?_; first | refine sl_yes rfl rfl rfl (by first | exact opv_lss rfl rfl rfl ) (by first | omega ) ?_ )
            | (refine gk 3 rfl ?_; first | refine sl_op rfl rfl rfl (by first | exact opv_loadA rfl (by exact rfl) rfl (by exact rfl) (by exact rfl) ) ?_ )
            | (refine gk 4 rfl ?_; first | refine sl_op rfl rfl rfl (opv_callW rfl rfl rfl rfl rfl (Leader_P _ nilS 0 0 cb n cc cs (i : Int) (decide_eq_true hL) hcl (by omega))) ?_ | (refine sl_append rfl rfl rfl rfl rfl rfl rfl rfl rfl os (by decide) rfl (by decide) rfl (by omega) (by omega) (fun h1 b1 c1 os1 => ?_)))
            | (refine gk 5 rfl ?_; first | refine sl_buildSlice rfl rfl rfl rfl rfl (by exact rfl) (by exact rfl) (by exact rfl) (by exact rfl) rfl (fun b => ?_) )
            | refine sl_region rfl ?_
            | refine sl_nil ?_
            | refine thn_k ?_
            | refine swp_true rfl ?_
            | refine swp_block ?_
            | refine swp_skip ?_
            )
          refine sl_drawC [.q [0, 1, 3, 4], .h false 2, .h false 5, .h false 6, .q [7, 8, 9, 10, 11, 12, 13, 14, 15, 16, 17, 18, 19]] [] (by kernel_rfl) (by kernel_rfl) (by kernel_rfl) (by kernel_rfl) ?_
          repeat' (first
            | (refine gk 0 rfl ?_; first | refine sl_op rfl rfl rfl (by first | exact opv_move rfl rfl | exact opv_assign rfl rfl | exact opv_pick_f rfl rfl rfl | exact opv_not_t rfl rfl ) ?_ )
            | (refine gk 1 rfl ?_; first | refine sl_op rfl rfl rfl (by first | exact opv_add64 rfl rfl rfl (by omega) (by omega) ) ?_ )
            | (refine gk 2 rfl ?_; first | refine sl_no rfl rfl rfl (by first | exact opv_geq rfl rfl rfl ) (by first | omega ) ?_ | refine sl_ff rfl rfl rfl (by first | exact opv_neqB Try.underlying4 rfl rfl rfl ) (by first | rfl ) ?_ )
            | (refine gk 3 rfl ?_; first | refine sl_op rfl rfl rfl (by first | exact opv_loadA rfl (by exact rfl) rfl (by exact rfl) (by exact rfl) | exact opv_indexAddrI rfl rfl rfl (by omega) (by omega) (by first | (simp only [List.length_map]; omega) ) | exact opv_loadEx rfl (by exact rfl) (by infer_instance) (by first | assumption ) ) ?_ )
            | refine sl_region rfl ?_
            | refine chu_nil ?_
            | refine chu_q rfl ?_
            | (refine chu_callW rfl rfl rfl rfl rfl rfl rfl rfl (Next_W _ nilS 0 0 cb n cc cs (i : Int) hcl (by omega)) ?_; rintro _ _ ⟨hN, bN, cN, rfl, rfl, osN⟩; haveI slN := osN.sl; refine ⟨_, _, rfl, rfl, ?_⟩)
            | (refine chu_callW rfl rfl rfl rfl rfl rfl rfl rfl (rNext_W _ nilS 0 0 cb n cc cs (i : Int) hcl (by omega)) ?_; rintro _ _ ⟨hR, bR, cR, rfl, rfl, osR⟩; haveI slR := osR.sl; refine ⟨_, _, rfl, rfl, ?_⟩)
            | refine chu_PW rfl rfl rfl rfl rfl rfl rfl rfl (rSame_yes _ _ _ _ _ _ _ (nxt cs (i : Int)) (nxt cs (i : Int)) rfl rfl (by omega) rfl) ?_
            | refine sl_nil ?_
            | refine thn_k ?_
            | refine swp_false rfl ?_
            | refine swp_skip ?_
            )
          refine ⟨rfl, ⟨i + 1, m + 1, h1, b1, c1⟩, next_ok (by repeat first | exact Sub.nil _ | refine Sub.cons rfl ?_), ⟨hi, ?_⟩, by dsimp only; omega⟩
          dsimp only; rw [hls, List.map_append]; exact os1
      · rw [if_neg hL, List.append_nil] at hls
        by_cases hVi : (i : Int) ∈ V2
        · rw [decide_eq_true hVi] at hce
          have hw0 := hrf.1 hVi
          repeat' (first
            | refine swp_seq ?_
            | (refine gk 0 rfl ?_; first | refine sl_op rfl rfl rfl (by first | exact opv_move rfl rfl ) ?_ )
            | (refine gk 2 rfl ?_; first | refine sl_yes rfl rfl rfl (by first | exact opv_lss rfl rfl rfl ) (by first | omega ) ?_ )
            | (refine gk 3 rfl ?_; first | refine sl_op rfl rfl rfl (by first | exact opv_loadA rfl (by exact rfl) rfl (by exact rfl) (by exact rfl) ) ?_ )
            | (refine gk 4 rfl ?_; first | refine sl_op rfl rfl rfl (opv_callW rfl rfl rfl rfl rfl (Leader_P _ nilS 0 0 cb n cc cs (i : Int) (decide_eq_false hL) hcl (by omega))) ?_)
            | refine sl_region rfl ?_
            | refine sl_nil ?_
            | refine thn_k ?_
            | refine swp_true rfl ?_
            | refine swp_false rfl ?_
            | refine swp_block ?_
            | refine swp_skip ?_
            )
          refine sl_drawC [.q [0, 1, 3, 4], .h false 2, .h false 5, .h false 6, .q [7, 8, 9, 10, 11, 12, 13, 14, 15, 16, 17, 18, 19]] [] (by kernel_rfl) (by kernel_rfl) (by kernel_rfl) (by kernel_rfl) ?_
          repeat' (first
            | (refine gk 0 rfl ?_; first | refine sl_op rfl rfl rfl (by first | exact opv_move rfl rfl | exact opv_assign rfl rfl | exact opv_pick_f rfl rfl rfl | exact opv_not_t rfl rfl ) ?_ )
            | (refine gk 1 rfl ?_; first | refine sl_op rfl rfl rfl (by first | exact opv_add64 rfl rfl rfl (by omega) (by omega) ) ?_ )
            | (refine gk 2 rfl ?_; first | refine sl_yes rfl rfl rfl (by first | exact opv_geq rfl rfl rfl ) (by first | omega ) ?_ | refine sl_ff rfl rfl rfl (by first | exact opv_neqB Try.underlying4 rfl rfl rfl ) (by first | rfl ) ?_ )
            | (refine gk 3 rfl ?_; first | refine sl_op rfl rfl rfl (by first | exact opv_loadA rfl (by exact rfl) rfl (by exact rfl) (by exact rfl) | exact opv_indexAddrI rfl rfl rfl (by omega) (by omega) (by first | (simp only [List.length_map]; omega) ) | exact opv_loadEx rfl (by exact rfl) (by infer_instance) (by first | assumption ) ) ?_ )
            | refine sl_region rfl ?_
            | refine chu_nil ?_
            | refine chu_q rfl ?_
            | (refine chu_callW rfl rfl rfl rfl rfl rfl rfl rfl (Next_W _ nilS 0 0 cb n cc cs (i : Int) hcl (by omega)) ?_; rintro _ _ ⟨hN, bN, cN, rfl, rfl, osN⟩; haveI slN := osN.sl; refine ⟨_, _, rfl, rfl, ?_⟩)
            | (refine chu_callW rfl rfl rfl rfl rfl rfl rfl rfl (rNext_W _ nilS 0 0 cb n cc cs (i : Int) hcl (by omega)) ?_; rintro _ _ ⟨hR, bR, cR, rfl, rfl, osR⟩; haveI slR := osR.sl; refine ⟨_, _, rfl, rfl, ?_⟩)
            | refine chu_PW rfl rfl rfl rfl rfl rfl rfl rfl (rSame_yes _ _ _ _ _ _ _ (nxt cs (i : Int)) (nxt cs (i : Int)) rfl rfl (by omega) rfl) ?_
            | refine sl_nil ?_
            | refine thn_k ?_
            | refine swp_false rfl ?_
            | refine swp_skip ?_
            )
          refine ⟨rfl, ⟨i + 1, m, H, bL, cL⟩, next_ok (by repeat first | exact Sub.nil _ | refine Sub.cons rfl ?_), ⟨hi, ?_⟩, by dsimp only; omega⟩
          dsimp only; rw [hls]; exact os
        · rw [decide_eq_false hVi] at hce
          have hw0 : ¬ 0 ≤ w := fun h => hVi (hrf.2 h)
          repeat' (first
            | refine swp_seq ?_
            | (refine gk 0 rfl ?_; first | refine sl_op rfl rfl rfl (by first | exact opv_move rfl rfl ) ?_ )
            | (refine gk 2 rfl ?_; first | refine sl_yes rfl rfl rfl (by first | exact opv_lss rfl rfl rfl ) (by first | omega ) ?_ )
            | (refine gk 3 rfl ?_; first | refine sl_op rfl rfl rfl (by first | exact opv_loadA rfl (by exact rfl) rfl (by exact rfl) (by exact rfl) ) ?_ )
            | (refine gk 4 rfl ?_; first | refine sl_op rfl rfl rfl (opv_callW rfl rfl rfl rfl rfl (Leader_P _ nilS 0 0 cb n cc cs (i : Int) (decide_eq_false hL) hcl (by omega))) ?_)
            | refine sl_region rfl ?_
            | refine sl_nil ?_
            | refine thn_k ?_
            | refine swp_true rfl ?_
            | refine swp_false rfl ?_
            | refine swp_block ?_
            | refine swp_skip ?_
            )
          refine sl_drawC [.q [0, 1, 3, 4], .h false 2, .h false 5, .h false 6, .q [7, 8, 9, 10, 11, 12, 13, 14, 15, 16, 17, 18, 19]] [] (by kernel_rfl) (by kernel_rfl) (by kernel_rfl) (by kernel_rfl) ?_
          repeat' (first
            | (refine gk 0 rfl ?_; first | refine sl_op rfl rfl rfl (by first | exact opv_move rfl rfl | exact opv_assign rfl rfl | exact opv_pick_f rfl rfl rfl | exact opv_not_t rfl rfl ) ?_ )
            | (refine gk 1 rfl ?_; first | refine sl_op rfl rfl rfl (by first | exact opv_add64 rfl rfl rfl (by omega) (by omega) ) ?_ )
            | (refine gk 2 rfl ?_; first | refine sl_no rfl rfl rfl (by first | exact opv_geq rfl rfl rfl ) (by first | omega ) ?_ | refine sl_ff rfl rfl rfl (by first | exact opv_neqB Try.underlying4 rfl rfl rfl ) (by first | rfl ) ?_ )
            | (refine gk 3 rfl ?_; first | refine sl_op rfl rfl rfl (by first | exact opv_loadA rfl (by exact rfl) rfl (by exact rfl) (by exact rfl) | exact opv_indexAddrI rfl rfl rfl (by omega) (by omega) (by first | (simp only [List.length_map]; omega) ) | exact opv_loadEx rfl (by exact rfl) (by infer_instance) (by first | assumption ) ) ?_ )
            | refine sl_region rfl ?_
            | refine chu_nil ?_
            | refine chu_q rfl ?_
            | (refine chu_callW rfl rfl rfl rfl rfl rfl rfl rfl (Next_W _ nilS 0 0 cb n cc cs (i : Int) hcl (by omega)) ?_; rintro _ _ ⟨hN, bN, cN, rfl, rfl, osN⟩; haveI slN := osN.sl; refine ⟨_, _, rfl, rfl, ?_⟩)
            | (refine chu_callW rfl rfl rfl rfl rfl rfl rfl rfl (rNext_W _ nilS 0 0 cb n cc cs (i : Int) hcl (by omega)) ?_; rintro _ _ ⟨hR, bR, cR, rfl, rfl, osR⟩; haveI slR := osR.sl; refine ⟨_, _, rfl, rfl, ?_⟩)
            | refine chu_PW rfl rfl rfl rfl rfl rfl rfl rfl (rSame_yes _ _ _ _ _ _ _ (nxt cs (i : Int)) (nxt cs (i : Int)) rfl rfl (by omega) rfl) ?_
            | refine sl_nil ?_
            | refine thn_k ?_
            | refine swp_false rfl ?_
            | refine swp_skip ?_
            )
          refine ⟨rfl, ⟨i + 1, m, H, bL, cL⟩, next_ok (by repeat first | exact Sub.nil _ | refine Sub.cons rfl ?_), ⟨hi, ?_⟩, by dsimp only; omega⟩
          dsimp only; rw [hls]; exact os
    · obtain rfl : i = n := by omega
      haveI slL := os.sl
      have hx1 : (nxt cs (-1)).length = 0 := by rw [nxt_no (by omega)]; rfl
      have hx2 : (nxt cs (i : Int)).length = 0 := by rw [nxt_no (by omega)]; rfl
      have hla : leads cs = leadL cs i := by rw [← hcl]; exact leadL_all cs
      repeat' (first
        | refine swp_seq ?_
        | (refine gk 0 rfl ?_; first | refine sl_op rfl rfl rfl (by first | exact opv_move rfl rfl | exact opv_pick_f rfl rfl rfl | exact opv_not_t rfl rfl ) ?_ )
        | (refine gk 1 rfl ?_; first | refine sl_op rfl rfl rfl (by first | exact opv_add64 rfl rfl rfl (by omega) (by omega) ) ?_ )
        | (refine gk 2 rfl ?_; first | refine sl_no rfl rfl rfl (by first | exact opv_lss rfl rfl rfl | exact opv_gtr rfl rfl rfl ) (by first | omega ) ?_ )
        | (refine gk 3 rfl ?_; first | refine sl_op rfl rfl rfl (by first | exact opv_loadA rfl (by exact rfl) rfl (by exact rfl) (by exact rfl) ) ?_ )
        | (refine gk 4 rfl ?_; first | refine sl_op rfl rfl rfl (by first | exact opv_len rfl rfl rfl rfl rfl ) ?_ | (refine sl_callW rfl rfl rfl rfl rfl rfl rfl rfl (Leaders_W _ nilS 0 0 cb i cc cs hcl (by omega)) ?_; rintro _ _ ⟨hD, db, dc, rfl, rfl, osD⟩; haveI slD := osD.sl; refine ⟨_, _, rfl, rfl, ?_⟩) | refine sl_op rfl rfl rfl (opv_callW rfl rfl rfl rfl rfl (rSame_yes _ _ _ _ _ _ _ (leads cs) (leadL cs i) rfl hml (by omega) hla)) ?_ | (refine sl_callW rfl rfl rfl rfl rfl rfl rfl rfl (Next_W _ nilS 0 0 cb i cc cs (-1) hcl (by omega)) ?_; rintro _ _ ⟨hN, bN, cN, rfl, rfl, osN⟩; haveI slN := osN.sl; refine ⟨_, _, rfl, rfl, ?_⟩) | (refine sl_callW rfl rfl rfl rfl rfl rfl rfl rfl (Next_W _ nilS 0 0 cb i cc cs (i : Int) hcl (by omega)) ?_; rintro _ _ ⟨hN, bN, cN, rfl, rfl, osN⟩; haveI slN := osN.sl; refine ⟨_, _, rfl, rfl, ?_⟩))
        | refine sl_region rfl ?_
        | refine sl_nil ?_
        | refine thn_k ?_
        | refine swp_false rfl ?_
        | refine swp_exit ?_
        | refine swp_skip ?_
        )
      exact ⟨rfl, r + 1, next_ok (by repeat first | exact Sub.nil _ | refine Sub.cons rfl ?_), by omega, by omega⟩
  · repeat' (first
      | refine swp_seq ?_
      | (refine gk 0 rfl ?_; first | refine sl_op rfl rfl rfl (by first | exact opv_assign rfl rfl ) ?_ )
      | (refine gk 2 rfl ?_; first | refine sl_no rfl rfl rfl (by first | exact opv_lss rfl rfl rfl ) (by first | omega ) ?_ )
      | (refine gk 4 rfl ?_; first | refine sl_op rfl rfl rfl (opv_call rfl rfl rfl rfl rfl (run18)) ?_)
      | refine sl_region rfl ?_
      | refine sl_nil ?_
      | refine thn_k ?_
      | refine swp_false rfl ?_
      | refine swp_ret ?_
      | refine swp_exit ?_
      )
    exact end_retL [J] (resOk_one (resV_tmp rfl)) ⟨rfl, rfl⟩
end Go.Proofs.Ytgcajldkegdllaa
