/- The document's walk: events that may come, one behind the other. -/
import Derived.Test.YtimmclibnfdjhaaWD7d
import Derived.Test.YtimmclibnfdjhaaWD7w
import Derived.Test.YtimmclibnfdjhaaWW3b
set_option linter.unusedVariables false
set_option linter.unusedSimpArgs false
set_option linter.unusedSectionVars false
section
namespace Go.Proofs.Ytimmclibnfdjhaa
open Go.SL
set_option maxRecDepth 100000
set_option maxHeartbeats 16000000
attribute [local irreducible] SL.T PFn OpV SOL SWP HOp ChU
-- CHANGES 38
structure DW where
  i : Nat
  es : List Ev
  ob : Option Addr
  oc : Nat
  HD : Heap
  HW : Heap
  HP : Heap
  HT : Heap
  δ : DS
def WalkQ (BB : Heap) (t o m : Nat) (en : Ending) (w : List Heap) : Prop :=
  ∃ N b c es, en = .returned (.slice b es.length c) ∧ w = [BB, N] ∧ OS N b es.length c 37 8 (evs es) ∧ es.length ≤ m ∧ (takesD (newD t o) es).1 = true
theorem dwalk_calls {BB : Heap} {bb : Option Addr} {m c : Nat} {zs : List Nat} [slB : Sl BB bb (zs.map fun z : Nat => Value.int .u8 (z : Int))] (hz : ∀ z ∈ zs, z < 256) (hm : zs.length = m) (hms : m ≤ 1000) (t o : Nat) (ht1 : 1 ≤ t) (ht : t ≤ 100) (ho1 : 1 ≤ o) (ho : o ≤ 100) :
    SL.T Try.prog 24 [.slice bb m c, i64 (t : Int), i64 (o : Int)] [BB] (WalkQ BB t o m) := by
  have hN := dnew_calls t o ht1 ht ho1 ho
  have hzl : (zs.map fun z : Nat => Value.int .u8 (z : Int)).length = m := by simp [hm]
  unfold WalkQ
  refine t_of_body Try.func24 rfl (Nat.le_of_ble_eq_true rfl) fun F => ?_
  repeat' (first
    | refine swp_seq ?_
    | (refine gk 0 rfl ?_; first | refine sl_op rfl rfl rfl (by first | exact opv_move rfl rfl | exact opv_assign rfl rfl ) ?_ )
    | (refine gk 4 rfl ?_; first | (refine sl_callT rfl rfl rfl rfl rfl rfl rfl rfl (hN) ?_; rintro _ _ ⟨βd, b1, b2, b3, c1, HW, HP, HT, rfl, rfl, mm, n1, n2, n3⟩; refine ⟨_, _, rfl, rfl, ?_⟩))
    | refine sl_region rfl ?_
    | refine sl_nil ?_
    | refine thn_k ?_
    | refine swp_block ?_
    )
  refine swp_emp ?_
  have e0 : specD βd b1 b2 b3 t o c1 o t 0 = specD βd b1 b2 b3 t o c1 o t (newD t o).rel := rfl
  rw [e0]
  refine swp_loopS (fun s : DW => [(0, .slice bb m c), (1, i64 (t : Int)), (2, i64 (o : Int)), (7, ptr βd), (8, .slice s.ob s.es.length s.oc), (9, i64 (s.i : Int))])
    (fun s => [s.HD, specD βd b1 b2 b3 t o c1 o t s.δ.rel, s.HW, s.HP, s.HT, BB])
    (fun s => s.es.length ≤ s.i ∧ s.i ≤ m ∧ OS s.HD s.ob s.es.length s.oc 37 8 (evs s.es) ∧ MemD b1 b2 b3 t o c1 o t s.HW s.HP s.HT s.δ ∧ takesD (newD t o) s.es = (true, s.δ))
    (fun s => m - s.i) ⟨0, [], none, 0, emp, HW, HP, HT, newD t o⟩ (by repeat first | exact Sub.nil _ | refine Sub.cons rfl ?_) ⟨Nat.zero_le _, Nat.zero_le _, OS.nil, mm, rfl⟩ ?_
  clear mm HW HP HT
  rintro ⟨i, es, ob, oc, HD, HW, HP, HT, δ⟩ ⟨hel, hem, osD, mm, hF⟩
  dsimp only at hel hem osD mm hF ⊢
  by_cases hi : i + 2 < m
  · obtain ⟨z0, h0⟩ : ∃ z, zs[i]? = some z := ⟨_, List.getElem?_eq_getElem (by omega)⟩
    obtain ⟨z1, h1⟩ : ∃ z, zs[i + 1]? = some z := ⟨_, List.getElem?_eq_getElem (by omega)⟩
    obtain ⟨z2, h2⟩ : ∃ z, zs[i + 2]? = some z := ⟨_, List.getElem?_eq_getElem (by omega)⟩
    have g0 := hz _ (List.mem_of_getElem? h0)
    have g1 := hz _ (List.mem_of_getElem? h1)
    have g2 := hz _ (List.mem_of_getElem? h2)
    have e0 : ((i : Nat) : Int).toNat * 1 = i := by simp
    have e1 : ((i : Int) + 1).toNat * 1 = i + 1 := by omega
    have e2 : ((i : Int) + 2).toNat * 1 = i + 2 := by omega
    have c0 : (zs.map fun z : Nat => Value.int .u8 (z : Int))[((i : Nat) : Int).toNat * 1]? = some (.int .u8 (z0 : Int)) := by rw [e0]; simp [h0]
    have c1' : (zs.map fun z : Nat => Value.int .u8 (z : Int))[((i : Int) + 1).toNat * 1]? = some (.int .u8 (z1 : Int)) := by rw [e1]; simp [h1]
    have c2' : (zs.map fun z : Nat => Value.int .u8 (z : Int))[((i : Int) + 2).toNat * 1]? = some (.int .u8 (z2 : Int)) := by rw [e2]; simp [h2]
    have hw0 : Value.int .i64 (IntKind.i64.wrap ((z0 : Nat) : Int)) = .int .i64 ((z0 : Nat) : Int) := by rw [wrapN (by omega)]
    have hrm : Value.int .i64 (((z0 : Nat) : Int).tmod (t : Int)) = i64 ((z0 % t : Nat) : Int) := by rw [tm (by omega)]; rfl
    have hzt : z0 % t < t := Nat.mod_lt _ (by omega)
    have hX := dnext_calls (βd := βd) z1 z2 g1 g2 mm (by omega) (by omega) (by omega) (by omega) hzt
    have hTk := fun e : Ev => dtake_calls (βd := βd) (e := e) mm (by omega) (by omega)
    repeat' (first
      | refine swp_seq ?_
      | (refine gk 0 rfl ?_; first | refine sl_op rfl rfl rfl (by first | exact opv_move rfl rfl ) ?_ )
      | (refine gk 1 rfl ?_; first | refine sl_op rfl rfl rfl (by first | exact opv_add64 rfl rfl rfl (by omega) (by omega) ) ?_ )
      | (refine gk 2 rfl ?_; first | refine sl_yes rfl rfl rfl (by first | exact opv_lss rfl rfl rfl ) (by first | omega ) ?_ )
      | (refine gk 4 rfl ?_; first | refine sl_op rfl rfl rfl (by first | exact opv_len rfl rfl rfl rfl rfl ) ?_)
      | refine sl_region rfl ?_
      | refine sl_nil ?_
      | refine thn_k ?_
      | refine swp_true rfl ?_
      | refine swp_block ?_
      | refine swp_skip ?_
      )
    refine sl_drawC [.q [0, 1, 2, 3, 4, 5, 6, 7, 8, 9, 10, 11, 12, 13, 14, 15, 16, 17], .an 22, .h false 18, .q [19, 20], .f [21], .rv 22, .h true 23, .q [24]] [] (by kernel_rfl) (by kernel_rfl) (by kernel_rfl) (by kernel_rfl) ?_
    repeat' (first
      | refine sl_op rfl rfl rfl ((opv_convert rfl rfl).to hw0) ?_
      | refine sl_op rfl rfl rfl ((opv_rem rfl rfl rfl (by omega)).to hrm) ?_
      | refine swp_seq ?_
      | (refine gk 0 rfl ?_; first | refine sl_op rfl rfl rfl (by first | exact opv_move rfl rfl | exact opv_assign rfl rfl | exact opv_extract rfl rfl rfl ) ?_ )
      | (refine gk 1 rfl ?_; first | refine sl_op rfl rfl rfl (by first | exact opv_add64 rfl rfl rfl (by omega) (by omega) ) ?_ )
      | (refine gk 3 rfl ?_; first | refine sl_op rfl rfl rfl (by first | exact opv_indexAddrI rfl rfl rfl (by omega) (by omega) (by first | omega ) | exact opv_loadEx rfl (by exact rfl) (by infer_instance) (by first | assumption ) ) ?_ )
      | refine sl_region rfl ?_
      | refine chu_nil ?_
      | refine chu_q rfl ?_
      | refine chu_f rfl ?_
      | refine chu_new rfl rfl (by first | exact new_alloc rfl (by exact rfl) ) ?_
      | refine chu_rv rfl rfl rfl (fun β => ?_)
      | refine chu_store rfl rfl rfl rfl rfl rfl (by exact rfl) rfl (by exact rfl) (by exact rfl) ?_
      | (refine chu_T rfl rfl rfl rfl rfl rfl rfl rfl (hX) (by rintro _ _ ⟨ev, is, rfl, rfl⟩; exact ⟨_, rfl⟩) ?_; rintro _ _ ⟨ev, is, rfl, rfl⟩; refine ⟨_, _, rfl, rfl, ?_⟩)
      | refine sl_nil ?_
      )
    cases is with
    | false =>
      repeat' (first
        | (refine gk 0 rfl ?_; first | refine sl_op rfl rfl rfl (by first | exact opv_move rfl rfl | exact opv_assign rfl rfl | exact opv_pick_f rfl rfl rfl ) ?_ | refine sl_pass rfl rfl rfl rfl ?_)
        | (refine gk 1 rfl ?_; first | refine sl_op rfl rfl rfl (by first | exact opv_add64 rfl rfl rfl (by omega) (by omega) ) ?_ )
        | (refine gk 3 rfl ?_; first | refine sl_pass rfl rfl rfl rfl ?_)
        | (refine gk 4 rfl ?_; first | refine sl_pass rfl rfl rfl rfl ?_ )
        | refine sl_region rfl ?_
        | refine sl_nil ?_
        | refine thn_k ?_
        | refine swp_false rfl ?_
        | refine swp_skip ?_
        )
      exact ⟨rfl, ⟨i + 3, es, ob, oc, HD, HW, HP, HT, δ⟩, next_ok (by repeat first | exact Sub.nil _ | refine Sub.cons rfl ?_), ⟨by dsimp only; omega, by dsimp only; omega, osD, mm, hF⟩, by dsimp only; omega⟩
    | true =>
      cases hr : takeD δ ev with
      | mk v δ' =>
        have hTi := dtake_is (βd := βd) ev n3 n1 n2 mm (by omega) (by omega) hr
        cases v with
        | false =>
          have hd : δ' = δ := by
            have := takeD_no (δ := δ) (e := ev) (by rw [hr])
            rw [hr] at this; exact this
          subst hd
          repeat' (first
            | (refine gk 0 rfl ?_; first | refine sl_op rfl rfl rfl (by first | exact opv_move rfl rfl | exact opv_assign rfl rfl | exact opv_pick_t rfl rfl rfl ) ?_ )
            | (refine gk 1 rfl ?_; first | refine sl_op rfl rfl rfl (by first | exact opv_add64 rfl rfl rfl (by omega) (by omega) ) ?_ )
            | (refine gk 3 rfl ?_; first | refine sl_op rfl rfl rfl (by first | exact opv_loadA rfl (by exact rfl) rfl (by exact rfl) (by exact rfl) ) ?_ )
            | (refine gk 4 rfl ?_; first | (refine sl_callT rfl rfl rfl rfl rfl rfl rfl rfl (hTi) ?_; rintro _ _ ⟨rfl, HW2, HP2, HT2, rfl, mm2⟩; refine ⟨_, _, rfl, rfl, ?_⟩))
            | refine sl_region rfl ?_
            | refine sl_nil ?_
            | refine thn_k ?_
            | refine swp_false rfl ?_
            | refine swp_skip ?_
            )
          exact ⟨rfl, ⟨i + 3, es, ob, oc, HD, HW2, HP2, HT2, δ'⟩, next_ok (by repeat first | exact Sub.nil _ | refine Sub.cons rfl ?_), ⟨by dsimp only; omega, by dsimp only; omega, osD, mm2, hF⟩, by dsimp only; omega⟩
        | true =>
          repeat' (first
            | (refine gk 0 rfl ?_; first | refine sl_op rfl rfl rfl (by first | exact opv_move rfl rfl | exact opv_assign rfl rfl | exact opv_pick_t rfl rfl rfl ) ?_ )
            | (refine gk 1 rfl ?_; first | refine sl_op rfl rfl rfl (by first | exact opv_add64 rfl rfl rfl (by omega) (by omega) ) ?_ )
            | (refine gk 3 rfl ?_; first | refine sl_op rfl rfl rfl (by first | exact opv_loadA rfl (by exact rfl) rfl (by exact rfl) (by exact rfl) ) ?_ )
            | (refine gk 4 rfl ?_; first | (refine sl_callT rfl rfl rfl rfl rfl rfl rfl rfl (hTi) ?_; rintro _ _ ⟨rfl, HW2, HP2, HT2, rfl, mm2⟩; refine ⟨_, _, rfl, rfl, ?_⟩) | refine sl_appendG rfl rfl rfl rfl rfl rfl rfl rfl rfl (by assumption) (by first | rfl ) (by decide) (by first | rfl ) (by omega) (by omega) (fun hD2 ob2 oc2 osD2 hb2 => ?_))
            | (refine gk 5 rfl ?_; first | refine sl_buildSlice rfl rfl rfl rfl rfl (by exact rfl) (by exact rfl) (by exact rfl) (by exact rfl) rfl (fun b => ?_) )
            | refine sl_region rfl ?_
            | refine sl_nil ?_
            | refine thn_k ?_
            | refine swp_true rfl ?_
            )
          have hsn : takesD (newD t o) (es ++ [ev]) = (true, δ') := by
            have := takesD_snoc (e := ev) hF (by rw [hr])
            rw [hr] at this; exact this
          have e3 : (es ++ [ev]).length = es.length + 1 := by simp
          rw [← evs_snoc, ← e3] at osD2
          rw [← e3]
          exact ⟨rfl, ⟨i + 3, es ++ [ev], ob2, oc2, hD2, HW2, HP2, HT2, δ'⟩, next_ok (by repeat first | exact Sub.nil _ | refine Sub.cons rfl ?_), ⟨by dsimp only; omega, by dsimp only; omega, osD2, mm2, hsn⟩, by dsimp only; omega⟩
  · repeat' (first
      | refine swp_seq ?_
      | (refine gk 0 rfl ?_; first | refine sl_op rfl rfl rfl (by first | exact opv_move rfl rfl | exact opv_assign rfl rfl ) ?_ )
      | (refine gk 1 rfl ?_; first | refine sl_op rfl rfl rfl (by first | exact opv_add64 rfl rfl rfl (by omega) (by omega) ) ?_ )
      | (refine gk 2 rfl ?_; first | refine sl_no rfl rfl rfl (by first | exact opv_lss rfl rfl rfl ) (by first | omega ) ?_ )
      | (refine gk 4 rfl ?_; first | refine sl_op rfl rfl rfl (by first | exact opv_len rfl rfl rfl rfl rfl ) ?_)
      | refine sl_region rfl ?_
      | refine sl_nil ?_
      | refine thn_k ?_
      | refine swp_false rfl ?_
      | refine swp_ret ?_
      | refine swp_exit ?_
      )
    exact end_retL [BB, HD] (resOk_one (resV_tmp rfl)) ⟨HD, ob, oc, es, rfl, rfl, osD, by omega, by rw [hF]⟩
end Go.Proofs.Ytimmclibnfdjhaa
end
section
/- How many threads and objects are drawn. -/
namespace Go.Proofs.Ytimmclibnfdjhaa
open Go.SL
set_option maxRecDepth 100000
set_option maxHeartbeats 16000000
attribute [local irreducible] SL.T PFn OpV SOL SWP HOp ChU
abbrev nT (a : Nat) : Nat := 1 + a % 4
abbrev nO (b : Nat) : Nat := 1 + b % 3
theorem size_calls (a b : Nat) (ha : a < 256) (hb : b < 256) (bb : Option Addr) (bl bc : Nat) : PFn Try.prog 8 [.agg ⟨[.int .u8 (a : Int), .int .u8 (b : Int), .slice bb bl bc]⟩] [] (.tuple #[i64 ((nT a : Nat) : Int), i64 ((nO b : Nat) : Int)]) := by
  have ra : Value.int .u8 (((a : Nat) : Int).tmod 4) = .int .u8 ((a % 4 : Nat) : Int) := by rw [show (4 : Int) = ((4 : Nat) : Int) from rfl, tm (by omega)]; rfl
  have rb : Value.int .u8 (((b : Nat) : Int).tmod 3) = .int .u8 ((b % 3 : Nat) : Int) := by rw [show (3 : Int) = ((3 : Nat) : Int) from rfl, tm (by omega)]; rfl
  have wa : Value.int .i64 (IntKind.i64.wrap ((a % 4 : Nat) : Int)) = .int .i64 ((a % 4 : Nat) : Int) := by rw [wrapN (by omega)]
  have wb : Value.int .i64 (IntKind.i64.wrap ((b % 3 : Nat) : Int)) = .int .i64 ((b % 3 : Nat) : Int) := by rw [wrapN (by omega)]
  have ea : (1 : Int) + ((a % 4 : Nat) : Int) = ((nT a : Nat) : Int) := by unfold nT; omega
  have eb : (1 : Int) + ((b % 3 : Nat) : Int) = ((nO b : Nat) : Int) := by unfold nO; omega
  refine pure_of_body Try.func8 rfl (Nat.le_of_ble_eq_true rfl) fun F => ?_
  repeat' (first
    | refine sl_op rfl rfl rfl ((opv_rem rfl rfl rfl (by decide)).to ra) ?_
    | refine sl_op rfl rfl rfl ((opv_rem rfl rfl rfl (by decide)).to rb) ?_
    | refine sl_op rfl rfl rfl ((opv_convert rfl rfl).to wa) ?_
    | refine sl_op rfl rfl rfl ((opv_convert rfl rfl).to wb) ?_
    | refine swp_seq ?_
    | (refine gk 0 rfl ?_; first | refine sl_op rfl rfl rfl (by first | exact opv_assign rfl rfl ) ?_ )
    | (refine gk 1 rfl ?_; first | refine sl_op rfl rfl rfl (by first | exact opv_add64 rfl rfl rfl (by omega) (by omega) ) ?_ )
    | (refine gk 3 rfl ?_; first | refine sl_op rfl rfl rfl (by first | exact opv_load rfl (by exact rfl) rfl (by exact rfl) | exact opv_fieldAddr rfl rfl ) ?_ )
    | (refine gk 5 rfl ?_; first | refine sl_box rfl rfl rfl rfl rfl rfl (fun β => ?_) )
    | refine sl_region rfl ?_
    | refine sl_draw (by kernel_rfl) (by kernel_rfl) rfl ?_
    | refine sl_nil ?_
    | refine thn_k ?_
    | refine swp_ret ?_
    )
  refine end_pure (resOk_two (resV_tmp rfl) (resV_tmp rfl)) ?_
  rw [ea, eb]
end Go.Proofs.Ytimmclibnfdjhaa
end
section
/- The events that are drawn. -/
namespace Go.Proofs.Ytimmclibnfdjhaa
open Go.SL
set_option maxRecDepth 100000
set_option maxHeartbeats 16000000
attribute [local irreducible] SL.T PFn OpV SOL SWP HOp ChU
theorem drawnwalk_calls {BB : Heap} {bb : Option Addr} {bl bc : Nat} {zs : List Nat} (a b : Nat) (ha : a < 256) (hb : b < 256) [slB : Sl BB bb (zs.map fun z : Nat => Value.int .u8 (z : Int))] (hz : ∀ z ∈ zs, z < 256) (hm : zs.length = bl) (hbc : bl ≤ bc) (hml : bl ≤ 9223372036854775807) :
    SL.T Try.prog 10 [.agg ⟨[.int .u8 (a : Int), .int .u8 (b : Int), .slice bb bl bc]⟩] [BB] (WalkQ BB (nT a) (nO b) (min bl 600)) := by
  have hs := size_calls a b ha hb bb bl bc
  have hnT : 1 ≤ nT a ∧ nT a ≤ 4 := by unfold nT; omega
  have hnO : 1 ≤ nO b ∧ nO b ≤ 3 := by unfold nO; omega
  haveI slB2 : Sl BB bb ((zs.take (min bl 600)).map fun z : Nat => Value.int .u8 (z : Int)) := by
    have := Sl.take slB (min bl 600)
    rwa [← List.map_take] at this
  have hW := dwalk_calls (BB := BB) (bb := bb) (m := min bl 600) (c := bc) (zs := zs.take (min bl 600)) (fun z h => hz z (List.mem_of_mem_take h)) (by simp [hm]) (by omega) (nT a) (nO b) hnT.1 (by omega) hnO.1 (by omega)
  have hmn : Value.int .i64 (min ((bl : Nat) : Int) 600) = .int .i64 ((min bl 600 : Nat) : Int) := by
    congr 1; omega
  unfold WalkQ at hW ⊢
  refine t_of_body Try.func10 rfl (Nat.le_of_ble_eq_true rfl) fun F => ?_
  repeat' (first
    | refine sl_op rfl rfl rfl ((opv_min rfl rfl rfl rfl rfl).to hmn) ?_
    | refine swp_seq ?_
    | (refine gk 0 rfl ?_; first | refine sl_op rfl rfl rfl (by first | exact opv_move rfl rfl | exact opv_assign rfl rfl | exact opv_extract rfl rfl rfl ) ?_ )
    | (refine gk 3 rfl ?_; first | refine sl_op rfl rfl rfl (by first | exact opv_load rfl (by exact rfl) rfl (by exact rfl) | exact opv_fieldAddr rfl rfl | exact opv_loadA rfl (by exact rfl) rfl (by exact rfl) (by exact rfl) ) ?_ )
    | (refine gk 4 rfl ?_; first | refine sl_op rfl rfl rfl (by first | exact opv_len rfl rfl rfl rfl rfl ) ?_ | refine sl_op rfl rfl rfl (opv_call rfl rfl rfl rfl rfl (hs)) ?_ | (refine sl_callT rfl rfl rfl rfl rfl rfl rfl rfl (hW) ?_; rintro _ _ ⟨N, b2, c2, es, rfl, rfl, os2, hl2, ht2⟩; refine ⟨_, _, rfl, rfl, ?_⟩))
    | (refine gk 5 rfl ?_; first | refine sl_op rfl rfl rfl (by first | exact opv_sliceHi rfl rfl rfl (by omega) (by omega) ) ?_ | refine sl_box rfl rfl rfl rfl rfl rfl (fun β => ?_) )
    | refine sl_region rfl ?_
    | refine sl_nil ?_
    | refine thn_k ?_
    | refine swp_ret ?_
    )
  exact end_retL [BB, N] (resOk_one (resV_tmp rfl)) ⟨N, b2, c2, es, rfl, rfl, os2, hl2, ht2⟩
end Go.Proofs.Ytimmclibnfdjhaa
end
