/- SpecOwns, walked. -/
import Derived.Test.YtimmclibnfdjhaaWO4p
import Derived.Test.YtimmclibnfdjhaaWC2
import Derived.Test.YtimmclibnfdjhaaWD9
import Derived.Test.YtimmclibnfdjhaaWB21
set_option linter.unusedVariables false
set_option linter.unusedSimpArgs false
set_option linter.unusedSectionVars false
namespace Go.Proofs.Ytimmclibnfdjhaa
open Go.SL
set_option maxRecDepth 100000
set_option maxHeartbeats 16000000
attribute [local irreducible] SL.T PFn OpV SOL SWP HOp ChU
structure LO where
  j : Nat
  δ : DS
  σ : St
  g : Nat → Nat → Int
  s : Nat → Nat → Int
  HT : Heap
  HO : Heap
  OP : Heap
  HG : Heap
  HS : Heap
structure LJ where
  HG : Heap
  HS : Heap
structure LX where
  o : Nat
  HX : Heap
structure LM where
  t : Nat
  sm : Int
theorem owns_calls {BB : Heap} {bb : Option Addr} {bl bc : Nat} {zs : List Nat} (a b : Nat) (ha : a < 256) (hb : b < 256) [slB : Sl BB bb (zs.map fun z : Nat => Value.int .u8 (z : Int))] (hz : ∀ z ∈ zs, z < 256) (hm : zs.length = bl) (hbc : bl ≤ bc) (hml : bl ≤ 9223372036854775807) :
    PFn Try.prog 3 [.agg ⟨[.int .u8 (a : Int), .int .u8 (b : Int), .slice bb bl bc]⟩] [BB] (.bool true) := by
  have hw := works_calls
  have hs := size_calls a b ha hb bb bl bc
  have hD := drawnwalk_calls (BB := BB) (bb := bb) (bc := bc) a b ha hb hz hm hbc hml
  unfold WalkQ at hD
  have hnT : 1 ≤ nT a ∧ nT a ≤ 4 := by unfold nT; omega
  have hnO : 1 ≤ nO b ∧ nO b ≤ 3 := by unfold nO; omega
  have hN := new_any (nT a) (nO b) hnT.1 (by omega) hnO.1 hnO.2
  generalize nT a = n at hs hD hnT hN
  generalize nO b = kk at hs hD hnO hN
  have e0 : ∀ βs bt bo, specB βs bt bo n n kk kk 0 = specB βs bt bo n n kk kk (newF n kk).rel := fun _ _ _ => rfl
  simp only [e0] at hN
  clear e0
  have hnk : n * kk ≤ 12 := Nat.mul_le_mul hnT.2 hnO.2
  have hmul : Value.int .i64 (IntKind.i64.wrap ((n : Int) * (kk : Int))) = i64 ((n * kk : Nat) : Int) := by rw [← Int.natCast_mul, wrapN (by omega)]
  refine pure_of_body Try.func3 rfl (Nat.le_of_ble_eq_true rfl) fun F => ?_
  repeat' (first
    | refine swp_seq ?_
    | (refine gk 0 rfl ?_; first | refine sl_op rfl rfl rfl (by first | exact opv_move rfl rfl | exact opv_assign rfl rfl | exact opv_not_t rfl rfl | exact opv_extract rfl rfl rfl ) ?_ )
    | (refine gk 3 rfl ?_; first | refine sl_op rfl rfl rfl (by first | exact opv_loadA rfl (by exact rfl) rfl (by exact rfl) (by exact rfl) ) ?_ )
    | (refine gk 4 rfl ?_; first | refine sl_op rfl rfl rfl (opv_call rfl rfl rfl rfl rfl (hw)) ?_ | refine sl_op rfl rfl rfl (opv_call rfl rfl rfl rfl rfl (hs)) ?_ | (refine sl_callT rfl rfl rfl rfl rfl rfl rfl rfl (hN) ?_; rintro _ _ ⟨βs, bt, bo, HT, HO, OP, rfl, rfl, au⟩; refine ⟨_, _, rfl, rfl, ?_⟩))
    | (refine gk 5 rfl ?_; first | refine sl_box rfl rfl rfl rfl rfl rfl (fun β => ?_) )
    | refine sl_region rfl ?_
    | refine sl_nil ?_
    | refine thn_k ?_
    | refine swp_false rfl ?_
    | refine swp_skip ?_
    )
  refine sl_drawC [.q [0, 1, 2], .an 3, .q [4, 5, 6], .an 7, .rv 3, .q [8], .rv 7, .q [9]] [] (by kernel_rfl) (by kernel_rfl) (by kernel_rfl) (by kernel_rfl) ?_
  repeat' (first
    | refine sl_op rfl rfl rfl ((opv_mul rfl rfl rfl).to hmul) ?_
    | refine swp_seq ?_
    | (refine gk 0 rfl ?_; first | refine sl_op rfl rfl rfl (by first | exact opv_move rfl rfl | exact opv_assign rfl rfl ) ?_ )
    | (refine gk 3 rfl ?_; first | refine sl_op rfl rfl rfl (by first | exact opv_loadA rfl (by exact rfl) rfl (by exact rfl) (by exact rfl) ) ?_ )
    | (refine gk 4 rfl ?_; first | (refine sl_callT rfl rfl rfl rfl rfl rfl rfl rfl (hD) ?_; rintro _ _ ⟨N, be, ce, es, rfl, rfl, osE, hel, htk⟩; refine ⟨_, _, rfl, rfl, ?_⟩))
    | refine sl_region rfl ?_
    | refine chu_nil ?_
    | refine chu_q rfl ?_
    | refine chu_new rfl rfl (by first | exact new_makeSlice rfl rfl rfl rfl (by omega) (by omega) ) ?_
    | refine chu_rv rfl rfl rfl (fun β => ?_)
    | refine sl_nil ?_
    | refine thn_k ?_
    | refine swp_block ?_
    )
  rename_i βx βg
  generalize β = βz
  have hes : es.length ≤ 600 := by omega
  have e1 : rowV (n * kk) (fl kk fun _ _ => 0) = List.replicate (n * kk) (i64 0) := (rowV_new (n * kk)).symm
  have osG0 : OS (blk βg (.cells ⟨List.replicate (n * kk) (i64 0)⟩ 3 (0, 0))) (some ⟨βg, 0, none⟩) (n * kk) (n * kk) 3 1 (rowV (n * kk) (fl kk fun _ _ => 0)) := by rw [e1]; exact OS.blk (by simp)
  have osS0 : OS (blk βz (.cells ⟨List.replicate (n * kk) (i64 0)⟩ 3 (0, 0))) (some ⟨βz, 0, none⟩) (n * kk) (n * kk) 3 1 (rowV (n * kk) (fl kk fun _ _ => 0)) := by rw [e1]; exact OS.blk (by simp)
  refine swp_loopS (fun s : LO => [(3, i64 (n : Int)), (4, i64 (kk : Int)), (5, ptr βs), (6, .slice (some ⟨βg, 0, none⟩) (n * kk) (n * kk)), (7, .slice (some ⟨βz, 0, none⟩) (n * kk) (n * kk)), (8, .slice be es.length ce), (9, i64 (s.j : Int))])
    (fun s => [BB, N, specB βs bt bo n n kk kk s.σ.rel, s.HT, s.HO, s.OP, s.HG, s.HS])
    (fun s => s.j ≤ es.length ∧ Au bt bo n n kk kk s.HT s.HO s.OP s.σ ∧ Rl s.σ s.δ ∧ (takesD s.δ (es.drop s.j)).1 = true ∧ Ow n kk (s.j : Int) s.σ s.g s.s ∧ OS s.HG (some ⟨βg, 0, none⟩) (n * kk) (n * kk) 3 1 (rowV (n * kk) (fl kk s.g)) ∧ OS s.HS (some ⟨βz, 0, none⟩) (n * kk) (n * kk) 3 1 (rowV (n * kk) (fl kk s.s)))
    (fun s => es.length - s.j) ⟨0, newD n kk, newF n kk, fun _ _ => 0, fun _ _ => 0, HT, HO, OP, blk βg (.cells ⟨List.replicate (n * kk) (i64 0)⟩ 3 (0, 0)), blk βz (.cells ⟨List.replicate (n * kk) (i64 0)⟩ 3 (0, 0))⟩ (by repeat first | exact Sub.nil _ | refine Sub.cons rfl ?_) ⟨Nat.zero_le _, au, new_rel n kk, htk, ow_new n kk, osG0, osS0⟩ ?_
  clear osG0 osS0 au HT HO OP e1 hN hD hs hw hmul htk
  rintro ⟨j, δ, σ, g, s, HT, HO, OP, HG, HS⟩ ⟨hj, au, rl, htk, ow, osG, osS⟩
  dsimp only at hj au rl htk ow osG osS ⊢
  have slE := osE.sl
  have hlen := osE.hlen
  by_cases hj2 : j < es.length
  · obtain ⟨ev, hev⟩ : ∃ ev, es[j]? = some ev := ⟨_, List.getElem?_eq_getElem hj2⟩
    have hd : es.drop j = ev :: es.drop (j + 1) := by
      rw [List.drop_eq_getElem_cons hj2, (List.getElem?_eq_some_iff.1 hev).2]
    rw [hd, takesD] at htk
    have hde : (takeD δ ev).1 = true := by
      split at htk
      · assumption
      · cases htk
    rw [if_pos hde] at htk
    obtain ⟨hfe, rl2⟩ := bis rl au.wf ev hde
    obtain ⟨ow2, hrg⟩ := take_ow rl au.wf ow (by omega) (by omega) hfe
    have hF : takeF σ ev = (true, (takeF σ ev).2) := Prod.ext hfe rfl
    have hgb : ∀ t o, t < n → o < kk → 0 ≤ g t o ∧ g t o ≤ 1000 := fun t o ht ho => by
      have hol := ow.ol
      obtain ⟨p, hp⟩ : ∃ p, σ.ob[o]? = some p := ⟨_, List.getElem?_eq_getElem (by omega)⟩
      have h1 := ow.own o p hp
      rw [ow.dep o t p hp ht]
      split <;> omega
    generalize (takeF σ ev).2 = σ2 at hF ow2 rl2
    generalize (takeD δ ev).2 = δ2 at htk rl2
    have hea := evs_at hev
    have hil : ((j : Nat) : Int).toNat * 8 < (evs es).length := by rw [hlen]; simp; omega
    repeat' ((fail_if_success (refine stop_at 13 ?_)); (first
      | refine sl_op rfl rfl rfl (opv_loadEA (vs := ecells ev) rfl rfl (Nat.succ_pos _) rfl hea) ?_
      | refine swp_seq ?_
      | (refine gk 0 rfl ?_; first | refine sl_op rfl rfl rfl (by first | exact opv_move rfl rfl | exact opv_not_t rfl rfl ) ?_ )
      | (refine gk 2 rfl ?_; first | refine sl_yes rfl rfl rfl (by first | exact opv_lss rfl rfl rfl ) (by first | omega ) ?_ )
      | (refine gk 3 rfl ?_; first | refine sl_op rfl rfl rfl (by first | exact opv_loadA rfl (by exact rfl) rfl (by exact rfl) (by exact rfl) | exact opv_indexAddrI rfl rfl rfl (by omega) (by omega) (by first | omega ) ) ?_ )
      | (refine gk 4 rfl ?_; first | refine sl_op rfl rfl rfl (by first | exact opv_len rfl rfl rfl rfl rfl ) ?_ | (refine sl_callT rfl rfl rfl rfl rfl rfl rfl rfl (take_is ev (ecells ev) au (by omega) (by omega) rfl hF rfl rfl) ?_; rintro _ _ ⟨rfl, HT2, HO2, OP2, rfl, au2⟩; refine ⟨_, _, rfl, rfl, ?_⟩))
      | (refine gk 5 rfl ?_; first | refine sl_alloc rfl rfl rfl rfl (by exact rfl) (fun β => ?_) | refine sl_store rfl rfl rfl rfl rfl rfl (by exact rfl) rfl (by exact rfl) ?_)
      | refine sl_region rfl ?_
      | refine sl_nil ?_
      | refine thn_k ?_
      | refine swp_true rfl ?_
      | refine swp_false rfl ?_
      | refine swp_block ?_
      | refine swp_skip ?_
      ))
    clear slE au hF hea hil HT HO OP
    refine thn_k ?_
    refine swp_seq ?_
    refine swp_joinS (fun _ : LJ => [(3, i64 (n : Int)), (4, i64 (kk : Int)), (5, ptr βs), (6, .slice (some ⟨βg, 0, none⟩) (n * kk) (n * kk)), (7, .slice (some ⟨βz, 0, none⟩) (n * kk) (n * kk)), (8, .slice be es.length ce), (9, i64 (j : Int))]) (fun s' => [BB, N, specB βs bt bo n n kk kk σ2.rel, HT2, HO2, OP2, s'.HG, s'.HS])
      (fun s' => OS s'.HG (some ⟨βg, 0, none⟩) (n * kk) (n * kk) 3 1 (rowV (n * kk) (fl kk (gE ev g s))) ∧ OS s'.HS (some ⟨βz, 0, none⟩) (n * kk) (n * kk) 3 1 (rowV (n * kk) (fl kk (sE ev g s)))) ?_ ?_
    · haveI slG := osG.sl
      haveI slS := osS.sl
      have lG := rowV_length (n * kk) (fl kk g)
      have lS := rowV_length (n * kk) (fl kk s)
      by_cases k1 : ev.kind = 1
      · obtain ⟨r1, r2, r3, r4⟩ := hrg k1
        have hKl : ev.thread.toNat * kk + ev.obj.toNat < n * kk := ix_lt (by omega) (by omega)
        have hTk : ev.thread.toNat * kk ≤ 12 := by omega
        have hix : Value.int .i64 (IntKind.i64.wrap (ev.thread * (kk : Int))) = i64 ((ev.thread.toNat * kk : Nat) : Int) := by
          have e : ev.thread * (kk : Int) = ((ev.thread.toNat * kk : Nat) : Int) := by rw [Int.natCast_mul, Int.toNat_of_nonneg r1]
          rw [e, wrapN (by omega)]
        have hadd : Value.int .i64 (((ev.thread.toNat * kk : Nat) : Int) + ev.obj) = i64 ((ev.thread.toNat * kk + ev.obj.toNat : Nat) : Int) := by
          congr 1; rw [Int.natCast_add, Int.toNat_of_nonneg r3]
        have hGt : (rowV (n * kk) (fl kk g))[((ev.thread.toNat * kk + ev.obj.toNat : Nat) : Int).toNat * 1]? = some (i64 (g ev.thread.toNat ev.obj.toNat)) := by rw [rowV_at hKl, fl_at (by omega)]
        have hSt : (rowV (n * kk) (fl kk s))[((ev.thread.toNat * kk + ev.obj.toNat : Nat) : Int).toNat * 1]? = some (i64 (s ev.thread.toNat ev.obj.toNat)) := by rw [rowV_at hKl, fl_at (by omega)]
        have hgb2 := hgb ev.thread.toNat ev.obj.toNat (by omega) (by omega)
        have hGl : ((ev.thread.toNat * kk + ev.obj.toNat : Nat) : Int).toNat * 1 < (rowV (n * kk) (fl kk g)).length := by rw [lG, Int.toNat_natCast, Nat.mul_one]; exact hKl
        have hSl : ((ev.thread.toNat * kk + ev.obj.toNat : Nat) : Int).toNat * 1 < (rowV (n * kk) (fl kk s)).length := by rw [lS, Int.toNat_natCast, Nat.mul_one]; exact hKl
        generalize hK : ev.thread.toNat * kk + ev.obj.toNat = K at hadd hGt hSt hGl hSl hKl
        have fG : ∀ x, upI (fl kk g) K x = fl kk (up2 g ev.thread.toNat ev.obj.toNat x) := fun x => by rw [← hK]; exact fl_up (by omega)
        have fS : ∀ x, upI (fl kk s) K x = fl kk (up2 s ev.thread.toNat ev.obj.toNat x) := fun x => by rw [← hK]; exact fl_up (by omega)
        have nx : ∀ HG2 HS2 g2 s2, gE ev g s = g2 → sE ev g s = s2 → OS HG2 (some ⟨βg, 0, none⟩) (n * kk) (n * kk) 3 1 (rowV (n * kk) (fl kk g2)) → OS HS2 (some ⟨βz, 0, none⟩) (n * kk) (n * kk) 3 1 (rowV (n * kk) (fl kk s2)) → OS HG2 (some ⟨βg, 0, none⟩) (n * kk) (n * kk) 3 1 (rowV (n * kk) (fl kk (gE ev g s))) ∧ OS HS2 (some ⟨βz, 0, none⟩) (n * kk) (n * kk) 3 1 (rowV (n * kk) (fl kk (sE ev g s))) := fun HG2 HS2 g2 s2 h1 h2 h3 h4 => by rw [h1, h2]; exact ⟨h3, h4⟩
        have hs0 : ev.act ≠ 2 → sE ev g s = s := fun q => by unfold sE; rw [if_neg fun p => q p.2]
        by_cases c0 : ev.act = 0
        · repeat' (first
            | refine sl_op rfl rfl rfl ((opv_mul rfl rfl rfl).to hix) ?_
            | refine sl_op rfl rfl rfl ((opv_add64 rfl rfl rfl (by omega) (by omega)).to hadd) ?_
            | (refine sl_storeE rfl rfl rfl rfl rfl osG rfl rfl rfl (Nat.succ_pos _) (by rw [lG]; simp; omega) (rowV_set hKl) (fun HG2 osG2 => ?_))
            | refine swp_seq ?_
            | (refine gk 0 rfl ?_; first | refine sl_op rfl rfl rfl (by first | exact opv_move rfl rfl | exact opv_assign rfl rfl ) ?_ )
            | (refine gk 1 rfl ?_; first | refine sl_op rfl rfl rfl (by first | exact opv_add64 rfl rfl rfl (by omega) (by omega) ) ?_ )
            | (refine gk 2 rfl ?_; first | refine sl_yes rfl rfl rfl (by first | exact opv_eql rfl rfl rfl ) (by first | omega ) ?_ )
            | (refine gk 3 rfl ?_; first | refine sl_op rfl rfl rfl (by first | exact opv_load rfl (by exact rfl) rfl (by exact rfl) | exact opv_fieldAddr rfl rfl | exact opv_indexAddrI rfl rfl rfl (by omega) (by omega) (by first | omega ) | exact opv_loadEx rfl (by exact rfl) (by infer_instance) (by first | assumption ) ) ?_ )
            | refine sl_region rfl ?_
            | refine sl_nil ?_
            | refine thn_k ?_
            | refine swp_true rfl ?_
            | refine swp_block ?_
            | refine inb_k ?_
            )
          rw [fG] at osG2
          exact ⟨rfl, ⟨HG2, HS⟩, next_ok (by repeat first | exact Sub.nil _ | refine Sub.cons rfl ?_), nx _ _ _ _ (by unfold gE; rw [if_pos k1, if_pos c0]) (hs0 (by omega)) osG2 osS⟩
        by_cases c1 : ev.act = 1
        · repeat' (first
            | refine sl_op rfl rfl rfl ((opv_mul rfl rfl rfl).to hix) ?_
            | refine sl_op rfl rfl rfl ((opv_add64 rfl rfl rfl (by omega) (by omega)).to hadd) ?_
            | (refine sl_storeE rfl rfl rfl rfl rfl osG rfl rfl rfl (Nat.succ_pos _) (by rw [lG]; simp; omega) (rowV_set hKl) (fun HG2 osG2 => ?_))
            | refine swp_seq ?_
            | (refine gk 0 rfl ?_; first | refine sl_op rfl rfl rfl (by first | exact opv_move rfl rfl | exact opv_assign rfl rfl ) ?_ )
            | (refine gk 1 rfl ?_; first | refine sl_op rfl rfl rfl (by first | exact opv_sub64 rfl rfl rfl (by omega) (by omega) ) ?_ )
            | (refine gk 2 rfl ?_; first | refine sl_yes rfl rfl rfl (by first | exact opv_eql rfl rfl rfl ) (by first | omega ) ?_ | refine sl_no rfl rfl rfl (by first | exact opv_eql rfl rfl rfl ) (by first | omega ) ?_ )
            | (refine gk 3 rfl ?_; first | refine sl_op rfl rfl rfl (by first | exact opv_load rfl (by exact rfl) rfl (by exact rfl) | exact opv_fieldAddr rfl rfl | exact opv_indexAddrI rfl rfl rfl (by omega) (by omega) (by first | omega ) | exact opv_loadEx rfl (by exact rfl) (by infer_instance) (by first | assumption ) ) ?_ )
            | refine sl_region rfl ?_
            | refine sl_nil ?_
            | refine thn_k ?_
            | refine swp_true rfl ?_
            | refine swp_false rfl ?_
            | refine swp_block ?_
            | refine inb_k ?_
            )
          rw [fG] at osG2
          exact ⟨rfl, ⟨HG2, HS⟩, next_ok (by repeat first | exact Sub.nil _ | refine Sub.cons rfl ?_), nx _ _ _ _ (by unfold gE; rw [if_pos k1, if_neg c0, if_pos c1]) (hs0 (by omega)) osG2 osS⟩
        by_cases c2 : ev.act = 2
        · repeat' (first
            | refine sl_op rfl rfl rfl ((opv_mul rfl rfl rfl).to hix) ?_
            | refine sl_op rfl rfl rfl ((opv_add64 rfl rfl rfl (by omega) (by omega)).to hadd) ?_
            | (refine sl_storeE rfl rfl rfl rfl rfl osS rfl rfl rfl (Nat.succ_pos _) (by rw [lS]; simp; omega) (rowV_set hKl) (fun HS2 osS2 => ?_))
            | (refine sl_storeE rfl rfl rfl rfl rfl osG rfl rfl rfl (Nat.succ_pos _) (by rw [lG]; simp; omega) (rowV_set hKl) (fun HG2 osG2 => ?_))
            | refine swp_seq ?_
            | (refine gk 0 rfl ?_; first | refine sl_op rfl rfl rfl (by first | exact opv_move rfl rfl | exact opv_assign rfl rfl ) ?_ )
            | (refine gk 2 rfl ?_; first | refine sl_yes rfl rfl rfl (by first | exact opv_eql rfl rfl rfl ) (by first | omega ) ?_ | refine sl_no rfl rfl rfl (by first | exact opv_eql rfl rfl rfl ) (by first | omega ) ?_ )
            | (refine gk 3 rfl ?_; first | refine sl_op rfl rfl rfl (by first | exact opv_load rfl (by exact rfl) rfl (by exact rfl) | exact opv_fieldAddr rfl rfl | exact opv_indexAddrI rfl rfl rfl (by omega) (by omega) (by first | omega ) | exact opv_loadEx rfl (by exact rfl) (by infer_instance) (by first | assumption ) ) ?_ )
            | refine sl_region rfl ?_
            | refine sl_nil ?_
            | refine thn_k ?_
            | refine swp_true rfl ?_
            | refine swp_false rfl ?_
            | refine swp_block ?_
            | refine inb_k ?_
            )
          rw [fG] at osG2
          rw [fS] at osS2
          exact ⟨rfl, ⟨HG2, HS2⟩, next_ok (by repeat first | exact Sub.nil _ | refine Sub.cons rfl ?_), nx _ _ _ _ (by unfold gE; rw [if_pos k1, if_neg c0, if_neg c1, if_pos c2]) (by unfold sE; rw [if_pos ⟨k1, c2⟩]) osG2 osS2⟩
        by_cases c5 : ev.act = 5
        · repeat' (first
            | refine sl_op rfl rfl rfl ((opv_mul rfl rfl rfl).to hix) ?_
            | refine sl_op rfl rfl rfl ((opv_add64 rfl rfl rfl (by omega) (by omega)).to hadd) ?_
            | (refine sl_storeE rfl rfl rfl rfl rfl osG rfl rfl rfl (Nat.succ_pos _) (by rw [lG]; simp; omega) (rowV_set hKl) (fun HG2 osG2 => ?_))
            | refine swp_seq ?_
            | (refine gk 0 rfl ?_; first | refine sl_op rfl rfl rfl (by first | exact opv_move rfl rfl | exact opv_assign rfl rfl ) ?_ )
            | (refine gk 2 rfl ?_; first | refine sl_yes rfl rfl rfl (by first | exact opv_eql rfl rfl rfl ) (by first | omega ) ?_ | refine sl_no rfl rfl rfl (by first | exact opv_eql rfl rfl rfl ) (by first | omega ) ?_ )
            | (refine gk 3 rfl ?_; first | refine sl_op rfl rfl rfl (by first | exact opv_load rfl (by exact rfl) rfl (by exact rfl) | exact opv_fieldAddr rfl rfl | exact opv_indexAddrI rfl rfl rfl (by omega) (by omega) (by first | omega ) | exact opv_loadEx rfl (by exact rfl) (by infer_instance) (by first | assumption ) ) ?_ )
            | refine sl_region rfl ?_
            | refine sl_nil ?_
            | refine thn_k ?_
            | refine swp_true rfl ?_
            | refine swp_false rfl ?_
            | refine swp_block ?_
            | refine inb_k ?_
            )
          rw [fG] at osG2
          exact ⟨rfl, ⟨HG2, HS⟩, next_ok (by repeat first | exact Sub.nil _ | refine Sub.cons rfl ?_), nx _ _ _ _ (by unfold gE; rw [if_pos k1, if_neg c0, if_neg c1, if_neg c2, if_pos c5]) (hs0 (by omega)) osG2 osS⟩
        · repeat' (first
            | refine sl_op rfl rfl rfl ((opv_mul rfl rfl rfl).to hix) ?_
            | refine sl_op rfl rfl rfl ((opv_add64 rfl rfl rfl (by omega) (by omega)).to hadd) ?_
            | refine swp_seq ?_
            | (refine gk 0 rfl ?_; first | refine sl_op rfl rfl rfl (by first | exact opv_move rfl rfl | exact opv_assign rfl rfl ) ?_ )
            | (refine gk 2 rfl ?_; first | refine sl_yes rfl rfl rfl (by first | exact opv_eql rfl rfl rfl ) (by first | omega ) ?_ | refine sl_no rfl rfl rfl (by first | exact opv_eql rfl rfl rfl ) (by first | omega ) ?_ )
            | (refine gk 3 rfl ?_; first | refine sl_op rfl rfl rfl (by first | exact opv_load rfl (by exact rfl) rfl (by exact rfl) | exact opv_fieldAddr rfl rfl ) ?_ )
            | refine sl_region rfl ?_
            | refine sl_nil ?_
            | refine thn_k ?_
            | refine swp_true rfl ?_
            | refine swp_false rfl ?_
            | refine swp_block ?_
            | refine swp_skip ?_
            | refine inb_k ?_
            )
          exact ⟨rfl, ⟨HG, HS⟩, next_ok (by repeat first | exact Sub.nil _ | refine Sub.cons rfl ?_), nx _ _ _ _ (by unfold gE; rw [if_pos k1, if_neg c0, if_neg c1, if_neg c2, if_neg c5]) (hs0 c2) osG osS⟩
      · repeat' (first
          | refine swp_seq ?_
          | (refine gk 2 rfl ?_; first | refine sl_no rfl rfl rfl (by first | exact opv_eql rfl rfl rfl ) (by first | omega ) ?_ )
          | (refine gk 3 rfl ?_; first | refine sl_op rfl rfl rfl (by first | exact opv_load rfl (by exact rfl) rfl (by exact rfl) | exact opv_fieldAddr rfl rfl ) ?_ )
          | refine sl_region rfl ?_
          | refine sl_nil ?_
          | refine thn_k ?_
          | refine swp_false rfl ?_
          | refine swp_skip ?_
          )
        exact ⟨rfl, ⟨HG, HS⟩, next_ok (by repeat first | exact Sub.nil _ | refine Sub.cons rfl ?_), by unfold gE; rw [if_neg k1]; exact osG, by unfold sE; rw [if_neg fun q => k1 q.1]; exact osS⟩
    clear osG osS HG HS
    rintro ⟨HG, HS⟩ ⟨osG, osS⟩
    dsimp only at osG osS ⊢
    generalize gE ev g s = g2 at osG ow2
    generalize sE ev g s = s2 at osS ow2
    have hj1 : ((j : Nat) : Int) + 1 = ((j + 1 : Nat) : Int) := rfl
    rw [hj1] at ow2
    clear hgb hrg ow rl hfe hde hd
    have slG := fun (_ : Unit) => osG.sl
    have lG := rowV_length (n * kk) (fl kk g2)
    repeat' (first
      | refine sl_makeSlice (m := n) rfl rfl rfl rfl rfl rfl rfl (by omega) (by omega) (fun bx HX osX => ?_)
      | refine swp_seq ?_
      | (refine gk 0 rfl ?_; first | refine sl_op rfl rfl rfl (by first | exact opv_move rfl rfl | exact opv_assign rfl rfl ) ?_ )
      | refine sl_region rfl ?_
      | refine sl_nil ?_
      | refine thn_k ?_
      | refine swp_block ?_
      )
    rw [rowV_new] at osX
    have osX0 : OS HX (some ⟨bx, 0, none⟩) n n 3 1 (rowV n (wf σ2 0)) := by rw [rowV_congr fun u _ => wf_0 σ2 u]; exact osX
    refine swp_loopS (fun s : LX => [(3, i64 (n : Int)), (4, i64 (kk : Int)), (5, ptr βs), (6, .slice (some ⟨βg, 0, none⟩) (n * kk) (n * kk)), (7, .slice (some ⟨βz, 0, none⟩) (n * kk) (n * kk)), (8, .slice be es.length ce), (9, i64 (j : Int)), (12, .slice (some ⟨bx, 0, none⟩) n n), (13, i64 (s.o : Int))])
      (fun s => [BB, N, specB βs bt bo n n kk kk σ2.rel, HT2, HO2, OP2, HG, HS, s.HX])
      (fun s => s.o ≤ kk ∧ OS s.HX (some ⟨bx, 0, none⟩) n n 3 1 (rowV n (wf σ2 s.o))) (fun s => kk - s.o) ⟨0, HX⟩ (by repeat first | exact Sub.nil _ | refine Sub.cons rfl ?_) ⟨Nat.zero_le _, osX0⟩ ?_
    clear osX osX0 HX
    rintro ⟨o, HX⟩ ⟨ho, osX⟩
    dsimp only at ho osX ⊢
    by_cases ho2 : o < kk
    · have hol := ow2.ol
      obtain ⟨p, hp⟩ : ∃ p, σ2.ob[o]? = some p := ⟨_, List.getElem?_eq_getElem (by omega)⟩
      obtain ⟨w1, w2, w3, w4, w5⟩ := ow2.own o p hp
      obtain ⟨bs, mo⟩ := au2.ex
      have hp' : σ2.ob[((o : Nat) : Int).toNat]? = some p := hp
      have hV := view_calls (βs := βs) mo au2.hn au2.hk (by omega) (by omega) (o := ((o : Nat) : Int)) (by omega) (by omega) hp'
      have hwl1 := fun u hu => wlist_lt ow2 ho2 hp (u := u) hu
      have hsr := wlist_sorted [2, 3] (o : Int) σ2.th 0
      have hwj := fun i w (h : (wlist [2, 3] (o : Int) 0 σ2.th)[i]? = some w) => wj_step (σ := σ2) (o := o) (j := i) h
      have hwf := wj_full σ2 o
      have hwln := wlist_length [2, 3] (o : Int) σ2.th 0
      rw [au2.hn] at hwln
      generalize wlist [2, 3] (o : Int) 0 σ2.th = wl at hV hwl1 hsr hwj hwf hwln
      repeat' (first
        | refine swp_seq ?_
        | (refine gk 0 rfl ?_; first | refine sl_op rfl rfl rfl (by first | exact opv_move rfl rfl | exact opv_assign rfl rfl ) ?_ )
        | (refine gk 2 rfl ?_; first | refine sl_yes rfl rfl rfl (by first | exact opv_lss rfl rfl rfl ) (by first | omega ) ?_ )
        | (refine gk 4 rfl ?_; first | (refine sl_callT rfl rfl rfl rfl rfl rfl rfl rfl (hV) ?_; rintro _ _ ⟨NV, bv, cv, rfl, rfl, osV⟩; refine ⟨_, _, rfl, rfl, ?_⟩))
        | (refine gk 5 rfl ?_; first | refine sl_alloc rfl rfl rfl rfl (by exact rfl) (fun β => ?_) | refine sl_store rfl rfl rfl rfl rfl rfl (by exact rfl) rfl (by exact rfl) ?_)
        | refine sl_region rfl ?_
        | refine sl_nil ?_
        | refine thn_k ?_
        | refine swp_true rfl ?_
        | refine swp_block ?_
        | refine swp_skip ?_
        )
      refine swp_loopS (fun q : LM => [(3, i64 (n : Int)), (4, i64 (kk : Int)), (5, ptr βs), (6, .slice (some ⟨βg, 0, none⟩) (n * kk) (n * kk)), (7, .slice (some ⟨βz, 0, none⟩) (n * kk) (n * kk)), (8, .slice be es.length ce), (9, i64 (j : Int)), (12, .slice (some ⟨bx, 0, none⟩) n n), (13, i64 (o : Int)), (14, ptr β), (15, i64 q.sm), (16, i64 (q.t : Int))])
        (fun _ => [BB, N, specB βs bt bo n n kk kk σ2.rel, HT2, HO2, OP2, HG, HS, HX, NV, blk β (.cells ⟨[i64 p.1, i64 p.2, .slice bv wl.length cv]⟩ 40 (0, 0))])
        (fun q => q.t ≤ n ∧ q.sm = sumO p q.t) (fun q => n - q.t) ⟨0, 0⟩ (by repeat first | exact Sub.nil _ | refine Sub.cons rfl ?_) ⟨Nat.zero_le _, by unfold sumO; rw [if_neg (by dsimp only; omega)]⟩ ?_
      rintro ⟨t, sm⟩ ⟨ht, hsm⟩
      dsimp only at ht hsm ⊢
      by_cases ht2 : t < n
      · haveI := slG ()
        have hix : Value.int .i64 (IntKind.i64.wrap ((t : Int) * (kk : Int))) = i64 ((t * kk : Nat) : Int) := by
          have := ix_lt ht2 ho2
          rw [← Int.natCast_mul, wrapN (by omega)]
        have hKl := ix_lt ht2 ho2
        have hadd : Value.int .i64 (((t * kk : Nat) : Int) + (o : Int)) = i64 ((t * kk + o : Nat) : Int) := rfl
        have hGt : (rowV (n * kk) (fl kk g2))[((t * kk + o : Nat) : Int).toNat * 1]? = some (i64 (if p.1 = (t : Int) then p.2 else 0)) := by rw [rowV_at hKl, fl_at ho2, ow2.dep o t p hp ht2]
        have hGl : ((t * kk + o : Nat) : Int).toNat * 1 < (rowV (n * kk) (fl kk g2)).length := by rw [lG, Int.toNat_natCast, Nat.mul_one]; exact hKl
        have hsum : Value.int .i64 (sm + (if p.1 = (t : Int) then p.2 else 0)) = i64 (sumO p (t + 1)) := by rw [hsm, sumO_step]
        have hb1 : 0 ≤ sm ∧ sm ≤ 1000 := by rw [hsm]; unfold sumO; split <;> omega
        have hTk : t * kk ≤ 12 := by omega
        have hb2 : 0 ≤ (if p.1 = (t : Int) then p.2 else 0) ∧ (if p.1 = (t : Int) then p.2 else 0) ≤ 1000 := by split <;> omega
        generalize t * kk + o = K at hadd hGt hGl hKl
        generalize (if p.1 = (t : Int) then p.2 else 0) = X at hGt hsum hb2
        repeat' (first
          | refine sl_op rfl rfl rfl ((opv_mul rfl rfl rfl).to hix) ?_
          | refine sl_op rfl rfl rfl ((opv_add64 rfl rfl rfl (by omega) (by omega)).to hadd) ?_
          | refine sl_op rfl rfl rfl ((opv_add64 rfl rfl rfl (by omega) (by omega)).to hsum) ?_
          | refine swp_seq ?_
          | (refine gk 0 rfl ?_; first | refine sl_op rfl rfl rfl (by first | exact opv_move rfl rfl | exact opv_assign rfl rfl ) ?_ )
          | (refine gk 1 rfl ?_; first | refine sl_op rfl rfl rfl (by first | exact opv_add64 rfl rfl rfl (by omega) (by omega) ) ?_ )
          | (refine gk 2 rfl ?_; first | refine sl_yes rfl rfl rfl (by first | exact opv_lss rfl rfl rfl ) (by first | omega ) ?_ )
          | (refine gk 3 rfl ?_; first | refine sl_op rfl rfl rfl (by first | exact opv_indexAddrI rfl rfl rfl (by omega) (by omega) (by first | omega ) | exact opv_loadEx rfl (by exact rfl) (by infer_instance) (by first | assumption ) ) ?_ )
          | refine sl_region rfl ?_
          | refine sl_nil ?_
          | refine thn_k ?_
          | refine swp_true rfl ?_
          | refine swp_block ?_
          | refine swp_skip ?_
          )
        exact ⟨rfl, ⟨t + 1, sumO p (t + 1)⟩, next_ok (by repeat first | exact Sub.nil _ | refine Sub.cons rfl ?_), ⟨ht2, rfl⟩, by dsimp only; omega⟩
      · have htn : t = n := by omega
        have hsn : sm = p.2 := by rw [hsm]; unfold sumO; split <;> omega
        have lNV := natV_length wl
        have slNV : Sl NV bv (natV wl) := osV.sl
        have osXj : OS HX (some ⟨bx, 0, none⟩) n n 3 1 (rowV n (wj σ2 o 0)) := by rw [rowV_congr fun u _ => wj_0 σ2 o u]; exact osX
        by_cases hown : 0 ≤ p.1
        · have hP : p.1 = (p.1.toNat : Int) := by omega
          have hKl : p.1.toNat * kk + o < n * kk := ix_lt (by omega) ho2
          have hix : Value.int .i64 (IntKind.i64.wrap (p.1 * (kk : Int))) = i64 ((p.1.toNat * kk : Nat) : Int) := by
            have e : p.1 * (kk : Int) = ((p.1.toNat * kk : Nat) : Int) := by rw [Int.natCast_mul, ← hP]
            rw [e, wrapN (by omega)]
          have hadd : Value.int .i64 (((p.1.toNat * kk : Nat) : Int) + (o : Int)) = i64 ((p.1.toNat * kk + o : Nat) : Int) := rfl
          have hGt : (rowV (n * kk) (fl kk g2))[((p.1.toNat * kk + o : Nat) : Int).toNat * 1]? = some (i64 p.2) := by rw [rowV_at hKl, fl_at ho2, ow2.dep o p.1.toNat p hp (by omega), if_pos hP]
          have hGl : ((p.1.toNat * kk + o : Nat) : Int).toNat * 1 < (rowV (n * kk) (fl kk g2)).length := by rw [lG, Int.toNat_natCast, Nat.mul_one]; exact hKl
          have hTk : p.1.toNat * kk ≤ 12 := by omega
          generalize p.1.toNat * kk + o = K at hadd hGt hGl hKl
          haveI := slG ()
          repeat' (first
            | refine sl_op rfl rfl rfl ((opv_mul rfl rfl rfl).to hix) ?_
            | refine sl_op rfl rfl rfl ((opv_add64 rfl rfl rfl (by omega) (by omega)).to hadd) ?_
            | refine swp_seq ?_
            | (refine gk 0 rfl ?_; first | refine sl_op rfl rfl rfl (by first | exact opv_move rfl rfl | exact opv_assign rfl rfl | exact opv_pick_t rfl rfl rfl | exact opv_pick_f rfl rfl rfl ) ?_ )
            | (refine gk 2 rfl ?_; first | refine sl_yes rfl rfl rfl (by first | exact opv_lss rfl rfl rfl | exact opv_gtr rfl rfl rfl | exact opv_geq rfl rfl rfl | exact opv_neq rfl rfl rfl) (by first | omega ) ?_ | refine sl_no rfl rfl rfl (by first | exact opv_lss rfl rfl rfl | exact opv_geq rfl rfl rfl | exact opv_neq rfl rfl rfl) (by first | omega ) ?_ | refine sl_ff rfl rfl rfl (by first | exact opv_neqB Try.underlying4 rfl rfl rfl ) (by first | rfl ) ?_ )
            | (refine gk 3 rfl ?_; first | refine sl_op rfl rfl rfl (by first | exact opv_load rfl (by exact rfl) rfl (by exact rfl) | exact opv_fieldAddr rfl rfl | exact opv_indexAddrI rfl rfl rfl (by omega) (by omega) (by first | omega ) | exact opv_loadEx rfl (by exact rfl) (by infer_instance) (by first | assumption ) ) ?_ )
            | refine sl_region rfl ?_
            | refine sl_draw (by kernel_rfl) (by kernel_rfl) rfl ?_
            | refine sl_nil ?_
            | refine thn_k ?_
            | refine swp_false rfl ?_
            | refine swp_block ?_
            | refine swp_exit ?_
            | refine swp_skip ?_
            )
          refine swp_loopS (fun s : LX => [(3, i64 (n : Int)), (4, i64 (kk : Int)), (5, ptr βs), (6, .slice (some ⟨βg, 0, none⟩) (n * kk) (n * kk)), (7, .slice (some ⟨βz, 0, none⟩) (n * kk) (n * kk)), (8, .slice be es.length ce), (9, i64 (j : Int)), (12, .slice (some ⟨bx, 0, none⟩) n n), (13, i64 (o : Int)), (14, ptr β), (17, i64 (s.o : Int))])
            (fun s => [BB, N, specB βs bt bo n n kk kk σ2.rel, HT2, HO2, OP2, HG, HS, s.HX, NV, blk β (.cells ⟨[i64 p.1, i64 p.2, .slice bv wl.length cv]⟩ 40 (0, 0))])
            (fun s => s.o ≤ wl.length ∧ OS s.HX (some ⟨bx, 0, none⟩) n n 3 1 (rowV n (wj σ2 o s.o))) (fun s => wl.length - s.o) ⟨0, HX⟩ (by repeat first | exact Sub.nil _ | refine Sub.cons rfl ?_) ⟨Nat.zero_le _, osXj⟩ ?_
          clear osXj osX HX
          rintro ⟨i, HX⟩ ⟨hi, osX⟩
          dsimp only at hi osX ⊢
          haveI slX := osX.sl
          have lX := rowV_length n (wj σ2 o i)
          by_cases hi2 : i < wl.length
          · obtain ⟨w, hwi⟩ : ∃ w, wl[i]? = some w := ⟨_, List.getElem?_eq_getElem hi2⟩
            obtain ⟨hwn, hwo⟩ := hwl1 w (List.mem_of_getElem? hwi)
            have hNi := natV_at hwi
            have hNl : ((i : Nat) : Int).toNat * 1 < (natV wl).length := by rw [lNV, Int.toNat_natCast, Nat.mul_one]; exact hi2
            have hXw : (rowV n (wj σ2 o i))[((w : Nat) : Int).toNat * 1]? = some (i64 (wj σ2 o i w)) := rowV_at hwn
            have hXl : ((w : Nat) : Int).toNat * 1 < (rowV n (wj σ2 o i)).length := by rw [lX, Int.toNat_natCast, Nat.mul_one]; exact hwn
            have hbd := wj_bd σ2 o i w
            have hst := hwj i w hwi
            cases i with
            | zero =>
              repeat' (first
                | (refine sl_storeE rfl rfl rfl rfl rfl osX rfl rfl rfl (Nat.succ_pos _) (by rw [lX]; simp; omega) (rowV_set hwn) (fun HX2 osX2 => ?_))
                | refine swp_seq ?_
                | (refine gk 0 rfl ?_; first | refine sl_op rfl rfl rfl (by first | exact opv_move rfl rfl | exact opv_assign rfl rfl | exact opv_pick_f rfl rfl rfl ) ?_ | refine sl_pass rfl rfl rfl rfl ?_)
                | (refine gk 1 rfl ?_; first | refine sl_op rfl rfl rfl (by first | exact opv_add64 rfl rfl rfl (by omega) (by omega) ) ?_ | refine sl_pass rfl rfl rfl rfl ?_)
                | (refine gk 2 rfl ?_; first | refine sl_pass rfl rfl rfl rfl ?_ | refine sl_yes rfl rfl rfl (by first | exact opv_lss rfl rfl rfl | exact opv_gtr rfl rfl rfl | exact opv_geq rfl rfl rfl | exact opv_eql rfl rfl rfl ) (by first | omega ) ?_ | refine sl_no rfl rfl rfl (by first | exact opv_lss rfl rfl rfl | exact opv_gtr rfl rfl rfl | exact opv_geq rfl rfl rfl | exact opv_eql rfl rfl rfl ) (by first | omega ) ?_ )
                | (refine gk 3 rfl ?_; first | refine sl_op rfl rfl rfl (by first | exact opv_load rfl (by exact rfl) rfl (by exact rfl) | exact opv_fieldAddr rfl rfl | exact opv_indexAddrI rfl rfl rfl (by omega) (by omega) (by first | omega ) | exact opv_loadEx rfl (by exact rfl) (by infer_instance) (by first | assumption ) ) ?_ | refine sl_pass rfl rfl rfl rfl ?_)
                | (refine gk 4 rfl ?_; first | refine sl_op rfl rfl rfl (by first | exact opv_len rfl rfl rfl rfl rfl ) ?_)
                | refine sl_region rfl ?_
                | refine sl_draw (by kernel_rfl) (by kernel_rfl) rfl ?_
                | refine sl_nil ?_
                | refine thn_k ?_
                | refine swp_true rfl ?_
                | refine swp_false rfl ?_
                | refine swp_block ?_
                | refine swp_skip ?_
                )
              rw [hst] at osX2
              exact ⟨rfl, ⟨0 + 1, HX2⟩, next_ok (by repeat first | exact Sub.nil _ | refine Sub.cons rfl ?_), ⟨by dsimp only; omega, osX2⟩, by dsimp only; omega⟩
            | succ i' =>
              obtain ⟨w', hwp⟩ : ∃ w', wl[i']? = some w' := ⟨_, List.getElem?_eq_getElem (by omega)⟩
              have hlt : w' < w := by
                obtain ⟨q1, q2⟩ := List.getElem?_eq_some_iff.1 hwi
                obtain ⟨q3, q4⟩ := List.getElem?_eq_some_iff.1 hwp
                have := List.pairwise_iff_getElem.1 hsr i' (i' + 1) q3 q1 (by omega)
                omega
              have ez : (((i' + 1 : Nat) : Int) - 1).toNat * 1 = i' := by omega
              have hNp : (natV wl)[(((i' + 1 : Nat) : Int) - 1).toNat * 1]? = some (i64 (w' : Int)) := by
                rw [ez]; have := natV_at hwp; rwa [Int.toNat_natCast, Nat.mul_one] at this
              have hNpl : (((i' + 1 : Nat) : Int) - 1).toNat * 1 < (natV wl).length := by rw [ez, lNV]; omega
              repeat' (first
                | (refine sl_storeE rfl rfl rfl rfl rfl osX rfl rfl rfl (Nat.succ_pos _) (by rw [lX]; simp; omega) (rowV_set hwn) (fun HX2 osX2 => ?_))
                | refine swp_seq ?_
                | (refine gk 0 rfl ?_; first | refine sl_op rfl rfl rfl (by first | exact opv_move rfl rfl | exact opv_assign rfl rfl | exact opv_pick_t rfl rfl rfl | exact opv_pick_f rfl rfl rfl ) ?_ )
                | (refine gk 1 rfl ?_; first | refine sl_op rfl rfl rfl (by first | exact opv_add64 rfl rfl rfl (by omega) (by omega) | exact opv_sub64 rfl rfl rfl (by omega) (by omega) ) ?_ )
                | (refine gk 2 rfl ?_; first | refine sl_yes rfl rfl rfl (by first | exact opv_lss rfl rfl rfl | exact opv_leq rfl rfl rfl | exact opv_gtr rfl rfl rfl | exact opv_geq rfl rfl rfl | exact opv_eql rfl rfl rfl ) (by first | omega ) ?_ | refine sl_no rfl rfl rfl (by first | exact opv_lss rfl rfl rfl | exact opv_leq rfl rfl rfl | exact opv_geq rfl rfl rfl | exact opv_eql rfl rfl rfl ) (by first | omega ) ?_ )
                | (refine gk 3 rfl ?_; first | refine sl_op rfl rfl rfl (by first | exact opv_load rfl (by exact rfl) rfl (by exact rfl) | exact opv_fieldAddr rfl rfl | exact opv_indexAddrI rfl rfl rfl (by omega) (by omega) (by first | omega ) | exact opv_loadEx rfl (by exact rfl) (by infer_instance) (by first | assumption ) ) ?_ )
                | (refine gk 4 rfl ?_; first | refine sl_op rfl rfl rfl (by first | exact opv_len rfl rfl rfl rfl rfl ) ?_)
                | refine sl_region rfl ?_
                | refine sl_draw (by kernel_rfl) (by kernel_rfl) rfl ?_
                | refine sl_nil ?_
                | refine thn_k ?_
                | refine swp_true rfl ?_
                | refine swp_false rfl ?_
                | refine swp_block ?_
                | refine swp_skip ?_
                )
              rw [hst] at osX2
              exact ⟨rfl, ⟨i' + 1 + 1, HX2⟩, next_ok (by repeat first | exact Sub.nil _ | refine Sub.cons rfl ?_), ⟨by dsimp only; omega, osX2⟩, by dsimp only; omega⟩
          · have ei : i = wl.length := by omega
            rw [ei, rowV_congr fun u _ => hwf u] at osX
            repeat' (first
              | refine swp_seq ?_
              | (refine gk 0 rfl ?_; first | refine sl_op rfl rfl rfl (by first | exact opv_move rfl rfl | exact opv_assign rfl rfl ) ?_ )
              | (refine gk 1 rfl ?_; first | refine sl_op rfl rfl rfl (by first | exact opv_add64 rfl rfl rfl (by omega) (by omega) ) ?_ )
              | (refine gk 2 rfl ?_; first | refine sl_no rfl rfl rfl (by first | exact opv_lss rfl rfl rfl ) (by first | omega ) ?_ )
              | (refine gk 3 rfl ?_; first | refine sl_op rfl rfl rfl (by first | exact opv_load rfl (by exact rfl) rfl (by exact rfl) | exact opv_fieldAddr rfl rfl ) ?_ )
              | (refine gk 4 rfl ?_; first | refine sl_op rfl rfl rfl (by first | exact opv_len rfl rfl rfl rfl rfl ) ?_)
              | refine sl_region rfl ?_
              | refine sl_nil ?_
              | refine thn_k ?_
              | refine swp_false rfl ?_
              | refine swp_exit ?_
              )
            exact ⟨rfl, ⟨o + 1, HX⟩, next_ok (by repeat first | exact Sub.nil _ | refine Sub.cons rfl ?_), ⟨ho2, osX⟩, by dsimp only; omega⟩
        · repeat' (first
            | refine swp_seq ?_
            | (refine gk 0 rfl ?_; first | refine sl_op rfl rfl rfl (by first | exact opv_move rfl rfl | exact opv_assign rfl rfl | exact opv_pick_f rfl rfl rfl ) ?_ | refine sl_pass rfl rfl rfl rfl ?_)
            | (refine gk 1 rfl ?_; first | refine sl_pass rfl rfl rfl rfl ?_)
            | (refine gk 2 rfl ?_; first | refine sl_pass rfl rfl rfl rfl ?_ | refine sl_no rfl rfl rfl (by first | exact opv_lss rfl rfl rfl | exact opv_gtr rfl rfl rfl | exact opv_geq rfl rfl rfl | exact opv_neq rfl rfl rfl) (by first | omega ) ?_ | refine sl_ff rfl rfl rfl (by first | exact opv_neqB Try.underlying4 rfl rfl rfl ) (by first | rfl ) ?_ )
            | (refine gk 3 rfl ?_; first | refine sl_op rfl rfl rfl (by first | exact opv_load rfl (by exact rfl) rfl (by exact rfl) | exact opv_fieldAddr rfl rfl ) ?_ | refine sl_pass rfl rfl rfl rfl ?_)
            | refine sl_region rfl ?_
            | refine sl_draw (by kernel_rfl) (by kernel_rfl) rfl ?_
            | refine sl_nil ?_
            | refine thn_k ?_
            | refine swp_false rfl ?_
            | refine swp_block ?_
            | refine swp_exit ?_
            | refine swp_skip ?_
            )
          refine swp_loopS (fun s : LX => [(3, i64 (n : Int)), (4, i64 (kk : Int)), (5, ptr βs), (6, .slice (some ⟨βg, 0, none⟩) (n * kk) (n * kk)), (7, .slice (some ⟨βz, 0, none⟩) (n * kk) (n * kk)), (8, .slice be es.length ce), (9, i64 (j : Int)), (12, .slice (some ⟨bx, 0, none⟩) n n), (13, i64 (o : Int)), (14, ptr β), (17, i64 (s.o : Int))])
            (fun s => [BB, N, specB βs bt bo n n kk kk σ2.rel, HT2, HO2, OP2, HG, HS, s.HX, NV, blk β (.cells ⟨[i64 p.1, i64 p.2, .slice bv wl.length cv]⟩ 40 (0, 0))])
            (fun s => s.o ≤ wl.length ∧ OS s.HX (some ⟨bx, 0, none⟩) n n 3 1 (rowV n (wj σ2 o s.o))) (fun s => wl.length - s.o) ⟨0, HX⟩ (by repeat first | exact Sub.nil _ | refine Sub.cons rfl ?_) ⟨Nat.zero_le _, osXj⟩ ?_
          clear osXj osX HX
          rintro ⟨i, HX⟩ ⟨hi, osX⟩
          dsimp only at hi osX ⊢
          haveI slX := osX.sl
          have lX := rowV_length n (wj σ2 o i)
          by_cases hi2 : i < wl.length
          · obtain ⟨w, hwi⟩ : ∃ w, wl[i]? = some w := ⟨_, List.getElem?_eq_getElem hi2⟩
            obtain ⟨hwn, hwo⟩ := hwl1 w (List.mem_of_getElem? hwi)
            have hNi := natV_at hwi
            have hNl : ((i : Nat) : Int).toNat * 1 < (natV wl).length := by rw [lNV, Int.toNat_natCast, Nat.mul_one]; exact hi2
            have hXw : (rowV n (wj σ2 o i))[((w : Nat) : Int).toNat * 1]? = some (i64 (wj σ2 o i w)) := rowV_at hwn
            have hXl : ((w : Nat) : Int).toNat * 1 < (rowV n (wj σ2 o i)).length := by rw [lX, Int.toNat_natCast, Nat.mul_one]; exact hwn
            have hbd := wj_bd σ2 o i w
            have hst := hwj i w hwi
            cases i with
            | zero =>
              repeat' (first
                | (refine sl_storeE rfl rfl rfl rfl rfl osX rfl rfl rfl (Nat.succ_pos _) (by rw [lX]; simp; omega) (rowV_set hwn) (fun HX2 osX2 => ?_))
                | refine swp_seq ?_
                | (refine gk 0 rfl ?_; first | refine sl_op rfl rfl rfl (by first | exact opv_move rfl rfl | exact opv_assign rfl rfl | exact opv_pick_f rfl rfl rfl ) ?_ | refine sl_pass rfl rfl rfl rfl ?_)
                | (refine gk 1 rfl ?_; first | refine sl_op rfl rfl rfl (by first | exact opv_add64 rfl rfl rfl (by omega) (by omega) ) ?_ | refine sl_pass rfl rfl rfl rfl ?_)
                | (refine gk 2 rfl ?_; first | refine sl_pass rfl rfl rfl rfl ?_ | refine sl_yes rfl rfl rfl (by first | exact opv_lss rfl rfl rfl | exact opv_gtr rfl rfl rfl | exact opv_geq rfl rfl rfl | exact opv_eql rfl rfl rfl ) (by first | omega ) ?_ | refine sl_no rfl rfl rfl (by first | exact opv_lss rfl rfl rfl | exact opv_gtr rfl rfl rfl | exact opv_geq rfl rfl rfl | exact opv_eql rfl rfl rfl ) (by first | omega ) ?_ )
                | (refine gk 3 rfl ?_; first | refine sl_op rfl rfl rfl (by first | exact opv_load rfl (by exact rfl) rfl (by exact rfl) | exact opv_fieldAddr rfl rfl | exact opv_indexAddrI rfl rfl rfl (by omega) (by omega) (by first | omega ) | exact opv_loadEx rfl (by exact rfl) (by infer_instance) (by first | assumption ) ) ?_ | refine sl_pass rfl rfl rfl rfl ?_)
                | (refine gk 4 rfl ?_; first | refine sl_op rfl rfl rfl (by first | exact opv_len rfl rfl rfl rfl rfl ) ?_)
                | refine sl_region rfl ?_
                | refine sl_draw (by kernel_rfl) (by kernel_rfl) rfl ?_
                | refine sl_nil ?_
                | refine thn_k ?_
                | refine swp_true rfl ?_
                | refine swp_false rfl ?_
                | refine swp_block ?_
                | refine swp_skip ?_
                )
              rw [hst] at osX2
              exact ⟨rfl, ⟨0 + 1, HX2⟩, next_ok (by repeat first | exact Sub.nil _ | refine Sub.cons rfl ?_), ⟨by dsimp only; omega, osX2⟩, by dsimp only; omega⟩
            | succ i' =>
              obtain ⟨w', hwp⟩ : ∃ w', wl[i']? = some w' := ⟨_, List.getElem?_eq_getElem (by omega)⟩
              have hlt : w' < w := by
                obtain ⟨q1, q2⟩ := List.getElem?_eq_some_iff.1 hwi
                obtain ⟨q3, q4⟩ := List.getElem?_eq_some_iff.1 hwp
                have := List.pairwise_iff_getElem.1 hsr i' (i' + 1) q3 q1 (by omega)
                omega
              have ez : (((i' + 1 : Nat) : Int) - 1).toNat * 1 = i' := by omega
              have hNp : (natV wl)[(((i' + 1 : Nat) : Int) - 1).toNat * 1]? = some (i64 (w' : Int)) := by
                rw [ez]; have := natV_at hwp; rwa [Int.toNat_natCast, Nat.mul_one] at this
              have hNpl : (((i' + 1 : Nat) : Int) - 1).toNat * 1 < (natV wl).length := by rw [ez, lNV]; omega
              repeat' (first
                | (refine sl_storeE rfl rfl rfl rfl rfl osX rfl rfl rfl (Nat.succ_pos _) (by rw [lX]; simp; omega) (rowV_set hwn) (fun HX2 osX2 => ?_))
                | refine swp_seq ?_
                | (refine gk 0 rfl ?_; first | refine sl_op rfl rfl rfl (by first | exact opv_move rfl rfl | exact opv_assign rfl rfl | exact opv_pick_t rfl rfl rfl | exact opv_pick_f rfl rfl rfl ) ?_ )
                | (refine gk 1 rfl ?_; first | refine sl_op rfl rfl rfl (by first | exact opv_add64 rfl rfl rfl (by omega) (by omega) | exact opv_sub64 rfl rfl rfl (by omega) (by omega) ) ?_ )
                | (refine gk 2 rfl ?_; first | refine sl_yes rfl rfl rfl (by first | exact opv_lss rfl rfl rfl | exact opv_leq rfl rfl rfl | exact opv_gtr rfl rfl rfl | exact opv_geq rfl rfl rfl | exact opv_eql rfl rfl rfl ) (by first | omega ) ?_ | refine sl_no rfl rfl rfl (by first | exact opv_lss rfl rfl rfl | exact opv_leq rfl rfl rfl | exact opv_geq rfl rfl rfl | exact opv_eql rfl rfl rfl ) (by first | omega ) ?_ )
                | (refine gk 3 rfl ?_; first | refine sl_op rfl rfl rfl (by first | exact opv_load rfl (by exact rfl) rfl (by exact rfl) | exact opv_fieldAddr rfl rfl | exact opv_indexAddrI rfl rfl rfl (by omega) (by omega) (by first | omega ) | exact opv_loadEx rfl (by exact rfl) (by infer_instance) (by first | assumption ) ) ?_ )
                | (refine gk 4 rfl ?_; first | refine sl_op rfl rfl rfl (by first | exact opv_len rfl rfl rfl rfl rfl ) ?_)
                | refine sl_region rfl ?_
                | refine sl_draw (by kernel_rfl) (by kernel_rfl) rfl ?_
                | refine sl_nil ?_
                | refine thn_k ?_
                | refine swp_true rfl ?_
                | refine swp_false rfl ?_
                | refine swp_block ?_
                | refine swp_skip ?_
                )
              rw [hst] at osX2
              exact ⟨rfl, ⟨i' + 1 + 1, HX2⟩, next_ok (by repeat first | exact Sub.nil _ | refine Sub.cons rfl ?_), ⟨by dsimp only; omega, osX2⟩, by dsimp only; omega⟩
          · have ei : i = wl.length := by omega
            rw [ei, rowV_congr fun u _ => hwf u] at osX
            repeat' (first
              | refine swp_seq ?_
              | (refine gk 0 rfl ?_; first | refine sl_op rfl rfl rfl (by first | exact opv_move rfl rfl | exact opv_assign rfl rfl ) ?_ )
              | (refine gk 1 rfl ?_; first | refine sl_op rfl rfl rfl (by first | exact opv_add64 rfl rfl rfl (by omega) (by omega) ) ?_ )
              | (refine gk 2 rfl ?_; first | refine sl_no rfl rfl rfl (by first | exact opv_lss rfl rfl rfl ) (by first | omega ) ?_ )
              | (refine gk 3 rfl ?_; first | refine sl_op rfl rfl rfl (by first | exact opv_load rfl (by exact rfl) rfl (by exact rfl) | exact opv_fieldAddr rfl rfl ) ?_ )
              | (refine gk 4 rfl ?_; first | refine sl_op rfl rfl rfl (by first | exact opv_len rfl rfl rfl rfl rfl ) ?_)
              | refine sl_region rfl ?_
              | refine sl_nil ?_
              | refine thn_k ?_
              | refine swp_false rfl ?_
              | refine swp_exit ?_
              )
            exact ⟨rfl, ⟨o + 1, HX⟩, next_ok (by repeat first | exact Sub.nil _ | refine Sub.cons rfl ?_), ⟨ho2, osX⟩, by dsimp only; omega⟩
    · have hok : o = kk := by omega
      repeat' (first
        | refine swp_seq ?_
        | (refine gk 0 rfl ?_; first | refine sl_op rfl rfl rfl (by first | exact opv_move rfl rfl | exact opv_assign rfl rfl ) ?_ )
        | (refine gk 2 rfl ?_; first | refine sl_no rfl rfl rfl (by first | exact opv_lss rfl rfl rfl ) (by first | omega ) ?_ )
        | refine sl_region rfl ?_
        | refine sl_nil ?_
        | refine thn_k ?_
        | refine swp_false rfl ?_
        | refine swp_block ?_
        | refine swp_exit ?_
        )
      refine swp_loopS (fun t : Nat => [(3, i64 (n : Int)), (4, i64 (kk : Int)), (5, ptr βs), (6, .slice (some ⟨βg, 0, none⟩) (n * kk) (n * kk)), (7, .slice (some ⟨βz, 0, none⟩) (n * kk) (n * kk)), (8, .slice be es.length ce), (9, i64 (j : Int)), (12, .slice (some ⟨bx, 0, none⟩) n n), (18, i64 (t : Int))])
        (fun _ => [BB, N, specB βs bt bo n n kk kk σ2.rel, HT2, HO2, OP2, HG, HS, HX])
        (fun t => t ≤ n) (fun t => n - t) 0 (by repeat first | exact Sub.nil _ | refine Sub.cons rfl ?_) (Nat.zero_le _) ?_
      intro t ht
      haveI slX := osX.sl
      have lX := rowV_length n (wf σ2 o)
      by_cases ht2 : t < n
      · have hXt : (rowV n (wf σ2 o))[((t : Nat) : Int).toNat * 1]? = some (i64 (wf σ2 o t)) := rowV_at ht2
        have hXl : ((t : Nat) : Int).toNat * 1 < (rowV n (wf σ2 o)).length := by rw [lX, Int.toNat_natCast, Nat.mul_one]; exact ht2
        have hb := wf_le σ2 o t
        repeat' (first
          | refine swp_seq ?_
          | (refine gk 0 rfl ?_; first | refine sl_op rfl rfl rfl (by first | exact opv_move rfl rfl | exact opv_assign rfl rfl ) ?_ )
          | (refine gk 1 rfl ?_; first | refine sl_op rfl rfl rfl (by first | exact opv_add64 rfl rfl rfl (by omega) (by omega) ) ?_ )
          | (refine gk 2 rfl ?_; first | refine sl_yes rfl rfl rfl (by first | exact opv_lss rfl rfl rfl | exact opv_gtr rfl rfl rfl ) (by first | omega ) ?_ | refine sl_no rfl rfl rfl (by first | exact opv_gtr rfl rfl rfl ) (by first | omega ) ?_ )
          | (refine gk 3 rfl ?_; first | refine sl_op rfl rfl rfl (by first | exact opv_indexAddrI rfl rfl rfl (by omega) (by omega) (by first | omega ) | exact opv_loadEx rfl (by exact rfl) (by infer_instance) (by first | assumption ) ) ?_ )
          | refine sl_region rfl ?_
          | refine sl_nil ?_
          | refine thn_k ?_
          | refine swp_true rfl ?_
          | refine swp_false rfl ?_
          | refine swp_block ?_
          | refine swp_skip ?_
          )
        exact ⟨rfl, t + 1, next_ok (by repeat first | exact Sub.nil _ | refine Sub.cons rfl ?_), ht2, by omega⟩
      · repeat' (first
          | refine swp_seq ?_
          | (refine gk 0 rfl ?_; first | refine sl_op rfl rfl rfl (by first | exact opv_move rfl rfl | exact opv_assign rfl rfl ) ?_ )
          | (refine gk 1 rfl ?_; first | refine sl_op rfl rfl rfl (by first | exact opv_add64 rfl rfl rfl (by omega) (by omega) ) ?_ )
          | (refine gk 2 rfl ?_; first | refine sl_no rfl rfl rfl (by first | exact opv_lss rfl rfl rfl ) (by first | omega ) ?_ )
          | refine sl_region rfl ?_
          | refine sl_nil ?_
          | refine thn_k ?_
          | refine swp_false rfl ?_
          | refine swp_exit ?_
          )
        exact ⟨rfl, ⟨j + 1, δ2, σ2, g2, s2, HT2, HO2, OP2, HG, HS⟩, next_ok (by repeat first | exact Sub.nil _ | refine Sub.cons rfl ?_), ⟨hj2, au2, rl2, htk, ow2, osG, osS⟩, by dsimp only; omega⟩
  · repeat' (first
      | refine swp_seq ?_
      | (refine gk 0 rfl ?_; first | refine sl_op rfl rfl rfl (by first | exact opv_move rfl rfl | exact opv_assign rfl rfl ) ?_ )
      | (refine gk 2 rfl ?_; first | refine sl_no rfl rfl rfl (by first | exact opv_lss rfl rfl rfl ) (by first | omega ) ?_ )
      | (refine gk 4 rfl ?_; first | refine sl_op rfl rfl rfl (by first | exact opv_len rfl rfl rfl rfl rfl ) ?_)
      | refine sl_region rfl ?_
      | refine sl_nil ?_
      | refine thn_k ?_
      | refine swp_false rfl ?_
      | refine swp_ret ?_
      | refine swp_exit ?_
      )
    exact end_retL [BB] (resOk_one (resV_tmp rfl)) ⟨rfl, rfl⟩
end Go.Proofs.Ytimmclibnfdjhaa
