/- The table of what instructions do. -/
import Derived.Test.YtnfepffmlhmmhaaWC2
import Derived.Test.YtnfepffmlhmmhaaSlG9
namespace Go.Proofs.Ytnfepffmlhmmhaa
open Go.SL
set_option maxRecDepth 100000
set_option maxHeartbeats 16000000
attribute [local irreducible] SL.T PFn OpV SOL SWP HOp ChU RowC
abbrev alV (b1 b2 : Nat) : Value := .func (.func 27) #[] #[.pointer (some ⟨b1, 0, none⟩), .pointer (some ⟨b2, 0, none⟩)]
theorem al_calls (b1 b2 : Option Addr) (n1 n2 c1 c2 : Nat) :
    SL.T Try.prog 26 [.slice b1 n1 c1, .slice b2 n2 c2] [] fun e o => ∃ β1 β2, e = .returned (alV β1 β2) ∧ o = [blk β1 (.cells ⟨[.slice b1 n1 c1]⟩ 23 (0, 0)), blk β2 (.cells ⟨[.slice b2 n2 c2]⟩ 23 (0, 0))] := by
  refine t_of_body Try.func26 rfl (Nat.le_of_ble_eq_true rfl) fun F => ?_
  repeat' (first
    | refine swp_seq ?_
    | (refine gk 0 rfl ?_; first | refine sl_op rfl rfl rfl (by first | exact opv_assign rfl rfl | exact opv_makeFunc rfl rfl rfl) ?_ )
    | (refine gk 5 rfl ?_; first | refine sl_box rfl rfl rfl rfl rfl rfl (fun β => ?_) )
    | refine sl_region rfl ?_
    | refine sl_nil ?_
    | refine thn_k ?_
    | refine swp_ret ?_
    )
  rename_i β1
  exact end_retL [blk β1 (.cells ⟨[.slice b1 n1 c1]⟩ 23 (0, 0)), blk β (.cells ⟨[.slice b2 n2 c2]⟩ 23 (0, 0))] (resOk_one (resV_tmp rfl)) ⟨β1, β, rfl, rfl⟩
abbrev juV (bp b1 : Nat) : Value := .func (.func 29) #[] #[.pointer (some ⟨bp, 0, none⟩), .pointer (some ⟨b1, 0, none⟩)]
theorem ju_calls (bp : Nat) (b1 : Option Addr) (n1 c1 : Nat) :
    SL.T Try.prog 28 [.slice b1 n1 c1, .pointer (some ⟨bp, 0, none⟩)] [] fun e o => ∃ β1, e = .returned (juV bp β1) ∧ o = [blk β1 (.cells ⟨[.slice b1 n1 c1]⟩ 23 (0, 0))] := by
  refine t_of_body Try.func28 rfl (Nat.le_of_ble_eq_true rfl) fun F => ?_
  repeat' (first
    | refine swp_seq ?_
    | (refine gk 0 rfl ?_; first | refine sl_op rfl rfl rfl (by first | exact opv_assign rfl rfl | exact opv_makeFunc rfl rfl rfl) ?_ )
    | (refine gk 5 rfl ?_; first | refine sl_box rfl rfl rfl rfl rfl rfl (fun β => ?_) )
    | refine sl_region rfl ?_
    | refine sl_nil ?_
    | refine thn_k ?_
    | refine swp_ret ?_
    )
  exact end_retL [blk β (.cells ⟨[.slice b1 n1 c1]⟩ 23 (0, 0))] (resOk_one (resV_tmp rfl)) ⟨β, rfl, rfl⟩
/-- What an instruction takes and puts, by its number. -/
def rowOf (im : Im) (m : Me) (loc : List Int) (op a b : Int) : Option Row :=
  if op = 0 then some ⟨true, [], [0]⟩
  else if op = 1 then some ⟨inL im.cls a, [], [up a]⟩
  else if op = 2 then some ⟨inL loc a, [], [if inL loc a then loc.getD a.toNat 0 else 0]⟩
  else if op = 3 then some ⟨inL loc a, [-2], []⟩
  else if op = 4 then some ⟨true, [0, 0], [0]⟩
  else if op = 5 then some ⟨true, [0, 0], [0]⟩
  else if op = 6 then some ⟨inL m.code a, [], []⟩
  else if op = 7 then some ⟨inL m.code a, [0], []⟩
  else if op = 8 then some ⟨inL m.code a, [0, 0], []⟩
  else if op = 9 then some ⟨inL im.cls a, [], [up a]⟩
  else if op = 10 then some ⟨(fieldOf im a b).isSome, [up b], [(fieldOf im a b).getD 0]⟩
  else if op = 11 then some ⟨(fieldOf im a b).isSome, [up b, (fieldOf im a b).getD 0], []⟩
  else if op = 12 then some ⟨true, [-3], []⟩
  else if op = 13 then some ⟨true, [-3], []⟩
  else if op = 14 then some ⟨true, [-3], [0]⟩
  else if op = 15 then some ⟨true, [-3], []⟩
  else if op = 16 then some ⟨true, [-3], []⟩
  else if op = 17 then some ⟨(callOf im a).isSome, (callOf im a).getD [], [0]⟩
  else if op = 18 then some ⟨(callOf im a).isSome, (callOf im a).getD [], [0]⟩
  else if op = 19 then some ⟨true, [0], []⟩
  else if op = 20 then some ⟨true, [0], []⟩
  else none
/-- A table of what instructions do. -/
def TabOk (K : Heap) (p : Pl) (im : Im) (m : Me) (loc : List Int) (f : Int → Option Value) : Prop :=
  ∀ z, match rowOf im m loc z p.a p.b with
    | none => f z = none
    | some r => ∃ g first cap all, Enters Try.prog g ∧ f z = some (.func (.func g) first cap) ∧ appO first.toList [] cap.toList = some all ∧ RowC g all K r
theorem fixed_calls (K : Heap) (p : Pl) (im : Im) (m : Me) (loc : List Int) (ok : PlOk K p im m loc) :
    SL.T Try.prog 19 [.agg ⟨p.cells⟩] [K] fun e o => ∃ hM K' bm f, o = [K', hM] ∧ hle K K' ∧ e = .returned (.map (some bm)) ∧ MP hM bm .i64 f ∧ TabOk K' p im m loc f := by
  refine (T_joinP (R := fun e A N => ∃ hM bm f, A = [hM] ∧ K ∈ N ∧ e = .returned (.map (some bm)) ∧ MP hM bm .i64 f ∧ ∀ K', (∀ k ∈ N, hle k K') → TabOk K' p im m loc f) ?_).mono ?_
  · refine t_of_body Try.func19 rfl (Nat.le_of_ble_eq_true rfl) fun F => ?_
    repeat' (first
      | refine swp_seq ?_
      | (refine gk 0 rfl ?_; first | refine sl_op rfl rfl rfl (by first | exact opv_move rfl rfl | exact opv_assign rfl rfl | exact opv_makeFunc rfl rfl rfl) ?_ )
      | (refine gk 4 rfl ?_; first | refine sl_op rfl rfl rfl (opv_call rfl rfl rfl rfl rfl (list_calls [] _)) ?_ | (refine sl_callT rfl rfl rfl rfl rfl rfl rfl rfl (al_calls _ _ _ _ _ _) ?_; rintro _ _ ⟨β1, β2, rfl, rfl⟩; refine ⟨_, _, rfl, rfl, ?_⟩) )
      | (refine gk 5 rfl ?_; first | refine sl_buildSlice rfl rfl rfl rfl rfl (by exact rfl) (by exact rfl) (by exact rfl) (by exact rfl) rfl (fun b => ?_) | refine sl_box rfl rfl rfl rfl rfl rfl (fun β => ?_) )
      | refine sl_region rfl ?_
      | refine sl_nil ?_
      )
    refine DM.sl_drawM [.an 0, .q [1, 2, 5], .fi 6 0, .q [7], .fi 8 0, .q [9, 10, 11, 14, 15, 16, 19, 22, 23, 26, 27, 30], .fi 31 0, .q [32], .fi 33 0, .q [34], .fi 35 0, .q [36], .fi 37 0, .q [38], .an 39, .q [41, 44, 45, 48, 49, 52, 53], .fi 54 0, .q [55, 56], .fi 57 0, .q [58, 59], .fi 60 0, .q [61, 62], .fi 63 0, .q [64, 65], .fi 66 0, .q [67, 68], .fi 69 0, .h false 3, .fi 4 0, .h false 12, .fi 13 0, .h false 17, .fi 18 0, .h false 20, .fi 21 0, .h false 24, .fi 25 0, .h false 28, .fi 29 0, .rv 39, .h false 40, .h false 42, .fi 43 0, .h false 46, .fi 47 0, .h false 50, .fi 51 0, .rv 0, .q [70, 71]] [] (by kernel_rfl) (by kernel_rfl) (by kernel_rfl) (by kernel_rfl) ?_
    repeat' (first
      | (refine gk 0 rfl ?_; first | refine sl_op rfl rfl rfl (by first | exact opv_move rfl rfl | exact opv_assign rfl rfl | exact opv_makeFunc rfl rfl rfl) ?_ )
      | (refine gk 3 rfl ?_; first | refine sl_op rfl rfl rfl (by first | exact opv_loadA rfl (by exact rfl) rfl (by exact rfl) (by exact rfl) ) ?_ )
      | refine DM.chu_nil ?_
      | refine DM.chu_q rfl ?_
      | refine DM.chu_new rfl rfl (by first | exact DM.new_makeMap rfl | exact DM.new_of (new_buildSlice rfl rfl (by exact rfl) (by exact rfl) (by exact rfl) (by exact rfl) (by exact rfl))) ?_
      | refine DM.chu_rvm rfl rfl rfl (fun _ => rfl) rfl (fun bm hM mp => ?_)
      | refine DM.chu_rv rfl rfl rfl (fun _ _ h => h) (fun β => ?_)
      | refine DM.chu_fi rfl rfl rfl rfl rfl (by kernel_rfl) (by intro h; cases h) (by intro h; cases h) rfl rfl rfl (fun _ => rfl) rfl ?_
      | refine DM.chu_P rfl rfl rfl rfl rfl rfl rfl rfl (list_calls [] _) rfl ?_
      | (refine DM.chu_T rfl rfl rfl rfl rfl rfl rfl rfl (al_calls _ _ _ _ _ _) (by rintro _ _ ⟨β1, β2, rfl, rfl⟩; exact ⟨_, rfl⟩) ?_; rintro _ _ ⟨β1, β2, rfl, rfl⟩; refine ⟨_, _, rfl, rfl, ?_⟩)
      | (refine DM.chu_T rfl rfl rfl rfl rfl rfl rfl rfl (ju_calls _ _ _ _) (by rintro _ _ ⟨β1, rfl, rfl⟩; exact ⟨_, rfl⟩) ?_; rintro _ _ ⟨β1, rfl, rfl⟩; refine ⟨_, _, rfl, rfl, ?_⟩)
      | refine sl_nil ?_
      | refine thn_k ?_
      | refine swp_ret ?_
      )
    rename_i βp bn bt u1 u2 a1 a2 c1 c2 d1 d2 j6 j7 j8 e1 e2 g1 g2
    refine end_retW _ (resOk_one (resV_tmp rfl)) (fun F w s => s) ⟨[hM], _, (List.perm_append_singleton hM _).symm, hM, bm, _, rfl, ?_, rfl, mp, ?_⟩
    · repeat first | exact List.mem_cons_self .. | apply List.mem_cons_of_mem
    intro K' hK
    have ok' : PlOk K' p im m loc := ok.mono (hK K (by repeat first | exact List.mem_cons_self .. | apply List.mem_cons_of_mem))
    haveI hp : InH K' βp (.cells ⟨p.cells⟩ 68 (0, 0)) := ⟨hle_blk.1 (hK _ (by repeat first | exact List.mem_cons_self .. | apply List.mem_cons_of_mem))⟩
    have sn : Sl K' (some ⟨bn, 0, none⟩) ([0].map i64) := (Sl.blk (cs := [i64 0])).mono (hK (blk bn (.cells ⟨[i64 0]⟩ 27 (0, 0))) (by repeat first | exact List.mem_cons_self .. | apply List.mem_cons_of_mem))
    have st : Sl K' (some ⟨bt, 0, none⟩) ([0, 0].map i64) := (Sl.blk (cs := [i64 0, i64 0])).mono (hK (blk bt (.cells ⟨[i64 0, i64 0]⟩ 27 (0, 0))) (by repeat first | exact List.mem_cons_self .. | apply List.mem_cons_of_mem))
    have sr : Sl K' (some ⟨b, 0, none⟩) ([-3].map i64) := (Sl.blk (cs := [i64 (-3)])).mono (hK (blk b (.cells ⟨[i64 (-3)]⟩ 27 (0, 0))) (by repeat first | exact List.mem_cons_self .. | apply List.mem_cons_of_mem))
    have sr2 : Sl K' (some ⟨β, 0, none⟩) ([-3].map i64) := (Sl.blk (cs := [i64 (-3)])).mono (hK (blk β (.cells ⟨[i64 (-3)]⟩ 27 (0, 0))) (by repeat first | exact List.mem_cons_self .. | apply List.mem_cons_of_mem))
    haveI : InH K' a1 (.cells ⟨[.slice none 0 0]⟩ 23 (0, 0)) := ⟨hle_blk.1 (hK _ (by repeat first | exact List.mem_cons_self .. | apply List.mem_cons_of_mem))⟩
    haveI : InH K' a2 (.cells ⟨[.slice (some ⟨bn, 0, none⟩) 1 1]⟩ 23 (0, 0)) := ⟨hle_blk.1 (hK _ (by repeat first | exact List.mem_cons_self .. | apply List.mem_cons_of_mem))⟩
    haveI : InH K' c1 (.cells ⟨[.slice (some ⟨bt, 0, none⟩) 2 2]⟩ 23 (0, 0)) := ⟨hle_blk.1 (hK _ (by repeat first | exact List.mem_cons_self .. | apply List.mem_cons_of_mem))⟩
    haveI : InH K' c2 (.cells ⟨[.slice (some ⟨bn, 0, none⟩) 1 1]⟩ 23 (0, 0)) := ⟨hle_blk.1 (hK _ (by repeat first | exact List.mem_cons_self .. | apply List.mem_cons_of_mem))⟩
    haveI : InH K' d1 (.cells ⟨[.slice (some ⟨bt, 0, none⟩) 2 2]⟩ 23 (0, 0)) := ⟨hle_blk.1 (hK _ (by repeat first | exact List.mem_cons_self .. | apply List.mem_cons_of_mem))⟩
    haveI : InH K' d2 (.cells ⟨[.slice (some ⟨bn, 0, none⟩) 1 1]⟩ 23 (0, 0)) := ⟨hle_blk.1 (hK _ (by repeat first | exact List.mem_cons_self .. | apply List.mem_cons_of_mem))⟩
    haveI : InH K' u1 (.cells ⟨[.slice (some ⟨b, 0, none⟩) 1 1]⟩ 23 (0, 0)) := ⟨hle_blk.1 (hK _ (by repeat first | exact List.mem_cons_self .. | apply List.mem_cons_of_mem))⟩
    haveI : InH K' u2 (.cells ⟨[.slice none 0 0]⟩ 23 (0, 0)) := ⟨hle_blk.1 (hK _ (by repeat first | exact List.mem_cons_self .. | apply List.mem_cons_of_mem))⟩
    haveI : InH K' e1 (.cells ⟨[.slice (some ⟨β, 0, none⟩) 1 1]⟩ 23 (0, 0)) := ⟨hle_blk.1 (hK _ (by repeat first | exact List.mem_cons_self .. | apply List.mem_cons_of_mem))⟩
    haveI : InH K' e2 (.cells ⟨[.slice (some ⟨bn, 0, none⟩) 1 1]⟩ 23 (0, 0)) := ⟨hle_blk.1 (hK _ (by repeat first | exact List.mem_cons_self .. | apply List.mem_cons_of_mem))⟩
    haveI : InH K' g1 (.cells ⟨[.slice (some ⟨bn, 0, none⟩) 1 1]⟩ 23 (0, 0)) := ⟨hle_blk.1 (hK _ (by repeat first | exact List.mem_cons_self .. | apply List.mem_cons_of_mem))⟩
    haveI : InH K' g2 (.cells ⟨[.slice none 0 0]⟩ 23 (0, 0)) := ⟨hle_blk.1 (hK _ (by repeat first | exact List.mem_cons_self .. | apply List.mem_cons_of_mem))⟩
    haveI : InH K' β1 (.cells ⟨[.slice (some ⟨bn, 0, none⟩) 1 1]⟩ 23 (0, 0)) := ⟨hle_blk.1 (hK _ (by repeat first | exact List.mem_cons_self .. | apply List.mem_cons_of_mem))⟩
    haveI : InH K' β2 (.cells ⟨[.slice none 0 0]⟩ 23 (0, 0)) := ⟨hle_blk.1 (hK _ (by repeat first | exact List.mem_cons_self .. | apply List.mem_cons_of_mem))⟩
    haveI : InH K' j6 (.cells ⟨[.slice none 0 0]⟩ 23 (0, 0)) := ⟨hle_blk.1 (hK _ (by repeat first | exact List.mem_cons_self .. | apply List.mem_cons_of_mem))⟩
    haveI : InH K' j7 (.cells ⟨[.slice (some ⟨bn, 0, none⟩) 1 1]⟩ 23 (0, 0)) := ⟨hle_blk.1 (hK _ (by repeat first | exact List.mem_cons_self .. | apply List.mem_cons_of_mem))⟩
    haveI : InH K' j8 (.cells ⟨[.slice (some ⟨bt, 0, none⟩) 2 2]⟩ 23 (0, 0)) := ⟨hle_blk.1 (hK _ (by repeat first | exact List.mem_cons_self .. | apply List.mem_cons_of_mem))⟩
    intro z
    by_cases h0 : z = 0
    · subst h0
      exact (show _ from ⟨27, _, _, _, inferInstance, rfl, rfl, always_calls K' a1 a2 none 0 0 (some ⟨bn, 0, none⟩) 1 1 [] [0] Sl.none sn rfl rfl⟩)
    by_cases h1 : z = 1
    · subst h1
      exact (show _ from ⟨30, _, _, _, inferInstance, rfl, rfl, made_calls K' βp p im m loc ok'⟩)
    by_cases h2 : z = 2
    · subst h2
      exact (show _ from ⟨32, _, _, _, inferInstance, rfl, rfl, load_calls K' p im m loc ok'⟩)
    by_cases h3 : z = 3
    · subst h3
      exact (show _ from ⟨33, _, _, _, inferInstance, rfl, rfl, store_calls K' p im m loc ok'⟩)
    by_cases h4 : z = 4
    · subst h4
      exact (show _ from ⟨27, _, _, _, inferInstance, rfl, rfl, always_calls K' c1 c2 (some ⟨bt, 0, none⟩) 2 2 (some ⟨bn, 0, none⟩) 1 1 [0, 0] [0] st sn rfl rfl⟩)
    by_cases h5 : z = 5
    · subst h5
      exact (show _ from ⟨27, _, _, _, inferInstance, rfl, rfl, always_calls K' d1 d2 (some ⟨bt, 0, none⟩) 2 2 (some ⟨bn, 0, none⟩) 1 1 [0, 0] [0] st sn rfl rfl⟩)
    by_cases h6 : z = 6
    · subst h6
      exact (show _ from ⟨29, _, _, _, inferInstance, rfl, rfl, jumps_calls K' βp j6 p im m loc none 0 0 [] ok' Sl.none rfl⟩)
    by_cases h7 : z = 7
    · subst h7
      exact (show _ from ⟨29, _, _, _, inferInstance, rfl, rfl, jumps_calls K' βp j7 p im m loc (some ⟨bn, 0, none⟩) 1 1 [0] ok' sn rfl⟩)
    by_cases h8 : z = 8
    · subst h8
      exact (show _ from ⟨29, _, _, _, inferInstance, rfl, rfl, jumps_calls K' βp j8 p im m loc (some ⟨bt, 0, none⟩) 2 2 [0, 0] ok' st rfl⟩)
    by_cases h9 : z = 9
    · subst h9
      exact (show _ from ⟨30, _, _, _, inferInstance, rfl, rfl, made_calls K' βp p im m loc ok'⟩)
    by_cases h10 : z = 10
    · subst h10
      exact (show _ from ⟨34, _, _, _, inferInstance, rfl, rfl, get_calls K' p im m loc ok'⟩)
    by_cases h11 : z = 11
    · subst h11
      exact (show _ from ⟨35, _, _, _, inferInstance, rfl, rfl, put_calls K' p im m loc ok'⟩)
    by_cases h12 : z = 12
    · subst h12
      exact (show _ from ⟨27, _, _, _, inferInstance, rfl, rfl, always_calls K' u1 u2 (some ⟨b, 0, none⟩) 1 1 none 0 0 [-3] [] sr Sl.none rfl rfl⟩)
    by_cases h13 : z = 13
    · subst h13
      exact (show _ from ⟨27, _, _, _, inferInstance, rfl, rfl, always_calls K' u1 u2 (some ⟨b, 0, none⟩) 1 1 none 0 0 [-3] [] sr Sl.none rfl rfl⟩)
    by_cases h14 : z = 14
    · subst h14
      exact (show _ from ⟨27, _, _, _, inferInstance, rfl, rfl, always_calls K' e1 e2 (some ⟨β, 0, none⟩) 1 1 (some ⟨bn, 0, none⟩) 1 1 [-3] [0] sr2 sn rfl rfl⟩)
    by_cases h15 : z = 15
    · subst h15
      exact (show _ from ⟨27, _, _, _, inferInstance, rfl, rfl, always_calls K' u1 u2 (some ⟨b, 0, none⟩) 1 1 none 0 0 [-3] [] sr Sl.none rfl rfl⟩)
    by_cases h16 : z = 16
    · subst h16
      exact (show _ from ⟨27, _, _, _, inferInstance, rfl, rfl, always_calls K' u1 u2 (some ⟨b, 0, none⟩) 1 1 none 0 0 [-3] [] sr Sl.none rfl rfl⟩)
    by_cases h17 : z = 17
    · subst h17
      exact (show _ from ⟨36, _, _, _, inferInstance, rfl, rfl, call_calls K' p im m loc ok'⟩)
    by_cases h18 : z = 18
    · subst h18
      exact (show _ from ⟨36, _, _, _, inferInstance, rfl, rfl, call_calls K' p im m loc ok'⟩)
    by_cases h19 : z = 19
    · subst h19
      exact (show _ from ⟨27, _, _, _, inferInstance, rfl, rfl, always_calls K' g1 g2 (some ⟨bn, 0, none⟩) 1 1 none 0 0 [0] [] sn Sl.none rfl rfl⟩)
    by_cases h20 : z = 20
    · subst h20
      exact (show _ from ⟨27, _, _, _, inferInstance, rfl, rfl, always_calls K' β1 β2 (some ⟨bn, 0, none⟩) 1 1 none 0 0 [0] [] sn Sl.none rfl rfl⟩)
    have hr : rowOf im m loc z p.a p.b = none := by simp only [rowOf, h0, h1, h2, h3, h4, h5, h6, h7, h8, h9, h10, h11, h12, h13, h14, h15, h16, h17, h18, h19, h20, if_false]
    rw [hr]
    show DM.fOf _ 0 z = none
    simp only [DM.fOf, h0, h1, h2, h3, h4, h5, h6, h7, h8, h9, h10, h11, h12, h13, h14, h15, h16, h17, h18, h19, h20, if_false, if_true]
  · rintro e o ⟨A, N, K', rfl, hK, hM, bm, f, rfl, hKN, rfl, mp, h⟩
    exact ⟨hM, K', bm, f, rfl, hK K hKN, rfl, mp, h K' hK⟩
theorem fixed_D (K : Heap) (p : Pl) (im : Im) (m : Me) (loc : List Int) (ok : PlOk K p im m loc) :
    SL.T Try.prog 19 [.agg ⟨p.cells⟩] [K] fun e o => ∃ Kn hM bm f K', o = [K, Kn, hM] ∧ (∀ K2, hle K K2 → hle Kn K2 → hle K' K2) ∧ e = .returned (.map (some bm)) ∧ MP hM bm .i64 f ∧ TabOk K' p im m loc f := by
  refine (T_diff (R := fun e K' rest => ∃ hM bm f, rest = [hM] ∧ e = .returned (.map (some bm)) ∧ MP hM bm .i64 f ∧ TabOk K' p im m loc f) ((fixed_calls K p im m loc ok).mono ?_)).mono ?_
  · rintro e o ⟨hM, K', bm, f, rfl, h1, h2, h3, h4⟩
    exact ⟨K', [hM], rfl, h1, hM, bm, f, rfl, h2, h3, h4⟩
  · rintro e o ⟨Kn, rest, K', rfl, h1, hM, bm, f, rfl, h2, h3, h4⟩
    exact ⟨Kn, hM, bm, f, K', rfl, h1, h2, h3, h4⟩
theorem RowC.more {g : FuncId} {all : List Value} {K K2 : Heap} {r : Row} (h : RowC g all K r) (hk : hle K K2) : SL.T Try.prog g all [K2] (RowQ r K2) := by
  unfold RowC at h
  refine T_more (Q := fun e K' => ∃ tb tn tc pb pn pc, e = .returned (rowV r.is tb tn tc pb pn pc) ∧ Sl K' tb (r.take.map i64) ∧ Sl K' pb (r.put.map i64) ∧ r.take.length = tn ∧ r.put.length = pn) ?_ h hk
  rintro e A B hAB ⟨tb, tn, tc, pb, pn, pc, h1, h2, h3, h4⟩
  exact ⟨tb, tn, tc, pb, pn, pc, h1, h2.mono hAB, h3.mono hAB, h4⟩
end Go.Proofs.Ytnfepffmlhmmhaa
