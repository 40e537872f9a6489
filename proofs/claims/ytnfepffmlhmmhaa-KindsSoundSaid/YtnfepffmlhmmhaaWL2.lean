/- The law KindsSound, walked. -/
import Derived.Test.YtnfepffmlhmmhaaWC6
import Derived.Test.YtnfepffmlhmmhaaWRZ
namespace Go.Proofs.Ytnfepffmlhmmhaa
open Go.SL
set_option maxRecDepth 100000
set_option maxHeartbeats 16000000
attribute [local irreducible] SL.T PFn OpV SOL SWP HOp ChU RowC
theorem P_of_le {f : FuncId} {args : List Value} {J : Heap} {v : Value} (h : SL.T Try.prog f args [J] fun e o => ∃ K, o = [K] ∧ hle J K ∧ e = .returned v) : PFn Try.prog f args [J] v := by
  unfold PFn SL.T at *
  intro w X s
  refine (h w X s).mono ?_
  rintro e w' ⟨o, s2, K, rfl, hK, rfl⟩
  refine ⟨[J], ⟨fun k hk => ?_, ?_⟩, rfl, rfl⟩
  · rcases List.mem_cons.1 hk with rfl | hk
    · exact hK.trans (s2.le K (by simp))
    · exact s2.le k (List.mem_cons_of_mem _ hk)
  · obtain ⟨d1, d2⟩ := List.pairwise_cons.1 s2.dj
    exact List.pairwise_cons.2 ⟨fun k hk b o o' x y => d1 k hk b o o' (hK b o x) y, d2⟩
theorem fewL_length (zs : List Int) : (few zs).length ≤ 12 := by simp [few]; omega
theorem Same_K (K : Heap) (a b a' b' : Option Addr) (n m n' m' c d c' d' : Nat) (xs ys : List Int) (s1 : Sl K a (xs.map i64)) (s2 : Sl K b (ys.map i64)) (s3 : Sl K a' (xs.map i64)) (s4 : Sl K b' (ys.map i64))
    (h1 : xs.length = n) (h2 : ys.length = m) (h3 : xs.length = n') (h4 : ys.length = m') (hsm : n ≤ 4000000) (hsm2 : m ≤ 4000000) :
    PFn Try.prog 9 [fr a b n m c d, fr a' b' n' m' c' d'] [K] (.bool true) := by
  haveI := s1; haveI := s2; haveI := s3; haveI := s4
  exact (Same_calls [K] a b a' b' n m n' m' c d c' d' xs ys xs ys h1 h2 h3 h4 hsm hsm2).to (by rw [decide_eq_true ⟨rfl, rfl⟩])
structure SC where
  j : Nat
  h : Heap
  b : Option Addr
  c : Nat
  bl : List Int
attribute [local irreducible] few joinL stepF in
theorem KindsSound_calls (J : Heap) (clb mb ab bb sb : Option Addr) (cln clc mn mc an ac bn bc sn sc : Nat) (M A op a b : Int) (cls : List (List Int)) (ms : List Me) (za zb zs : List Int) (hcls : ClsIn J cls clb cln) (hms : MsIn J ms mb mn) (hM : 0 ≤ M ∧ M ≤ 255) (hA : 0 ≤ A ∧ A ≤ 255)
    (slA : Sl J ab (za.map i64)) (slB : Sl J bb (zb.map i64)) (slS : Sl J sb (zs.map i64)) (hal : za.length = an) (hbl : zb.length = bn) (hsl : zs.length = sn) (han : an ≤ 9223372036854775807) (hbn : bn ≤ 9223372036854775807) (hsn : sn ≤ 9223372036854775807) :
    PFn Try.prog 4 [.agg ⟨[.slice clb cln clc, .slice mb mn mc, .int .u8 M, .int .u8 A, .slice ab an ac, .slice bb bn bc, .slice sb sn sc, i64 op, i64 a, i64 b]⟩] [J] (.bool true) := by
  refine P_of_le ?_
  have fA := fewL_length za
  have fS := fewL_length zs
  refine t_of_body Try.func4 rfl (Nat.le_of_ble_eq_true rfl) fun F => ?_
  refine swp_emp ?_
  repeat' (first
    | refine swp_seq ?_
    | (refine gk 0 rfl ?_; first | refine sl_op rfl rfl rfl (by first | exact opv_move rfl rfl | exact opv_assign rfl rfl | exact opv_not_t rfl rfl | exact opv_extract rfl rfl rfl ) ?_ )
    | (refine gk 3 rfl ?_; first | refine sl_op rfl rfl rfl (by first | exact opv_loadA rfl (by exact rfl) rfl (by exact rfl) (by exact rfl) ) ?_ )
    | (refine gk 4 rfl ?_; first | refine sl_op rfl rfl rfl (opv_call rfl rfl rfl rfl rfl (run6)) ?_ | (refine sl_callT rfl rfl rfl rfl rfl rfl rfl rfl (image_calls J clb mb ab bb sb cln clc mn mc an ac bn bc sn sc M A op a b cls ms hcls hms hM hA han) ?_; rintro _ _ ⟨K, rfl, lK, im, clb', mb', cln', clc', mn', mc', mi, at_, m, rfl, hcls', hms', hmi, hm, hat⟩; haveI slA' := slA.mono lK; haveI slS' := slS.mono lK; refine ⟨_, _, rfl, rfl, ?_⟩))
    | (refine gk 5 rfl ?_; first | refine sl_box rfl rfl rfl rfl rfl rfl (fun β => ?_) | refine sl_alloc rfl rfl rfl rfl (by exact rfl) (fun β => ?_) | refine sl_store rfl rfl rfl rfl rfl rfl (by exact rfl) rfl (by exact rfl) ?_)
    | refine sl_region rfl ?_
    | refine sl_nil ?_
    | refine thn_k ?_
    | refine swp_false rfl ?_
    | refine swp_skip ?_
    )
  refine sl_drawC [.q [0, 1, 3, 4, 7, 8], .an 11, .an 12, .h false 2, .h false 5, .q [6], .h false 9, .f [10], .rv 11, .rv 12, .h true 13, .h true 14] [] (by kernel_rfl) (by kernel_rfl) (by kernel_rfl) (by kernel_rfl) ?_
  repeat' (first
    | refine swp_seq ?_
    | (refine gk 0 rfl ?_; first | refine sl_op rfl rfl rfl (by first | exact opv_assign rfl rfl ) ?_ )
    | (refine gk 3 rfl ?_; first | refine sl_op rfl rfl rfl (by first | exact opv_load rfl (by exact rfl) rfl (by exact rfl) | exact opv_fieldAddr rfl rfl ) ?_ )
    | (refine gk 5 rfl ?_; first | refine sl_op rfl rfl rfl (by first | exact opv_build rfl rfl (by exact rfl) ) ?_ )
    | refine sl_region rfl ?_
    | refine chu_nil ?_
    | refine chu_q rfl ?_
    | refine chu_f rfl ?_
    | refine chu_new rfl rfl (by first | exact new_alloc rfl (by exact rfl) ) ?_
    | refine chu_rv rfl rfl rfl (fun β => ?_)
    | refine chu_store rfl rfl rfl rfl rfl rfl (by exact rfl) rfl (by exact rfl) (by exact rfl) ?_
    | (refine chu_callW rfl rfl rfl rfl rfl rfl rfl rfl (few_W _ _ _ _ za hal han) ?_; rintro _ _ ⟨hF, bF, nF, cF, rfl, rfl, hnF, osF⟩; refine ⟨_, _, rfl, rfl, ?_⟩)
    | (refine chu_callW rfl rfl rfl rfl rfl rfl rfl rfl (few_W _ _ _ _ zs hsl hsn) ?_; rintro _ _ ⟨hG, bG, nG, cG, rfl, rfl, hnG, osG⟩; refine ⟨_, _, rfl, rfl, ?_⟩)
    | refine sl_nil ?_
    | refine thn_k ?_
    | refine swp_block ?_
    )
  rename_i βd βx hG1 bG1 nG1 cG1 hnG1 osG1 βa
  obtain ⟨βb, rfl⟩ : ∃ x, x = β := ⟨_, rfl⟩
  refine swp_joinB (S := SC) (fun s => [(1, .pointer (some ⟨βd, 0, none⟩)), (3, .pointer (some ⟨βx, 0, none⟩)), (4, i64 (mi : Int)), (5, i64 (at_ : Int)), (6, .pointer (some ⟨βa, 0, none⟩)), (7, .pointer (some ⟨βb, 0, none⟩))])
    (fun s => [blk βb (.cells ⟨[.slice s.b s.j s.c, .slice bG nG cG]⟩ 26 (0, 0)), blk βa (.cells ⟨[.slice bF nF cF, .slice bG1 nG1 cG1]⟩ 26 (0, 0)), blk βx (.cells ⟨[.slice clb' cln' clc', .slice mb' mn' mc']⟩ 37 (0, 0)), K, blk βd (.cells ⟨[.slice clb cln clc, .slice mb mn mc, .int .u8 M, .int .u8 A, .slice ab an ac, .slice bb bn bc, .slice sb sn sc, i64 op, i64 a, i64 b]⟩ 41 (0, 0)), s.h, hF, hG1, hG])
    (fun s => OS s.h s.b s.j s.c 27 1 (s.bl.map i64) ∧ s.bl.length = s.j ∧ s.j = nF) ?_ ?_
  · refine swp_loopS (fun s : SC => [(1, .pointer (some ⟨βd, 0, none⟩)), (3, .pointer (some ⟨βx, 0, none⟩)), (4, i64 (mi : Int)), (5, i64 (at_ : Int)), (6, .pointer (some ⟨βa, 0, none⟩)), (7, .pointer (some ⟨βb, 0, none⟩)), (8, i64 (s.j : Int))])
      (fun s => [blk βb (.cells ⟨[.slice s.b s.j s.c, .slice bG nG cG]⟩ 26 (0, 0)), blk βa (.cells ⟨[.slice bF nF cF, .slice bG1 nG1 cG1]⟩ 26 (0, 0)), blk βx (.cells ⟨[.slice clb' cln' clc', .slice mb' mn' mc']⟩ 37 (0, 0)), K, blk βd (.cells ⟨[.slice clb cln clc, .slice mb mn mc, .int .u8 M, .int .u8 A, .slice ab an ac, .slice bb bn bc, .slice sb sn sc, i64 op, i64 a, i64 b]⟩ 41 (0, 0)), s.h, hF, hG1, hG])
      (fun s => OS s.h s.b s.j s.c 27 1 (s.bl.map i64) ∧ s.bl.length = s.j ∧ s.j ≤ nF)
      (fun s => nF - s.j) ⟨0, emp, none, 0, []⟩ (by repeat first | exact Sub.nil _ | refine Sub.cons rfl ?_) ⟨OS.nil, rfl, Nat.zero_le _⟩ ?_
    rintro ⟨j, H, hb, hc, bl⟩ ⟨os, hbl2, hj⟩
    dsimp only at os hbl2 hj ⊢
    haveI := osF.sl
    haveI := slB.mono lK
    by_cases hj2 : j < nF
    · obtain ⟨x, hx⟩ : ∃ z, (few za)[j]? = some z := ⟨_, List.getElem?_eq_getElem (by omega)⟩
      have hcx : ((few za).map i64)[((j : Nat) : Int).toNat * 1]? = some (i64 x) := by simp [hx]
      by_cases hjb : j < bn
      · obtain ⟨w, hw⟩ : ∃ z, zb[j]? = some z := ⟨_, List.getElem?_eq_getElem (by omega)⟩
        have hcw : (zb.map i64)[((j : Nat) : Int).toNat * 1]? = some (i64 w) := by simp [hw]
        repeat' (first
          | refine swp_seq ?_
          | (refine gk 0 rfl ?_; first | refine sl_op rfl rfl rfl (by first | exact opv_move rfl rfl | exact opv_assign rfl rfl ) ?_ )
          | (refine gk 1 rfl ?_; first | refine sl_op rfl rfl rfl (by first | exact opv_add64 rfl rfl rfl (by omega) (by omega) ) ?_ )
          | (refine gk 2 rfl ?_; first | refine sl_yes rfl rfl rfl (by first | exact opv_lss rfl rfl rfl ) (by first | omega ) ?_ )
          | (refine gk 3 rfl ?_; first | refine sl_op rfl rfl rfl (by first | exact opv_load rfl (by exact rfl) rfl (by exact rfl) | exact opv_fieldAddr rfl rfl | exact opv_indexAddrI rfl rfl rfl (by omega) (by omega) (by first | (simp only [List.length_map]; omega) ) | exact opv_loadEx rfl (by exact rfl) (by infer_instance) (by first | assumption ) ) ?_ )
          | (refine gk 4 rfl ?_; first | refine sl_op rfl rfl rfl (by first | exact opv_len rfl rfl rfl rfl rfl | exact opv_max rfl rfl rfl rfl rfl) ?_ | refine sl_append rfl rfl rfl rfl rfl rfl rfl rfl rfl os (by decide) rfl (by decide) rfl (by omega) (by omega) (fun h' b' c' os' => ?_))
          | (refine gk 5 rfl ?_; first | refine sl_buildSlice rfl rfl rfl rfl rfl (by exact rfl) (by exact rfl) (by exact rfl) (by exact rfl) rfl (fun b => ?_) | refine sl_store rfl rfl rfl rfl rfl rfl (by exact rfl) rfl (by exact rfl) ?_)
          | refine sl_region rfl ?_
          | refine sl_nil ?_
          | refine thn_k ?_
          | refine swp_true rfl ?_
          | refine swp_block ?_
          | refine swp_skip ?_
          )
        exact ⟨rfl, ⟨j + 1, h', b', c', bl ++ [max (-1) w]⟩, next_ok (by repeat first | exact Sub.nil _ | refine Sub.cons rfl ?_), ⟨by rw [List.map_append]; exact os', by simp [hbl2], by dsimp only; omega⟩, by dsimp only; omega⟩
      · repeat' (first
          | refine swp_seq ?_
          | (refine gk 0 rfl ?_; first | refine sl_op rfl rfl rfl (by first | exact opv_move rfl rfl | exact opv_assign rfl rfl ) ?_ )
          | (refine gk 1 rfl ?_; first | refine sl_op rfl rfl rfl (by first | exact opv_add64 rfl rfl rfl (by omega) (by omega) ) ?_ )
          | (refine gk 2 rfl ?_; first | refine sl_yes rfl rfl rfl (by first | exact opv_lss rfl rfl rfl ) (by first | omega ) ?_ | refine sl_no rfl rfl rfl (by first | exact opv_lss rfl rfl rfl ) (by first | omega ) ?_ )
          | (refine gk 3 rfl ?_; first | refine sl_op rfl rfl rfl (by first | exact opv_load rfl (by exact rfl) rfl (by exact rfl) | exact opv_fieldAddr rfl rfl | exact opv_indexAddrI rfl rfl rfl (by omega) (by omega) (by first | (simp only [List.length_map]; omega) ) | exact opv_loadEx rfl (by exact rfl) (by infer_instance) (by first | assumption ) ) ?_ )
          | (refine gk 4 rfl ?_; first | refine sl_op rfl rfl rfl (by first | exact opv_len rfl rfl rfl rfl rfl ) ?_ | refine sl_append rfl rfl rfl rfl rfl rfl rfl rfl rfl os (by decide) rfl (by decide) rfl (by omega) (by omega) (fun h' b' c' os' => ?_))
          | (refine gk 5 rfl ?_; first | refine sl_buildSlice rfl rfl rfl rfl rfl (by exact rfl) (by exact rfl) (by exact rfl) (by exact rfl) rfl (fun b => ?_) | refine sl_store rfl rfl rfl rfl rfl rfl (by exact rfl) rfl (by exact rfl) ?_)
          | refine sl_region rfl ?_
          | refine sl_nil ?_
          | refine thn_k ?_
          | refine swp_true rfl ?_
          | refine swp_false rfl ?_
          | refine swp_block ?_
          | refine swp_skip ?_
          )
        exact ⟨rfl, ⟨j + 1, h', b', c', bl ++ [x]⟩, next_ok (by repeat first | exact Sub.nil _ | refine Sub.cons rfl ?_), ⟨by rw [List.map_append]; exact os', by simp [hbl2], by dsimp only; omega⟩, by dsimp only; omega⟩
    · repeat' (first
        | refine swp_seq ?_
        | (refine gk 0 rfl ?_; first | refine sl_op rfl rfl rfl (by first | exact opv_move rfl rfl ) ?_ )
        | (refine gk 2 rfl ?_; first | refine sl_no rfl rfl rfl (by first | exact opv_lss rfl rfl rfl ) (by first | omega ) ?_ )
        | (refine gk 3 rfl ?_; first | refine sl_op rfl rfl rfl (by first | exact opv_load rfl (by exact rfl) rfl (by exact rfl) | exact opv_fieldAddr rfl rfl ) ?_ )
        | (refine gk 4 rfl ?_; first | refine sl_op rfl rfl rfl (by first | exact opv_len rfl rfl rfl rfl rfl ) ?_)
        | refine sl_region rfl ?_
        | refine sl_nil ?_
        | refine thn_k ?_
        | refine swp_false rfl ?_
        | refine swp_exit ?_
        | refine thn_exit ?_
        | refine inb_exit ?_
        )
      exact ⟨rfl, ⟨j, H, hb, hc, bl⟩, next_ok (by repeat first | exact Sub.nil _ | refine Sub.cons rfl ?_), os, hbl2, by dsimp only; omega⟩
  rintro ⟨j, H, hb, hc, bl⟩ ⟨os, hbl2, hj⟩
  dsimp only at os hbl2 hj ⊢
  subst hj
  refine swp_merge [K, H, hF, hG1, hG] fun K1 hK1 => ?_
  have l1 : hle K K1 := hK1 K (by simp)
  have sB := os.sl.mono (hK1 H (by simp))
  have sA := osF.sl.mono (hK1 hF (by simp))
  have sS := osG1.sl.mono (hK1 hG1 (by simp))
  have sS2 := osG.sl.mono (hK1 hG (by simp))
  have c1 := hcls'.mono l1
  have c2 := hms'.mono l1
  have hcapA := osG1.hle
  have hcapB := osG.hle
  generalize few za = FA at *
  generalize few zs = FS at *
  have hlab : FA.length = bl.length := by omega
  have hJ := Join_K K1 bF bG1 hb bG j nG1 j nG cF cG1 hc cG FA FS bl FS sA sS sB sS2 hnF.symm hnG1.symm hbl2 hnG.symm (by omega) (by omega) rfl rfl
  have hsound := step_sound im (mi : Int) (at_ : Int) FA bl FS hlab
  rcases hsound with ⟨r1, r2, r3⟩ | r1 | ⟨lA, lB, s, r1, r2, r3, r4, r5, r6, r7⟩
  · repeat' (first
      | refine swp_seq ?_
      | (refine gk 0 rfl ?_; first | refine sl_op rfl rfl rfl (by first | exact opv_move rfl rfl | exact opv_assign rfl rfl | exact opv_pick_t rfl rfl rfl | exact opv_pick_f rfl rfl rfl | exact opv_not_t rfl rfl | exact opv_extract rfl rfl rfl ) ?_ )
      | (refine gk 2 rfl ?_; first | refine sl_yes rfl rfl rfl (by first | exact opv_eql rfl rfl rfl | exact opv_neq rfl rfl rfl) (by first | omega ) ?_ | refine sl_no rfl rfl rfl (by first | exact opv_neq rfl rfl rfl) (by first | omega ) ?_ )
      | (refine gk 3 rfl ?_; first | refine sl_op rfl rfl rfl (by first | exact opv_loadA rfl (by exact rfl) rfl (by exact rfl) (by exact rfl) ) ?_ )
      | (refine gk 4 rfl ?_; first | (refine sl_callT rfl rfl rfl rfl rfl rfl rfl rfl (hJ) ?_; rintro _ _ ⟨K2, rfl, l2, b1, d1, b2, d2, rfl, sJ, sJS, hcapJ⟩; have hS1 := Step_calls K2 im clb' mb' b1 b2 cln' clc' mn' mc' j d1 nG1 d2 (mi : Int) (at_ : Int) (joinL FA bl) FS (c1.mono l2) (c2.mono l2) sJ sJS (by rw [joinL_length hlab]; omega) (by omega) (by omega) (by omega) hcapJ; rw [r1] at hS1; refine ⟨_, _, rfl, rfl, ?_⟩) | (refine sl_callT rfl rfl rfl rfl rfl rfl rfl rfl (hS1) ?_; rintro _ _ ⟨K3, rfl, l3, rfl⟩; have q3 := l2.trans l3; have hS2 := Step_calls K3 im clb' mb' bF bG1 cln' clc' mn' mc' j cF nG1 cG1 (mi : Int) (at_ : Int) FA FS (c1.mono q3) (c2.mono q3) (sA.mono q3) (sS.mono q3) hnF.symm (by omega) (by omega) (by omega) hcapA; rw [r2] at hS2; refine ⟨_, _, rfl, rfl, ?_⟩) | (refine sl_callT rfl rfl rfl rfl rfl rfl rfl rfl (hS2) ?_; rintro _ _ ⟨K4, rfl, l4, rfl⟩; have q4 := q3.trans l4; have hS3 := Step_calls K4 im clb' mb' hb bG cln' clc' mn' mc' j hc nG cG (mi : Int) (at_ : Int) bl FS (c1.mono q4) (c2.mono q4) (sB.mono q4) (sS2.mono q4) hbl2 (by omega) (by omega) (by omega) hcapB; rw [r3] at hS3; refine ⟨_, _, rfl, rfl, ?_⟩) | (refine sl_callT rfl rfl rfl rfl rfl rfl rfl rfl (hS3) ?_; rintro _ _ ⟨K5, rfl, l5, rfl⟩; refine ⟨_, _, rfl, rfl, ?_⟩) | refine sl_op rfl rfl rfl (opv_call rfl rfl rfl rfl rfl (Same_K K5 none none none none 0 0 0 0 0 0 0 0 [] [] Sl.none Sl.none Sl.none Sl.none rfl rfl rfl rfl (by omega) (by omega))) ?_)
      | (refine gk 5 rfl ?_; first | refine sl_op rfl rfl rfl (by first | exact opv_build rfl rfl (by exact rfl) ) ?_ | refine sl_alloc rfl rfl rfl rfl (by exact rfl) (fun β => ?_) | refine sl_store rfl rfl rfl rfl rfl rfl (by exact rfl) rfl (by exact rfl) ?_)
      | refine sl_region rfl ?_
      | refine sl_nil ?_
      | refine thn_k ?_
      | refine swp_true rfl ?_
      | refine swp_false rfl ?_
      | refine swp_ret ?_
      | refine swp_skip ?_
      | refine thn_ret ?_
      )
    exact end_retL [K5] (resOk_one (resV_tmp rfl)) ⟨K5, rfl, lK.trans (l1.trans (q4.trans l5)), rfl⟩
  · repeat' (first
      | refine swp_seq ?_
      | (refine gk 0 rfl ?_; first | refine sl_op rfl rfl rfl (by first | exact opv_move rfl rfl | exact opv_assign rfl rfl | exact opv_pick_f rfl rfl rfl | exact opv_not_t rfl rfl | exact opv_extract rfl rfl rfl ) ?_ | refine sl_pass rfl rfl rfl rfl ?_)
      | (refine gk 2 rfl ?_; first | refine sl_pass rfl rfl rfl rfl ?_ | refine sl_yes rfl rfl rfl (by first | exact opv_eql rfl rfl rfl | exact opv_neq rfl rfl rfl) (by first | omega ) ?_ | refine sl_no rfl rfl rfl (by first | exact opv_eql rfl rfl rfl ) (by first | omega ) ?_ )
      | (refine gk 3 rfl ?_; first | refine sl_op rfl rfl rfl (by first | exact opv_loadA rfl (by exact rfl) rfl (by exact rfl) (by exact rfl) ) ?_ )
      | (refine gk 4 rfl ?_; first | (refine sl_callT rfl rfl rfl rfl rfl rfl rfl rfl (hJ) ?_; rintro _ _ ⟨K2, rfl, l2, b1, d1, b2, d2, rfl, sJ, sJS, hcapJ⟩; have hS1 := Step_calls K2 im clb' mb' b1 b2 cln' clc' mn' mc' j d1 nG1 d2 (mi : Int) (at_ : Int) (joinL FA bl) FS (c1.mono l2) (c2.mono l2) sJ sJS (by rw [joinL_length hlab]; omega) (by omega) (by omega) (by omega) hcapJ; rw [r1] at hS1; refine ⟨_, _, rfl, rfl, ?_⟩) | (refine sl_callT rfl rfl rfl rfl rfl rfl rfl rfl (hS1) ?_; rintro _ _ ⟨K3, rfl, l3, rfl⟩; have q3 := l2.trans l3; have hS2 := Step_any (Step_calls K3 im clb' mb' bF bG1 cln' clc' mn' mc' j cF nG1 cG1 (mi : Int) (at_ : Int) FA FS (c1.mono q3) (c2.mono q3) (sA.mono q3) (sS.mono q3) hnF.symm (by omega) (by omega) (by omega) hcapA); refine ⟨_, _, rfl, rfl, ?_⟩) | (refine sl_callT rfl rfl rfl rfl rfl rfl rfl rfl (hS2) ?_; rintro _ _ ⟨K4, rfl, l4, u1, u2, u3, u4, u5, u6, u7, rfl⟩; have q4 := q3.trans l4; have hS3 := Step_any (Step_calls K4 im clb' mb' hb bG cln' clc' mn' mc' j hc nG cG (mi : Int) (at_ : Int) bl FS (c1.mono q4) (c2.mono q4) (sB.mono q4) (sS2.mono q4) hbl2 (by omega) (by omega) (by omega) hcapB); refine ⟨_, _, rfl, rfl, ?_⟩) | (refine sl_callT rfl rfl rfl rfl rfl rfl rfl rfl (hS3) ?_; rintro _ _ ⟨K5, rfl, l5, v1, v2, v3, v4, v5, v6, v7, rfl⟩; refine ⟨_, _, rfl, rfl, ?_⟩) | refine sl_op rfl rfl rfl (opv_call rfl rfl rfl rfl rfl (Same_K K5 none none none none 0 0 0 0 0 0 0 0 [] [] Sl.none Sl.none Sl.none Sl.none rfl rfl rfl rfl (by omega) (by omega))) ?_)
      | (refine gk 5 rfl ?_; first | refine sl_op rfl rfl rfl (by first | exact opv_build rfl rfl (by exact rfl) ) ?_ | refine sl_alloc rfl rfl rfl rfl (by exact rfl) (fun β => ?_) | refine sl_store rfl rfl rfl rfl rfl rfl (by exact rfl) rfl (by exact rfl) ?_)
      | refine sl_region rfl ?_
      | refine sl_nil ?_
      | refine thn_k ?_
      | refine swp_true rfl ?_
      | refine swp_false rfl ?_
      | refine swp_ret ?_
      | refine swp_skip ?_
      | refine thn_ret ?_
      )
    exact end_retL [K5] (resOk_one (resV_tmp rfl)) ⟨K5, rfl, lK.trans (l1.trans (q4.trans l5)), rfl⟩
  · obtain ⟨vals, w1, w2, w3, w4, w5⟩ := c2
    have c2 : MsOk K1 im.ms mb' mn' := ⟨vals, w1, w2, w3, w4, w5⟩
    obtain ⟨pb, pn, pc, cb, cn, cc, g1, g2, g3, g4, -⟩ := w5 _ _ hm
    have hst := r7 m hm
    have hcm : vals[((mi : Nat) : Int).toNat * 4 + 2]? = some (i64 m.st) := g3
    have hlm : ((mi : Nat) : Int).toNat * 4 < vals.length := by simp; omega
    have hjl : (joinL lA lB).length = j := by rw [joinL_length (by omega)]; omega
    repeat' (first
      | refine swp_seq ?_
      | (refine gk 0 rfl ?_; first | refine sl_op rfl rfl rfl (by first | exact opv_move rfl rfl | exact opv_assign rfl rfl | exact opv_pick_f rfl rfl rfl | exact opv_not_t rfl rfl | exact opv_extract rfl rfl rfl ) ?_ | refine sl_pass rfl rfl rfl rfl ?_)
      | (refine gk 2 rfl ?_; first | refine sl_pass rfl rfl rfl rfl ?_ | refine sl_no rfl rfl rfl (by first | exact opv_eql rfl rfl rfl | exact opv_neq rfl rfl rfl) (by first | omega ) ?_ )
      | (refine gk 3 rfl ?_; first | refine sl_op rfl rfl rfl (by first | exact opv_loadA rfl (by exact rfl) rfl (by exact rfl) (by exact rfl) ) ?_ )
      | (refine gk 4 rfl ?_; first | (refine sl_callT rfl rfl rfl rfl rfl rfl rfl rfl (hJ) ?_; rintro _ _ ⟨K2, rfl, l2, b1, d1, b2, d2, rfl, sJ, sJS, hcapJ⟩; have hS1 := Step_calls K2 im clb' mb' b1 b2 cln' clc' mn' mc' j d1 nG1 d2 (mi : Int) (at_ : Int) (joinL FA bl) FS (c1.mono l2) (c2.mono l2) sJ sJS (by rw [joinL_length hlab]; omega) (by omega) (by omega) (by omega) hcapJ; rw [r1] at hS1; refine ⟨_, _, rfl, rfl, ?_⟩) | (refine sl_callT rfl rfl rfl rfl rfl rfl rfl rfl (hS1) ?_; rintro _ _ ⟨K3, rfl, l3, e1, f1, e2, f2, rfl, sg1, sg2⟩; have q3 := l2.trans l3; have hS2 := Step_calls K3 im clb' mb' bF bG1 cln' clc' mn' mc' j cF nG1 cG1 (mi : Int) (at_ : Int) FA FS (c1.mono q3) (c2.mono q3) (sA.mono q3) (sS.mono q3) hnF.symm (by omega) (by omega) (by omega) hcapA; rw [r2] at hS2; refine ⟨_, _, rfl, rfl, ?_⟩) | (refine sl_callT rfl rfl rfl rfl rfl rfl rfl rfl (hS2) ?_; rintro _ _ ⟨K4, rfl, l4, e3, f3, e4, f4, rfl, sp1, sp2⟩; have q4 := q3.trans l4; have hS3 := Step_calls K4 im clb' mb' hb bG cln' clc' mn' mc' j hc nG cG (mi : Int) (at_ : Int) bl FS (c1.mono q4) (c2.mono q4) (sB.mono q4) (sS2.mono q4) hbl2 (by omega) (by omega) (by omega) hcapB; rw [r3] at hS3; refine ⟨_, _, rfl, rfl, ?_⟩) | (refine sl_callT rfl rfl rfl rfl rfl rfl rfl rfl (hS3) ?_; rintro _ _ ⟨K5, rfl, l5, e5, f5, e6, f6, rfl, sq1, sq2⟩; have q5 := q4.trans l5; have hJ2 := Join_K K5 e3 e4 e5 e6 lA.length s.length lB.length s.length f3 f4 f5 f6 lA s lB s (sp1.mono l5) (sp2.mono l5) sq1 sq2 rfl rfl rfl rfl (by omega) (by omega) (by omega) rfl; refine ⟨_, _, rfl, rfl, ?_⟩) | (refine sl_callT rfl rfl rfl rfl rfl rfl rfl rfl (hJ2) ?_; rintro _ _ ⟨K6, rfl, l6, m1, o1, m2, o2, rfl, sb1, sb2, hcap2⟩; haveI slV := w1.mono (q5.trans l6); refine ⟨_, _, rfl, rfl, ?_⟩))
      | (refine gk 5 rfl ?_; first | refine sl_alloc rfl rfl rfl rfl (by exact rfl) (fun β => ?_) | refine sl_store rfl rfl rfl rfl rfl rfl (by exact rfl) rfl (by exact rfl) ?_)
      | refine sl_region rfl ?_
      | refine sl_nil ?_
      | refine thn_k ?_
      | refine swp_false rfl ?_
      | refine swp_skip ?_
      )
    refine sl_draw (by kernel_rfl) (by kernel_rfl) rfl ?_
    repeat' (first
      | (refine gk 0 rfl ?_; first | refine sl_op rfl rfl rfl (by first | exact opv_move rfl rfl | exact opv_assign rfl rfl | exact opv_pick_t rfl rfl rfl ) ?_ )
      | (refine gk 2 rfl ?_; first | refine sl_yes rfl rfl rfl (by first | exact opv_leq rfl rfl rfl | exact opv_eql rfl rfl rfl ) (by first | omega ) ?_ )
      | (refine gk 3 rfl ?_; first | refine sl_op rfl rfl rfl (by first | exact opv_load rfl (by exact rfl) rfl (by exact rfl) | exact opv_fieldAddr rfl rfl | exact opv_loadA rfl (by exact rfl) rfl (by exact rfl) (by exact rfl) | exact opv_indexAddrI rfl rfl rfl (by omega) (by omega) (by first | omega ) | exact opv_fieldAddrE rfl rfl (by first | assumption ) | exact opv_loadEx rfl (by exact rfl) (by infer_instance) (by first | assumption ) ) ?_ )
      | (refine gk 4 rfl ?_; first | refine sl_op rfl rfl rfl (by first | exact opv_len rfl rfl rfl rfl rfl ) ?_ | refine sl_op rfl rfl rfl (opv_call rfl rfl rfl rfl rfl (Same_K K6 m1 m2 e1 e2 _ _ _ _ o1 o2 f1 f2 (joinL lA lB) s sb1 sb2 (sg1.mono (l4.trans (l5.trans l6))) (sg2.mono (l4.trans (l5.trans l6))) (by rw [joinL_length (by omega)]) rfl rfl rfl (by omega) (by omega))) ?_)
      | refine sl_nil ?_
      | refine thn_k ?_
      | refine swp_ret ?_
      )
    exact end_retL [K6] (resOk_one (resV_tmp rfl)) ⟨K6, rfl, lK.trans (l1.trans (q5.trans l6)), rfl⟩
end Go.Proofs.Ytnfepffmlhmmhaa
