/- What is seen of an object. -/
import Derived.Test.YtimmclibnfdjhaaWB16
import Derived.Test.YtimmclibnfdjhaaSlG9
set_option linter.unusedVariables false
set_option linter.unusedSimpArgs false
set_option linter.unusedSectionVars false
namespace Go.Proofs.Ytimmclibnfdjhaa
open Go.SL
set_option maxRecDepth 100000
set_option maxHeartbeats 16000000
attribute [local irreducible] SL.T PFn OpV SOL SWP HOp ChU
section
variable {βs : Nat} {bt bo : Option Addr} {n ct k co : Nat} {rel : Int} {HT HO OP : Heap} {bs : List (Option Nat)} {σ : St}
theorem view_calls (m : MemOk bt bo ct co HT HO OP bs σ) (hn : σ.th.length = n) (hk : σ.ob.length = k) (hsm : n ≤ 1000000) (hsk : k ≤ 1000000) {o : Int} (h0 : 0 ≤ o) (ho : o < k) {p : Int × Int} (hp : σ.ob[o.toNat]? = some p) :
    SL.T Try.prog 12 [ptr βs, i64 o] [specB βs bt bo n ct k co σ.rel, HT, HO, OP] fun e w => ∃ N b c, e = .returned (.agg ⟨[i64 p.1, i64 p.2, .slice b (wlist [2, 3] o 0 σ.th).length c]⟩) ∧ w = [specB βs bt bo n ct k co σ.rel, HT, HO, OP, N] ∧ OS N b (wlist [2, 3] o 0 σ.th).length c 3 1 (natV (wlist [2, 3] o 0 σ.th)) := by
  haveI := m.nT
  haveI := m.nO
  haveI slT := m.hT.sl
  haveI slO := m.hO.sl
  have hC := fun β1 β2 β3 b =>
    haveI slF : Sl (blk b (.cells ⟨[i64 2, i64 3]⟩ 3 (0, 0))) (some ⟨b, 0, none⟩) ([2, 3].map i64) := Sl.blk
    collect_calls β1 β2 β3 βs bt bo n ct k co σ.rel o (some ⟨b, 0, none⟩) 2 2 [2, 3] HT OP (blk b (.cells ⟨[i64 2, i64 3]⟩ 3 (0, 0))) bs σ.th rfl (by decide) hn hsm m.op
  unfold SeqQ at hC
  obtain ⟨c1, c2⟩ := obCells_at hp
  have hl := obCells_length σ.ob
  have hol : o.toNat * 2 < (obCells σ.ob).length := by omega
  have hc1 : (obCells σ.ob)[o.toNat * 2 + 0]? = some (i64 p.1) := c1
  refine t_of_body Try.func12 rfl (Nat.le_of_ble_eq_true rfl) fun F => ?_
  repeat' (first
    | refine swp_seq ?_
    | (refine gk 0 rfl ?_; first | refine sl_op rfl rfl rfl (by first | exact opv_move rfl rfl | exact opv_pick_f rfl rfl rfl ) ?_ )
    | (refine gk 2 rfl ?_; first | refine sl_no rfl rfl rfl (by first | exact opv_lss rfl rfl rfl | exact opv_geq rfl rfl rfl ) (by first | omega ) ?_ | refine sl_op rfl rfl rfl (by first | exact opv_ptrEql rfl rfl ) ?_ )
    | (refine gk 3 rfl ?_; first | refine sl_op rfl rfl rfl (by first | exact opv_load rfl (by exact rfl) rfl (by exact rfl) | exact opv_fieldAddr rfl rfl ) ?_ )
    | (refine gk 4 rfl ?_; first | refine sl_op rfl rfl rfl (by first | exact opv_len rfl rfl rfl rfl rfl ) ?_)
    | (refine gk 5 rfl ?_; first | refine sl_op rfl rfl rfl (by first | exact opv_nilCheck rfl rfl ) ?_ | refine sl_alloc rfl rfl rfl rfl (by exact rfl) (fun β => ?_) )
    | refine sl_region rfl ?_
    | refine sl_nil ?_
    | refine thn_k ?_
    | refine swp_false rfl ?_
    | refine swp_skip ?_
    )
  refine sl_drawC [.q [0, 1, 2, 3, 4, 5, 6, 7, 8, 9, 10, 11, 12, 13, 14, 15, 16, 17], .an 18, .rv 18, .h false 19, .h false 20, .q [21], .h true 22] [] (by kernel_rfl) (by kernel_rfl) (by kernel_rfl) (by kernel_rfl) ?_
  repeat' (first
    | (refine gk 0 rfl ?_; first | refine sl_op rfl rfl rfl (by first | exact opv_move rfl rfl ) ?_ )
    | (refine gk 3 rfl ?_; first | refine sl_op rfl rfl rfl (by first | exact opv_load rfl (by exact rfl) rfl (by exact rfl) | exact opv_fieldAddr rfl rfl | exact opv_indexAddrI rfl rfl rfl (by omega) (by omega) (by first | omega ) | exact opv_fieldAddrE rfl rfl (by first | assumption ) | exact opv_loadEx rfl (by exact rfl) (by infer_instance) (by first | assumption ) ) ?_ )
    | (refine gk 5 rfl ?_; first | refine sl_op rfl rfl rfl (by first | exact opv_nilCheck rfl rfl ) ?_ )
    | refine chu_q rfl ?_
    | refine chu_new rfl rfl (by first | exact new_buildSlice rfl rfl (by exact rfl) (by exact rfl) (by exact rfl) (by exact rfl) (by exact rfl)) ?_
    | refine chu_rv rfl rfl rfl (fun β => ?_)
    | (refine chu_T rfl rfl rfl rfl rfl rfl rfl rfl (waiting_calls _ _ _ _ _) (by rintro _ _ ⟨β1, β2, β3, rfl, rfl⟩; exact ⟨_, rfl⟩) ?_; rintro _ _ ⟨β1, β2, β3, rfl, rfl⟩; refine ⟨_, _, rfl, rfl, ?_⟩)
    | refine sl_nil ?_
    )
  repeat' (first
    | (refine gk 5 rfl ?_; first | refine sl_op rfl rfl rfl (by first | exact opv_build rfl rfl (by exact rfl) ) ?_ )
    | refine chu_nil ?_
    | refine chu_q rfl ?_
    | refine chu_store rfl rfl rfl rfl rfl rfl (by exact rfl) rfl (by exact rfl) (by exact rfl) ?_
    | (refine chu_T rfl rfl rfl rfl rfl rfl rfl rfl (hC β1 β2 β3 β) (by rintro _ _ ⟨N, J, b, c, rfl, rfl, os⟩; exact ⟨_, rfl⟩) ?_; rintro _ _ ⟨N, J, b, c, rfl, rfl, os⟩; refine ⟨_, _, rfl, rfl, ?_⟩)
    | refine sl_nil ?_
    | refine thn_k ?_
    | refine swp_ret ?_
    )
  exact end_retL [specB βs bt bo n ct k co σ.rel, HT, HO, OP, N] (resOk_one (resV_cellA rfl rfl rfl rfl)) ⟨N, b, c, rfl, rfl, os⟩
end
end Go.Proofs.Ytimmclibnfdjhaa
