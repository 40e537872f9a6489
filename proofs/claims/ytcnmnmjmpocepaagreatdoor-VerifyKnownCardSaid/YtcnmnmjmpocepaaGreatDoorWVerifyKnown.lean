/- The statement VerifyKnown holds, as a row and as its tied card: its function hands back true. There are no conditions beyond the row's own. -/
import Derived.Test.YtcnmnmjmpocepaaGreatDoorU00
import Derived.Test.YtcnmnmjmpocepaaGreatDoorU11
import Derived.Test.YtcnmnmjmpocepaaGreatDoorU37
import Derived.Test.YtcnmnmjmpocepaaGreatDoorU48
import Derived.ChangeMaps5
import Derived.SevenTiedAt
import Derived.Test.YtcnmnmjmpocepaaGreatDoorCards
import Derived.Test.YtcnmnmjmpocepaaGreatDoorTie
set_option linter.unusedVariables false
set_option linter.unusedSimpArgs false
set_option linter.unusedSectionVars false
set_option maxRecDepth 100000
set_option maxHeartbeats 16000000
namespace Go.Proofs.YtcnmnmjmpocepaaGreatDoor.verifyKnown
open Go.ChangeShapes Go.WideShapes Go.ChangeAt Go.RowKit Go.SL
theorem own:ownKnob Tryz.prog.godebug=none:=by kernel_rfl
set_option maxRecDepth 1000000 in
theorem lifted(os:Os)(started:os.Started)(H:Type)(enc:TypeId×Value->H):
    ReturnsInHanded {} Tryz.checked os 7 .any (fun w args=>(Rows.verifyKnownSpec.pre enc Tryz.prog Tryz.f7 [] false w args/\laidMetH Tryz.prog Iz w)/\sizedMet enc Tryz.prog Tryz.f7 (OpenSpec.ofChange Rows.verifyKnownSpec) false w args)
      (Rows.verifyKnownSpec.post enc Tryz.prog Tryz.f7 false true false false):=by
  refine returnsInHanded_of_change_and (C:=Tryz.checked) (X:=fun w _=>laidMetH Tryz.prog Iz w) (fun _ _ _ hh h=>h.of_heap hh) own started Ac Tryz.func7
    (ChangeSpec.witness_at (enc:=enc) (C:=Tryz.checked) (os:=os) (X:=fun w _=>laidMetH Tryz.prog Iz w) false (JW os) #[] 8 rfl Ac Ac Ac Ac Ac (Ih os _)) ?_
  intro W base args ds gs before Sv hW fm _ hL _;have hval:∀(j:Nat) t v,Tryz.f7.params[j]?=some t->args[j]?=some v->Value.okWide Tryz.prog W .any base t v:=Sv;have hW':=hW;obtain⟨p,q,fu,hV,hb,gA,j5⟩:=hW;have hA:DataW.TrodAll enc Tryz.prog W 0 (fun _=>true) true Tryz.f7.params.toList args.toList ds p:=fu;obtain⟨hg,hq⟩:=trodVars_none hV;rw [Tryz.params7] at hval
  have UA:=hA;rw [Tryz.params7] at UA
  obtain⟨ha,hd, -⟩:=trodAll_none UA;subst ha;haveI:=UG hL
  skip
  refine(C7.cf W (known_law (H:=wh W))).mono fun e W' ⟨he,hle⟩=> ?_
  subst he;exact⟨_,rfl,QR hW' hA (by rw [hb,hq,List.append_nil]) hg rfl (by subst hd;rfl) Ac Ac Tryz.underlying4 hle⟩
theorem over:Rows.verifyKnownRow.holds Tryz.pinned (OpenSpec.ofChange Rows.verifyKnownSpec):=
  OpenClaim.holds_of_wide 7 Tryz.f7 rfl rfl rfl rfl rfl rfl rfl ⟨rfl,rfl,rfl,rfl,rfl⟩ rfl rfl rfl rfl rfl Ac Tryz.func7 Ac
    (of_decide_eq_true Ac) (by unfold Func.isWrapper;first|(rw [if_pos (by decide +kernel)];kernel_rfl)|(rw [if_neg (by decide +kernel)];exact⟨rfl,rfl⟩))
    (fun os started H enc _=>lifted os started H enc)
set_option maxRecDepth 1000000 in
theorem proved:Rows.VerifyKnownCardSaid:=
  Claim7.holds_tied_plain_at .later [] [.handle] true (true, "760102a18bca63e77c9bb6d6a15533d9c54960990c7a917ee437026724e7d99a") true
    over (fun _ h=>by cases h) Ac (fun _ h=>by cases h) verifyKnown_row_tie rfl ⟨rfl,rfl⟩ Ac rfl
    (fun f fn hf da=>by
      obtain rfl:f=7:=Option.some.inj ((show Tryz.prog.funcNamed "doorkeeper/doorkeeperlaw30.VerifyKnown" =some 7 by kernel_rfl).symm.trans hf)|>.symm
      obtain rfl:fn=Tryz.f7:=(Option.some.inj (Tryz.func7.symm.trans da)).symm;exact⟨by kernel_rfl,fun j t ht=>by
        rw [Tryz.params7] at ht
        simp at ht⟩)
    Ac
#print axioms proved
end Go.Proofs.YtcnmnmjmpocepaaGreatDoor.verifyKnown
