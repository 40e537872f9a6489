/- The statement VerifyMade holds, as a row and as its tied card: for all its arguments its function hands back true, and its arguments read as before. There are no conditions beyond the row's own. -/
import Derived.Test.YtcnmnmjmpocepaaGreatDoorU00
import Derived.Test.YtcnmnmjmpocepaaGreatDoorU11
import Derived.Test.YtcnmnmjmpocepaaGreatDoorU37
import Derived.Test.YtcnmnmjmpocepaaGreatDoorU46
import Derived.ChangeMaps5
import Derived.SevenTiedAt
import Derived.Test.YtcnmnmjmpocepaaGreatDoorCards
import Derived.Test.YtcnmnmjmpocepaaGreatDoorTie
set_option linter.unusedVariables false
set_option linter.unusedSimpArgs false
set_option linter.unusedSectionVars false
set_option maxRecDepth 100000
set_option maxHeartbeats 16000000
namespace Go.Proofs.YtcnmnmjmpocepaaGreatDoor.verifyMade
open Go.ChangeShapes Go.WideShapes Go.ChangeAt Go.RowKit Go.SL
theorem own:ownKnob Tryz.prog.godebug=none:=by kernel_rfl
set_option maxRecDepth 1000000 in
theorem lifted(os:Os)(started:os.Started)(H:Type)(enc:TypeId×Value->H):
    ReturnsInHanded {} Tryz.checked os 6 .any (fun w args=>(Rows.verifyMadeSpec.pre enc Tryz.prog Tryz.f6 [] false w args/\laidMetH Tryz.prog Iz w)/\sizedMet enc Tryz.prog Tryz.f6 (OpenSpec.ofChange Rows.verifyMadeSpec) false w args)
      (Rows.verifyMadeSpec.post enc Tryz.prog Tryz.f6 false true false false):=by
  refine returnsInHanded_of_change_and (C:=Tryz.checked) (X:=fun w _=>laidMetH Tryz.prog Iz w) (fun _ _ _ hh h=>h.of_heap hh) own started Ac Tryz.func6
    (ChangeSpec.witness_at (enc:=enc) (C:=Tryz.checked) (os:=os) (X:=fun w _=>laidMetH Tryz.prog Iz w) false (JW os) #[.slice Option.none 0 0] 8 rfl Ac Ac Ac Ac Ac (Ih os _)) ?_
  intro W base args ds gs before Sv hW fm _ hL _;have hval:∀(j:Nat) t v,Tryz.f6.params[j]?=some t->args[j]?=some v->Value.okWide Tryz.prog W .any base t v:=Sv;have hW':=hW;obtain⟨p,q,fu,hV,hb,gA,j5⟩:=hW;have hA:DataW.TrodAll enc Tryz.prog W 0 (fun _=>true) true Tryz.f6.params.toList args.toList ds p:=fu;obtain⟨hg,hq⟩:=trodVars_none hV;rw [Tryz.params6] at hval
  have UA:=hA;rw [Tryz.params6] at UA
  obtain⟨v0,d0,ha,hd,h0⟩:=trodAll_one UA;subst ha;obtain⟨bI,eO,ja,rfl⟩:=okWide_slice Tryz.underlying22 (hval 0 22 v0 rfl rfl);obtain⟨fw,Xg⟩:=h0;obtain⟨gM,lE,ca,gh,lF,kz⟩:=IH Tryz.underlying22 Tryz.underlying5 Ac Xg;obtain⟨jo,gO,kx,kr⟩:=Nl gM fun x hx=>by obtain⟨n,rfl,hn⟩:=wf_u8 (kz x hx);omega
  have gO:gM.map (Value.int .u8)=jo.map Mx:=gO;have ca:Sl (wh W) bI (gM.map (Value.int .u8)):=ca;rw [gO] at ca
  have gh:eO≤9223372036854775807:=by unfold maxLen at gh;exact gh
  haveI:=UG hL;haveI:=ca;refine(C7.cf W (made_law (H:=wh W) bI eO ja jo (kx.trans lE) lF gh kr)).mono fun e W' ⟨he,hle⟩=> ?_
  subst he;exact⟨_,rfl,QR hW' hA (by rw [hb,hq,List.append_nil]) hg rfl (by subst hd;rfl) Ac Ac Tryz.underlying4 hle⟩
theorem over:Rows.verifyMadeRow.holds Tryz.pinned (OpenSpec.ofChange Rows.verifyMadeSpec):=
  OpenClaim.holds_of_wide 6 Tryz.f6 rfl rfl rfl rfl rfl rfl rfl ⟨rfl,rfl,rfl,rfl,rfl⟩ rfl rfl rfl rfl rfl Ac Tryz.func6 Ac
    (of_decide_eq_true Ac) (by unfold Func.isWrapper;first|(rw [if_pos (by decide +kernel)];kernel_rfl)|(rw [if_neg (by decide +kernel)];exact⟨rfl,rfl⟩))
    (fun os started H enc _=>lifted os started H enc)
set_option maxRecDepth 1000000 in
theorem proved:Rows.VerifyMadeCardSaid:=
  Claim7.holds_tied_plain_at .later [] [.handle] true (true, "760102a18bca63e77c9bb6d6a15533d9c54960990c7a917ee437026724e7d99a") true
    over (fun _ h=>by cases h) Ac (fun _ h=>by cases h) verifyMade_row_tie rfl ⟨rfl,rfl⟩ Ac rfl
    (fun f fn hf da=>by
      obtain rfl:f=6:=Option.some.inj ((show Tryz.prog.funcNamed "doorkeeper/doorkeeperlaw30.VerifyMade" =some 6 by kernel_rfl).symm.trans hf)|>.symm
      obtain rfl:fn=Tryz.f6:=(Option.some.inj (Tryz.func6.symm.trans da)).symm;exact⟨by kernel_rfl,fun j t ht=>by
        rw [Tryz.params6] at ht
        have h3:t=22:=by
          rcases j with _|j <;>simp at ht
          all_goals simp [ht]
        rcases h3 with rfl
        · exact(show Tryz.prog.wantsStandIn 22=false by kernel_rfl)⟩)
    Ac
#print axioms proved
end Go.Proofs.YtcnmnmjmpocepaaGreatDoor.verifyMade
