/- The statement VerifySound holds, as a row and as its tied card: for all its arguments its function hands back true, and its arguments read as before. There are no conditions beyond the row's own. -/
import Derived.Test.YtcnmnmjmpocepaaGreatDoorU00
import Derived.Test.YtcnmnmjmpocepaaGreatDoorU11
import Derived.Test.YtcnmnmjmpocepaaGreatDoorU37
import Derived.Test.YtcnmnmjmpocepaaGreatDoorU47
import Derived.ChangeMaps5
import Derived.SevenTiedAt
import Derived.Test.YtcnmnmjmpocepaaGreatDoorCards
import Derived.Test.YtcnmnmjmpocepaaGreatDoorTie
set_option linter.unusedVariables false
set_option linter.unusedSimpArgs false
set_option linter.unusedSectionVars false
set_option maxRecDepth 100000
set_option maxHeartbeats 16000000
namespace Go.Proofs.YtcnmnmjmpocepaaGreatDoor.verifySound
open Go.ChangeShapes Go.WideShapes Go.ChangeAt Go.RowKit Go.SL
theorem own:ownKnob Tryz.prog.godebug=none:=by kernel_rfl
set_option maxRecDepth 1000000 in
theorem lifted(os:Os)(started:os.Started)(H:Type)(enc:TypeId×Value->H):
    ReturnsInHanded {} Tryz.checked os 5 .any (fun w args=>(Rows.verifySoundSpec.pre enc Tryz.prog Tryz.f5 [] false w args/\laidMetH Tryz.prog Iz w)/\sizedMet enc Tryz.prog Tryz.f5 (OpenSpec.ofChange Rows.verifySoundSpec) false w args)
      (Rows.verifySoundSpec.post enc Tryz.prog Tryz.f5 false true false false):=by
  refine returnsInHanded_of_change_and (C:=Tryz.checked) (X:=fun w _=>laidMetH Tryz.prog Iz w) (fun _ _ _ hh h=>h.of_heap hh) own started Ac Tryz.func5
    (ChangeSpec.witness_at (enc:=enc) (C:=Tryz.checked) (os:=os) (X:=fun w _=>laidMetH Tryz.prog Iz w) false (JW os) #[.agg #[.slice Option.none 0 0,.bool false,.int .u8 0,.int .u8 0,.int .i64 0,.int .i64 0,.int .i64 0],.int .u8 0,.slice Option.none 0 0] 8 rfl Ac Ac Ac Ac Ac (Ih os _)) ?_
  intro W base args ds gs before Sv hW fm _ hL _;have hval:∀(j:Nat) t v,Tryz.f5.params[j]?=some t->args[j]?=some v->Value.okWide Tryz.prog W .any base t v:=Sv;have hW':=hW;obtain⟨p,q,fu,hV,hb,gA,j5⟩:=hW;have hA:DataW.TrodAll enc Tryz.prog W 0 (fun _=>true) true Tryz.f5.params.toList args.toList ds p:=fu;obtain⟨hg,hq⟩:=trodVars_none hV;rw [Tryz.params5] at hval
  have UA:=hA;rw [Tryz.params5] at UA
  obtain⟨v0,v1,v2,d0,d1,d2,p0,p1,p2,ha,hd, -,h0,h1,h2⟩:=trodAll_three UA;subst ha;obtain⟨fE,rfl⟩:=R3 Tryz.underlying26 rfl (hval 0 26 v0 rfl rfl);obtain⟨fw,Xg⟩:=h0;obtain⟨bb,bl,bc,B,PN,m8,a8,op,ya,yb,rfl,dl,dM,dm,dc,dB,mz,mD,nB,nA⟩:=UL Xg;have dm:bl≤9223372036854775807:=by unfold maxLen at dm;exact dm
  obtain⟨k1,rfl, -, -,wk1⟩:=open_int Tryz.underlying5 (hval 1 5 v1 rfl rfl) h1;obtain⟨bG,eN,iZ,rfl⟩:=okWide_slice Tryz.underlying22 (hval 2 22 v2 rfl rfl);obtain⟨kj,fj⟩:=h2;obtain⟨gL,lD,Wc,gg,ns,ky⟩:=IH Tryz.underlying22 Tryz.underlying5 Ac fj;obtain⟨jn,gN,ku,kq⟩:=Nl gL fun x hx=>by obtain⟨n,rfl,hn⟩:=wf_u8 (ky x hx);omega
  have gN:gL.map (Value.int .u8)=jn.map Mx:=gN;have Wc:Sl (wh W) bG (gL.map (Value.int .u8)):=Wc;rw [gN] at Wc
  have gg:eN≤9223372036854775807:=by unfold maxLen at gg;exact gg
  haveI:=UG hL;haveI:=dM;haveI:=Wc;refine(C7.cf W (sound_law (H:=wh W) bb bl bc B dl dc dm dB PN m8 a8 mz mD op ya yb k1 (by obtain⟨n,rfl,hn⟩:=wf_u8 wk1;omega) bG eN iZ jn (ku.trans lD) gg kq)).mono fun e W' ⟨he,hle⟩=> ?_
  subst he;exact⟨_,rfl,QR hW' hA (by rw [hb,hq,List.append_nil]) hg rfl (by subst hd;rfl) Ac Ac Tryz.underlying4 hle⟩
theorem over:Rows.verifySoundRow.holds Tryz.pinned (OpenSpec.ofChange Rows.verifySoundSpec):=
  OpenClaim.holds_of_wide 5 Tryz.f5 rfl rfl rfl rfl rfl rfl rfl ⟨rfl,rfl,rfl,rfl,rfl⟩ rfl rfl rfl rfl rfl Ac Tryz.func5 Ac
    (of_decide_eq_true Ac) (by unfold Func.isWrapper;first|(rw [if_pos (by decide +kernel)];kernel_rfl)|(rw [if_neg (by decide +kernel)];exact⟨rfl,rfl⟩))
    (fun os started H enc _=>lifted os started H enc)
set_option maxRecDepth 1000000 in
theorem proved:Rows.VerifySoundCardSaid:=
  Claim7.holds_tied_plain_at .later [] [.handle] true (true, "760102a18bca63e77c9bb6d6a15533d9c54960990c7a917ee437026724e7d99a") true
    over (fun _ h=>by cases h) Ac (fun _ h=>by cases h) verifySound_row_tie rfl ⟨rfl,rfl⟩ Ac rfl
    (fun f fn hf da=>by
      obtain rfl:f=5:=Option.some.inj ((show Tryz.prog.funcNamed "doorkeeper/doorkeeperlaw30.VerifySound" =some 5 by kernel_rfl).symm.trans hf)|>.symm
      obtain rfl:fn=Tryz.f5:=(Option.some.inj (Tryz.func5.symm.trans da)).symm;exact⟨by kernel_rfl,fun j t ht=>by
        rw [Tryz.params5] at ht
        have h3:t=26∨t=5∨t=22:=by
          rcases j with _|_|_|j <;>simp at ht
          all_goals simp [ht]
        rcases h3 with rfl|rfl|rfl
        · exact(show Tryz.prog.wantsStandIn 26=false by kernel_rfl)
        · exact(show Tryz.prog.wantsStandIn 5=false by kernel_rfl)
        · exact(show Tryz.prog.wantsStandIn 22=false by kernel_rfl)⟩)
    Ac
#print axioms proved
end Go.Proofs.YtcnmnmjmpocepaaGreatDoor.verifySound
