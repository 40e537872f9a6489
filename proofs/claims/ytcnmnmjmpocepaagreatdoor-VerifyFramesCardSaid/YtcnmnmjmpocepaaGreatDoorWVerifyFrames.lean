/- The statement VerifyFrames holds, as a row and as its tied card: for all drafts of images and numbers its function hands back true, and its arguments read as before. There are no conditions beyond the row's own. -/
import Derived.Test.YtcnmnmjmpocepaaGreatDoorV00
import Derived.Test.YtcnmnmjmpocepaaGreatDoorV09
import Derived.Test.YtcnmnmjmpocepaaGreatDoorV43
import Derived.Test.YtcnmnmjmpocepaaGreatDoorV48
import Derived.ChangeMaps5
import Derived.SevenTiedAt
import Derived.Test.YtcnmnmjmpocepaaGreatDoorCards
import Derived.Test.YtcnmnmjmpocepaaGreatDoorTie
set_option linter.unusedVariables false
set_option linter.unusedSimpArgs false
set_option linter.unusedSectionVars false
set_option maxRecDepth 100000
set_option maxHeartbeats 16000000
namespace Go.Proofs.YtcnmnmjmpocepaaGreatDoor.verifyFrames
open Go.ChangeShapes Go.WideShapes Go.ChangeAt Go.RowKit Go.SL
theorem own:ownKnob Tryz.prog.godebug=none:=by kernel_rfl
set_option maxRecDepth 1000000 in
theorem lifted(os:Os)(started:os.Started)(H:Type)(enc:TypeId×Value->H):
    ReturnsInHanded {} Tryz.checked os 4 .any (fun w args=>(Rows.verifyFramesSpec.pre enc Tryz.prog Tryz.f4 [] false w args/\laidMetH Tryz.prog L6 w)/\sizedMet enc Tryz.prog Tryz.f4 (OpenSpec.ofChange Rows.verifyFramesSpec) false w args)
      (Rows.verifyFramesSpec.post enc Tryz.prog Tryz.f4 false true false false):=by
  refine returnsInHanded_of_change_and (C:=Tryz.checked) (X:=fun w _=>laidMetH Tryz.prog L6 w) (fun _ _ _ hh h=>h.of_heap hh) own started Ac Tryz.func4
    (ChangeSpec.witness_at (enc:=enc) (C:=Tryz.checked) (os:=os) (X:=fun w _=>laidMetH Tryz.prog L6 w) false (Od os) #[.agg #[.slice Option.none 0 0,.bool false,.int .u8 0,.int .u8 0,.int .i64 0,.int .i64 0,.int .i64 0],.int .i64 0] 8 rfl Ac Ac Ac Ac Ac (L5 os _)) ?_
  intro W base args ds gs before cR hW oy _ hL _;have hval:∀(j:Nat) t v,Tryz.f4.params[j]?=some t->args[j]?=some v->Value.okWide Tryz.prog W .any base t v:=cR;have hW':=hW;obtain⟨p,q,oE,hV,hb,ov,rF⟩:=hW;have hA:DataW.TrodAll enc Tryz.prog W 0 (fun _=>true) true Tryz.f4.params.toList args.toList ds p:=oE;obtain⟨hg,hq⟩:=trodVars_none hV;rw [Tryz.params4] at hval
  have ax:=hA;rw [Tryz.params4] at ax
  obtain⟨v0,v1,d0,d1,p0,p1,ha,hd, -,h0,h1⟩:=trodAll_two ax;subst ha;obtain⟨Z0,rfl⟩:=K7 Tryz.underlying26 rfl (hval 0 26 v0 rfl rfl);obtain⟨mf,ZP⟩:=h0;obtain⟨bb,bl,bc,B,Nj,m8,a8,op,ya,yb,rfl,dl,ak,dm,dc,dB,oJ,oK,pS,pR⟩:=QJ ZP;have dm:bl≤9223372036854775807:=by unfold maxLen at dm;exact dm
  obtain⟨k1,rfl, -, -,wk1⟩:=open_int Tryz.underlying3 (hval 1 3 v1 rfl rfl) h1;haveI:=dw hL;haveI:=ak;refine(Dw.ll W (frames_law (H:=wh W) bb bl bc B dl dc dm dB Nj m8 a8 oJ oK op ya yb k1)).mono fun e W' ⟨he,hle⟩=> ?_
  subst he;exact⟨_,rfl,Yu hW' hA (by rw [hb,hq,List.append_nil]) hg rfl (by subst hd;rfl) Ac Ac Tryz.underlying4 hle⟩
theorem over:Rows.verifyFramesRow.holds Tryz.pinned (OpenSpec.ofChange Rows.verifyFramesSpec):=
  OpenClaim.holds_of_wide 4 Tryz.f4 rfl rfl rfl rfl rfl rfl rfl ⟨rfl,rfl,rfl,rfl,rfl⟩ rfl rfl rfl rfl rfl Ac Tryz.func4 Ac
    (of_decide_eq_true Ac) (by unfold Func.isWrapper;first|(rw [if_pos (by decide +kernel)];kernel_rfl)|(rw [if_neg (by decide +kernel)];exact⟨rfl,rfl⟩))
    (fun os started H enc _=>lifted os started H enc)
set_option maxRecDepth 1000000 in
theorem proved:Rows.VerifyFramesCardSaid:=
  Claim7.holds_tied_plain_at .later [] [.handle] true (true, "760102a18bca63e77c9bb6d6a15533d9c54960990c7a917ee437026724e7d99a") true
    over (fun _ h=>by cases h) Ac (fun _ h=>by cases h) verifyFrames_row_tie rfl ⟨rfl,rfl⟩ Ac rfl
    (fun f fn hf lZ=>by
      obtain rfl:f=4:=Option.some.inj ((show Tryz.prog.funcNamed "doorkeeper/doorkeeperlaw30.VerifyFrames" =some 4 by kernel_rfl).symm.trans hf)|>.symm
      obtain rfl:fn=Tryz.f4:=(Option.some.inj (Tryz.func4.symm.trans lZ)).symm;exact⟨by kernel_rfl,fun j t ht=>by
        rw [Tryz.params4] at ht
        have h3:t=26∨t=3:=by
          rcases j with _|_|j <;>simp at ht
          all_goals simp [ht]
        rcases h3 with rfl|rfl
        · exact(show Tryz.prog.wantsStandIn 26=false by kernel_rfl)
        · exact(show Tryz.prog.wantsStandIn 3=false by kernel_rfl)⟩)
    Ac
#print axioms proved
end Go.Proofs.YtcnmnmjmpocepaaGreatDoor.verifyFrames
