
import Derived.Test.YtcnmnmjmpocepaaGreatDoorU00
import Derived.Test.YtcnmnmjmpocepaaGreatDoorU11
import Derived.Test.YtcnmnmjmpocepaaGreatDoorU40
set_option linter.unusedVariables false
set_option linter.unusedSimpArgs false
set_option linter.unusedSectionVars false
set_option maxRecDepth 100000
set_option maxHeartbeats 16000000
section
namespace Go.Proofs.YtcnmnmjmpocepaaGreatDoor
open Go.SL
open Kd
theorem LP(p:HB)(J:B6)(bs:List Nat) [O1:Sl J p.bb (bs.map Mx)](J4:bs.length=p.bn)(Km:p.bn≤1000000)(hb:∀x∈bs,x≤255)(Yr:p.own≤2):
    ∀k:Nat,k≤3->Nt p J (160+7*k) (Lu k) (890000 - 10000*k) (k:Int) (F9 bs p.own k)
  |0,_=>⟨fun s h1 h2 h3 h4=>OH p J bs 153 0 900000 ((0:Nat):Int) id true Ak Ae (fun h=>by cases h) Ae Ae Ae Ae J4 Km hb Yr s Ab h2 Ab h4,GQ bs p.own 0⟩
  | k +1,hk=>by
    have ih:=LP p J bs J4 Km hb Yr k Ab;have hm:Lu k≤91:=by
      rcases(show k=0∨k=1∨k=2 by omega) with rfl|rfl|rfl <;>decide
    refine⟨fun s h1 h2 h3 h4=> ?_,GQ bs p.own (k+1)⟩;exact OH p J bs (160+7*k) (Lu k) (890000 - 10000*k) ((k+1:Nat):Int) (F9 bs p.own k) false ⟨(fun h=>by cases h),(fun h=>absurd h Ab)⟩ Ab (fun _=>by rw [show(((k+1:Nat):Int) - 1)=(k:Int) by omega];exact ih) Ab Ab Ab Ab J4 Km hb Yr s Ab h2 Ab h4
end Go.Proofs.YtcnmnmjmpocepaaGreatDoor
end
section
namespace Go.Proofs.YtcnmnmjmpocepaaGreatDoor
open Go.SL
open Kd
abbrev OR:Mk:=⟨0,[],List.replicate 5 false,0⟩
def aQ(bs:List Nat)(own:Nat)(J:B6)(e:Ending)(o:List B6):Prop:=
  ∃HC HP kb kc pb pc,o= [J,HC,HP]/\e= .returned (ie pb (IK own).length pc 8 6 kb (DP bs own).length kc)/\OS HC kb (DP bs own).length kc 24 3 (Cp (DP bs own))/\OS HP pb (IK own).length pc 79 1 ((IK own).map i64)
attribute [local irreducible] SL.T C7 Dc C6 Db DS Du
section
variable (J:B6) (bb:Option Addr) (bn bc:Nat) (bs:List Nat) [O1:Sl J bb (bs.map Mx)] (J4:bs.length=bn) (Km:bn≤1000000) (hb:∀x∈bs,x≤255)
include J4 Km hb
theorem Sb:SL.T Tryz.prog 27 [.slice bb bn bc,i64 0] [J] (aQ bs 0 J):=by
  refine Ch Tryz.func27 rfl (Nat.le_of_ble_eq_true rfl) fun F=> ?_
  refine DY ?_;refine DY ?_;have bj:=fun(E7 bL Ha:Nat)=>(show SL.T Tryz.prog 58 [.pointer (some ⟨E7,0,none⟩),.slice (some ⟨Ha,0,none⟩) 12 12] [Co E7 (.cells ⟨[.slice bb bn bc,i64 0,i64 0,.slice none 0 0,.slice (some ⟨bL,0,none⟩) 5 5,i64 0]⟩ 136 (0,0)),emp,Co Ha (.cells ⟨[i64 9,i64 0,i64 3,i64 0,i64 9,i64 1,i64 3,i64 1,i64 0,i64 1,i64 3,i64 2]⟩ 3 (0,0))]
    (fun e o=>∃HC' kb' kc',o= [mB (⟨E7,bb,bn,bc,0,some ⟨bL,0,none⟩⟩:HB) (OR.put [(9,0),(3,0),(9,1),(3,1),(0,1),(3,2)]) kb' kc',HC',Co Ha (.cells ⟨[i64 9,i64 0,i64 3,i64 0,i64 9,i64 1,i64 3,i64 1,i64 0,i64 1,i64 3,i64 2]⟩ 3 (0,0))]/\e= .returned (.tuple #[])/\OS HC' kb' (OR.put [(9,0),(3,0),(9,1),(3,1),(0,1),(3,2)]).code.length kc' 24 3 (Cp (OR.put [(9,0),(3,0),(9,1),(3,1),(0,1),(3,2)]).code)) from Dh (⟨E7,bb,bn,bc,0,some ⟨bL,0,none⟩⟩:HB) OR none 0 emp Ha 12 12 [i64 9,i64 0,i64 3,i64 0,i64 9,i64 1,i64 3,i64 1,i64 0,i64 1,i64 3,i64 2] [(9,0),(3,0),(9,1),(3,1),(0,1),(3,2)] rfl rfl OS.nil Ae)
  repeat' (first|refine Gt rfl rfl rfl (EP (m:=5) rfl rfl rfl rfl Ab Ab) (fun bL=> ?_)|apply B4|refine B3 0 BY Af ?_|refine Cs 2 BY AN Ab ?_|(refine gk 4 rfl ?_;(refine B9 rfl rfl rfl rfl rfl rfl rfl rfl (bj _ bL _) ?_;rintro _ _ ⟨HC1,EK,EJ,rfl,rfl,EH⟩;refine⟨_,_,rfl,rfl,?_⟩))|refine B3 5 BY Ar ?_|refine Cm (fun b=> ?_)|refine CF (fun β=> ?_)|refine Cn (fun β=> ?_)|refine Ck ?_|refine B0 ?_|apply B5|refine B8 ?_|refine Cl ?_|refine Cf ?_)
  obtain⟨ee,rfl⟩:∃x,x=β:=⟨_,rfl⟩;obtain⟨E7,rfl⟩:∃x,x=β:=⟨_,rfl⟩;obtain⟨p,hp⟩:∃p:HB,p=(⟨E7,bb,bn,bc,0,some ⟨bL,0,none⟩⟩:HB):=⟨_,rfl⟩;have hpm:p.E7=E7:=by rw [hp]
  have hpb:p.bb=bb:=by rw [hp]
  have hpn:p.bn=bn:=by rw [hp]
  have hpo:p.own=0:=by rw [hp]
  have OW:p.lb=some ⟨bL,0,none⟩:=by rw [hp]
  repeat' (first|apply B4|refine B3 0 BY Am ?_|(refine gk 4 rfl ?_;(refine B9 rfl rfl rfl rfl rfl rfl rfl rfl (Dh (⟨E7,bb,bn,bc,0,some ⟨bL,0,none⟩⟩:HB) (OR.put [(9,0),(3,0),(9,1),(3,1),(0,1),(3,2)]) EK EJ HC1 _ _ _ [i64 0,i64 3,i64 3,i64 3] [(0,3),(3,3)] rfl rfl EH Ax) ?_;rintro _ _ ⟨HC2,IT,IS,rfl,rfl,GC⟩;refine⟨_,_,rfl,rfl,?_⟩))|refine Cm (fun b=> ?_)|refine B0 ?_|apply B5)
  repeat' (first|apply B4|refine B3 0 BY Am ?_|(refine gk 4 rfl ?_;(refine B9 rfl rfl rfl rfl rfl rfl rfl rfl (Dh (⟨E7,bb,bn,bc,0,some ⟨bL,0,none⟩⟩:HB) ((OR.put [(9,0),(3,0),(9,1),(3,1),(0,1),(3,2)]).put [(0,3),(3,3)]) IT IS HC2 _ _ _ [i64 2,i64 0,i64 3,i64 4] [(2,0),(3,4)] rfl rfl GC Ax) ?_;rintro _ _ ⟨HC3,kb3,kc3,rfl,rfl,RX⟩;refine⟨_,_,rfl,rfl,?_⟩))|refine B0 ?_|apply B5)
  have hbeg:(((OR.put [(9,0),(3,0),(9,1),(3,1),(0,1),(3,2)]).put [(0,3),(3,3)]).put [(2,0),(3,4)])=E6 0:=rfl;have Po:SL.T Tryz.prog 59 [.pointer (some ⟨E7,0,none⟩),i64 3] [mB (⟨E7,bb,bn,bc,0,some ⟨bL,0,none⟩⟩:HB) (((OR.put [(9,0),(3,0),(9,1),(3,1),(0,1),(3,2)]).put [(0,3),(3,3)]).put [(2,0),(3,4)]) kb3 kc3,HC3,Co bL (.cells ⟨List.replicate 5 (.bool false)⟩ 4 (0,0)),J] (MQ (⟨E7,bb,bn,bc,0,some ⟨bL,0,none⟩⟩:HB) J (F9 bs 0 3 (E6 0))):=by
    have slp:Sl J (⟨E7,bb,bn,bc,0,some ⟨bL,0,none⟩⟩:HB).bb (bs.map Mx):=O1;obtain⟨q1,q2,q3,q4,q5⟩:=I3 0;exact(LP (⟨E7,bb,bn,bc,0,some ⟨bL,0,none⟩⟩:HB) J bs J4 Km hb (show 0≤2 by decide) 3 (Nat.le_refl _)).calls (E6 0) Ab (by rw [q5];rfl) Ab Ab HC3 kb3 kc3 _ RX (OS.Co As)
  have hfit:=GQ bs 0 3 (E6 0) (by have:=(I3 0).1;omega);have hfl:=hfit.len;obtain⟨r,hr⟩:∃z,z=F9 bs 0 3 (E6 0):=⟨_,rfl⟩;rw [<-hr] at Po hfl
  repeat' (first|apply B4|refine B3 0 BY Am ?_|(refine gk 4 rfl ?_;(refine B9 rfl rfl rfl rfl rfl rfl rfl rfl (Po) ?_;rintro _ _ ⟨HCb,kbb,kcb,HLb,rfl,rfl,osb,osLb⟩;refine⟨_,_,rfl,rfl,?_⟩))|refine Cm (fun b=> ?_)|refine B0 ?_|apply B5)
  repeat' (first|apply B4|refine B3 0 BY Am ?_|refine B3 3 BY AF ?_|(refine gk 4 rfl ?_;(refine B9 rfl rfl rfl rfl rfl rfl rfl rfl (Dh (⟨E7,bb,bn,bc,0,some ⟨bL,0,none⟩⟩:HB) r kbb kcb HCb _ _ _ [i64 2,i64 2,i64 20,i64 0] [(2,2),(20,0)] rfl rfl osb Ax) ?_;rintro _ _ ⟨HC9,kb9,kc9,rfl,rfl,os9⟩;refine⟨_,_,rfl,rfl,?_⟩))|refine B3 5 BY Al ?_|refine Ck ?_|refine B0 ?_|apply B5|refine B8 ?_|apply Cb)
  have Hi:(r.put [(2,2),(20,0)]).code=DP bs 0:=by rw [hr];rfl
  rw [Hi] at os9
  refine Cj [J,HC9,emp] (Ce (Cv rfl rfl rfl rfl)) ⟨HC9,emp,kb9,kc9,none,0,rfl,?_,os9,OS.nil⟩;rw [<-Hi]
  rfl
theorem Sa:SL.T Tryz.prog 27 [.slice bb bn bc,i64 1] [J] (aQ bs 1 J):=by
  refine Ch Tryz.func27 rfl (Nat.le_of_ble_eq_true rfl) fun F=> ?_
  refine DY ?_;have bj:=fun(E7 bL Ha:Nat)=>(show SL.T Tryz.prog 58 [.pointer (some ⟨E7,0,none⟩),.slice (some ⟨Ha,0,none⟩) 4 4] [Co E7 (.cells ⟨[.slice bb bn bc,i64 0,i64 1,.slice none 0 0,.slice (some ⟨bL,0,none⟩) 5 5,i64 0]⟩ 136 (0,0)),emp,Co Ha (.cells ⟨[i64 0,i64 2,i64 3,i64 2]⟩ 3 (0,0))]
    (fun e o=>∃HC' kb' kc',o= [mB (⟨E7,bb,bn,bc,1,some ⟨bL,0,none⟩⟩:HB) (OR.put [(0,2),(3,2)]) kb' kc',HC',Co Ha (.cells ⟨[i64 0,i64 2,i64 3,i64 2]⟩ 3 (0,0))]/\e= .returned (.tuple #[])/\OS HC' kb' (OR.put [(0,2),(3,2)]).code.length kc' 24 3 (Cp (OR.put [(0,2),(3,2)]).code)) from Dh (⟨E7,bb,bn,bc,1,some ⟨bL,0,none⟩⟩:HB) OR none 0 emp Ha 4 4 [i64 0,i64 2,i64 3,i64 2] [(0,2),(3,2)] rfl rfl OS.nil Ae)
  repeat' (first|refine Gt rfl rfl rfl (EP (m:=5) rfl rfl rfl rfl Ab Ab) (fun bL=> ?_)|apply B4|refine B3 0 BY Af ?_|refine Cs 2 BY AN Ab ?_|refine CE 2 BY Ao Ab ?_|refine B3 3 BY BC ?_|(refine gk 4 rfl ?_;(refine B9 rfl rfl rfl rfl rfl rfl rfl rfl (bj _ bL _) ?_;rintro _ _ ⟨HC1,EK,EJ,rfl,rfl,EH⟩;refine⟨_,_,rfl,rfl,?_⟩))|refine B3 5 BY Ar ?_|refine Cm (fun b=> ?_)|refine CF (fun β=> ?_)|refine Cn (fun β=> ?_)|refine Ck ?_|refine B0 ?_|apply B5|refine B8 ?_|refine Cl ?_|refine Cg ?_|refine Cf ?_)
  obtain⟨ee,rfl⟩:∃x,x=β:=⟨_,rfl⟩;obtain⟨E7,rfl⟩:∃x,x=β:=⟨_,rfl⟩;obtain⟨mJ,rfl⟩:∃x,x=b:=⟨_,rfl⟩;obtain⟨nM,rfl⟩:∃x,x=b:=⟨_,rfl⟩;obtain⟨bp,rfl⟩:∃x,x=b:=⟨_,rfl⟩;obtain⟨p,hp⟩:∃p:HB,p=(⟨E7,bb,bn,bc,1,some ⟨bL,0,none⟩⟩:HB):=⟨_,rfl⟩;have hpm:p.E7=E7:=by rw [hp]
  have hpb:p.bb=bb:=by rw [hp]
  have hpn:p.bn=bn:=by rw [hp]
  have hpo:p.own=1:=by rw [hp]
  have OW:p.lb=some ⟨bL,0,none⟩:=by rw [hp]
  repeat' (first|apply B4|refine B3 0 BY Am ?_|(refine gk 4 rfl ?_;(refine B9 rfl rfl rfl rfl rfl rfl rfl rfl (Dh (⟨E7,bb,bn,bc,1,some ⟨bL,0,none⟩⟩:HB) (OR.put [(0,2),(3,2)]) EK EJ HC1 _ _ _ [i64 0,i64 3,i64 3,i64 3] [(0,3),(3,3)] rfl rfl EH Ax) ?_;rintro _ _ ⟨HC2,IT,IS,rfl,rfl,GC⟩;refine⟨_,_,rfl,rfl,?_⟩))|refine Cm (fun b=> ?_)|refine B0 ?_|apply B5)
  repeat' (first|apply B4|refine B3 0 BY Am ?_|(refine gk 4 rfl ?_;(refine B9 rfl rfl rfl rfl rfl rfl rfl rfl (Dh (⟨E7,bb,bn,bc,1,some ⟨bL,0,none⟩⟩:HB) ((OR.put [(0,2),(3,2)]).put [(0,3),(3,3)]) IT IS HC2 _ _ _ [i64 2,i64 0,i64 3,i64 4] [(2,0),(3,4)] rfl rfl GC Ax) ?_;rintro _ _ ⟨HC3,kb3,kc3,rfl,rfl,RX⟩;refine⟨_,_,rfl,rfl,?_⟩))|refine B0 ?_|apply B5)
  have hbeg:(((OR.put [(0,2),(3,2)]).put [(0,3),(3,3)]).put [(2,0),(3,4)])=E6 1:=rfl;have Po:SL.T Tryz.prog 59 [.pointer (some ⟨E7,0,none⟩),i64 3] [mB (⟨E7,bb,bn,bc,1,some ⟨bL,0,none⟩⟩:HB) (((OR.put [(0,2),(3,2)]).put [(0,3),(3,3)]).put [(2,0),(3,4)]) kb3 kc3,HC3,Co bL (.cells ⟨List.replicate 5 (.bool false)⟩ 4 (0,0)),J] (MQ (⟨E7,bb,bn,bc,1,some ⟨bL,0,none⟩⟩:HB) J (F9 bs 1 3 (E6 1))):=by
    have slp:Sl J (⟨E7,bb,bn,bc,1,some ⟨bL,0,none⟩⟩:HB).bb (bs.map Mx):=O1;obtain⟨q1,q2,q3,q4,q5⟩:=I3 1;exact(LP (⟨E7,bb,bn,bc,1,some ⟨bL,0,none⟩⟩:HB) J bs J4 Km hb (show 1≤2 by decide) 3 (Nat.le_refl _)).calls (E6 1) Ab (by rw [q5];rfl) Ab Ab HC3 kb3 kc3 _ RX (OS.Co As)
  have hfit:=GQ bs 1 3 (E6 1) (by have:=(I3 1).1;omega);have hfl:=hfit.len;obtain⟨r,hr⟩:∃z,z=F9 bs 1 3 (E6 1):=⟨_,rfl⟩;rw [<-hr] at Po hfl
  repeat' (first|apply B4|refine B3 0 BY Am ?_|(refine gk 4 rfl ?_;(refine B9 rfl rfl rfl rfl rfl rfl rfl rfl (Po) ?_;rintro _ _ ⟨HCb,kbb,kcb,HLb,rfl,rfl,osb,osLb⟩;refine⟨_,_,rfl,rfl,?_⟩))|refine Cm (fun b=> ?_)|refine B0 ?_|apply B5)
  repeat' (first|apply B4|refine B3 0 BY Am ?_|refine B3 3 BY AF ?_|(refine gk 4 rfl ?_;(refine B9 rfl rfl rfl rfl rfl rfl rfl rfl (Dh (⟨E7,bb,bn,bc,1,some ⟨bL,0,none⟩⟩:HB) r kbb kcb HCb _ _ _ [i64 2,i64 2,i64 20,i64 0] [(2,2),(20,0)] rfl rfl osb Ax) ?_;rintro _ _ ⟨HC9,kb9,kc9,rfl,rfl,os9⟩;refine⟨_,_,rfl,rfl,?_⟩))|refine B3 5 BY Al ?_|refine Ck ?_|refine B0 ?_|apply B5|refine B8 ?_|apply Cb)
  have Hi:(r.put [(2,2),(20,0)]).code=DP bs 1:=by rw [hr];rfl
  rw [Hi] at os9
  refine Cj [J,HC9,Co bp (.cells ⟨[i64 1,i64 2]⟩ 79 (0,0))] (Ce (Cv rfl rfl rfl rfl)) ⟨HC9,Co bp (.cells ⟨[i64 1,i64 2]⟩ 79 (0,0)),kb9,kc9,some ⟨bp,0,none⟩,2,rfl,?_,os9,OS.Co As⟩;rw [<-Hi]
  rfl
theorem R9:SL.T Tryz.prog 27 [.slice bb bn bc,i64 2] [J] (aQ bs 2 J):=by
  refine Ch Tryz.func27 rfl (Nat.le_of_ble_eq_true rfl) fun F=> ?_
  refine DY ?_;have bj:=fun(E7 bL Ha:Nat)=>(show SL.T Tryz.prog 58 [.pointer (some ⟨E7,0,none⟩),.slice (some ⟨Ha,0,none⟩) 4 4] [Co E7 (.cells ⟨[.slice bb bn bc,i64 0,i64 2,.slice none 0 0,.slice (some ⟨bL,0,none⟩) 5 5,i64 0]⟩ 136 (0,0)),emp,Co Ha (.cells ⟨[i64 2,i64 0,i64 3,i64 4]⟩ 3 (0,0))]
    (fun e o=>∃HC' kb' kc',o= [mB (⟨E7,bb,bn,bc,2,some ⟨bL,0,none⟩⟩:HB) (OR.put [(2,0),(3,4)]) kb' kc',HC',Co Ha (.cells ⟨[i64 2,i64 0,i64 3,i64 4]⟩ 3 (0,0))]/\e= .returned (.tuple #[])/\OS HC' kb' (OR.put [(2,0),(3,4)]).code.length kc' 24 3 (Cp (OR.put [(2,0),(3,4)]).code)) from Dh (⟨E7,bb,bn,bc,2,some ⟨bL,0,none⟩⟩:HB) OR none 0 emp Ha 4 4 [i64 2,i64 0,i64 3,i64 4] [(2,0),(3,4)] rfl rfl OS.nil Ae)
  repeat' (first|refine Gt rfl rfl rfl (EP (m:=5) rfl rfl rfl rfl Ab Ab) (fun bL=> ?_)|apply B4|refine B3 0 BY Af ?_|refine CE 2 BY AN Ab ?_|refine B3 3 BY BC ?_|(refine gk 4 rfl ?_;(refine B9 rfl rfl rfl rfl rfl rfl rfl rfl (bj _ bL _) ?_;rintro _ _ ⟨HC1,EK,EJ,rfl,rfl,EH⟩;refine⟨_,_,rfl,rfl,?_⟩))|refine B3 5 BY Ar ?_|refine Cm (fun b=> ?_)|refine CF (fun β=> ?_)|refine Cn (fun β=> ?_)|refine Ck ?_|refine B0 ?_|apply B5|refine B8 ?_|refine Cg ?_|refine Cf ?_|apply Cc)
  obtain⟨ee,rfl⟩:∃x,x=β:=⟨_,rfl⟩;obtain⟨E7,rfl⟩:∃x,x=β:=⟨_,rfl⟩;obtain⟨mJ,rfl⟩:∃x,x=b:=⟨_,rfl⟩;obtain⟨bp,rfl⟩:∃x,x=b:=⟨_,rfl⟩;obtain⟨p,hp⟩:∃p:HB,p=(⟨E7,bb,bn,bc,2,some ⟨bL,0,none⟩⟩:HB):=⟨_,rfl⟩;have hpm:p.E7=E7:=by rw [hp]
  have hpb:p.bb=bb:=by rw [hp]
  have hpn:p.bn=bn:=by rw [hp]
  have hpo:p.own=2:=by rw [hp]
  have OW:p.lb=some ⟨bL,0,none⟩:=by rw [hp]
  have hbeg:(OR.put [(2,0),(3,4)])=E6 2:=rfl;have Po:SL.T Tryz.prog 59 [.pointer (some ⟨E7,0,none⟩),i64 3] [mB (⟨E7,bb,bn,bc,2,some ⟨bL,0,none⟩⟩:HB) (OR.put [(2,0),(3,4)]) EK EJ,HC1,Co bL (.cells ⟨List.replicate 5 (.bool false)⟩ 4 (0,0)),J] (MQ (⟨E7,bb,bn,bc,2,some ⟨bL,0,none⟩⟩:HB) J (F9 bs 2 3 (E6 2))):=by
    have slp:Sl J (⟨E7,bb,bn,bc,2,some ⟨bL,0,none⟩⟩:HB).bb (bs.map Mx):=O1;obtain⟨q1,q2,q3,q4,q5⟩:=I3 2;exact(LP (⟨E7,bb,bn,bc,2,some ⟨bL,0,none⟩⟩:HB) J bs J4 Km hb (show 2≤2 by decide) 3 (Nat.le_refl _)).calls (E6 2) Ab (by rw [q5];rfl) Ab Ab HC1 EK EJ _ EH (OS.Co As)
  have hfit:=GQ bs 2 3 (E6 2) (by have:=(I3 2).1;omega);have hfl:=hfit.len;obtain⟨r,hr⟩:∃z,z=F9 bs 2 3 (E6 2):=⟨_,rfl⟩;rw [<-hr] at Po hfl
  repeat' (first|apply B4|refine B3 0 BY Am ?_|(refine gk 4 rfl ?_;(refine B9 rfl rfl rfl rfl rfl rfl rfl rfl (Po) ?_;rintro _ _ ⟨HCb,kbb,kcb,HLb,rfl,rfl,osb,osLb⟩;refine⟨_,_,rfl,rfl,?_⟩))|refine Cm (fun b=> ?_)|refine B0 ?_|apply B5)
  repeat' (first|apply B4|refine B3 0 BY Am ?_|refine B3 3 BY AF ?_|(refine gk 4 rfl ?_;(refine B9 rfl rfl rfl rfl rfl rfl rfl rfl (Dh (⟨E7,bb,bn,bc,2,some ⟨bL,0,none⟩⟩:HB) r kbb kcb HCb _ _ _ [i64 2,i64 2,i64 20,i64 0] [(2,2),(20,0)] rfl rfl osb Ax) ?_;rintro _ _ ⟨HC9,kb9,kc9,rfl,rfl,os9⟩;refine⟨_,_,rfl,rfl,?_⟩))|refine B3 5 BY Al ?_|refine Ck ?_|refine B0 ?_|apply B5|refine B8 ?_|apply Cb)
  have Hi:(r.put [(2,2),(20,0)]).code=DP bs 2:=by rw [hr];rfl
  rw [Hi] at os9
  refine Cj [J,HC9,Co bp (.cells ⟨[i64 1,i64 2,i64 0,i64 0]⟩ 79 (0,0))] (Ce (Cv rfl rfl rfl rfl)) ⟨HC9,Co bp (.cells ⟨[i64 1,i64 2,i64 0,i64 0]⟩ 79 (0,0)),kb9,kc9,some ⟨bp,0,none⟩,4,rfl,?_,os9,OS.Co As⟩;rw [<-Hi]
  rfl
end
end Go.Proofs.YtcnmnmjmpocepaaGreatDoor
end
