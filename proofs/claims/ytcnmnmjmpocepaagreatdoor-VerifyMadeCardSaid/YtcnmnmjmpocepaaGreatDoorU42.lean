
import Derived.Test.YtcnmnmjmpocepaaGreatDoorU00
import Derived.Test.YtcnmnmjmpocepaaGreatDoorU11
import Derived.Test.YtcnmnmjmpocepaaGreatDoorU41
import Derived.Test.YtcnmnmjmpocepaaGreatDoorU38
import Derived.Test.YtcnmnmjmpocepaaGreatDoorU36
set_option linter.unusedVariables false
set_option linter.unusedSimpArgs false
set_option linter.unusedSectionVars false
set_option maxRecDepth 100000
set_option maxHeartbeats 16000000
section
namespace Go.Proofs.YtcnmnmjmpocepaaGreatDoor
open Go.SL
open Kd
abbrev gH(bb:Option Addr)(bn bc:Nat)(PN:Bool)(m at8 op a b:Int):Value:= .agg ⟨[.slice bb bn bc,.bool PN,.int .u8 m,.int .u8 at8,i64 op,i64 a,i64 b]⟩
theorem Ip{J:B6}{bb:Option Addr}{bs:List Nat}{bc lo q:Nat}(O1:Sl J bb (bs.map Mx))(hc:bs.length≤bc)(h:lo+q≤120):Sl J (sub bb lo bc 1) ((((bs.take 120).drop lo).take q).map Mx):=by
  have h1:=O1.drop lo bc 1 Aq;rw [Nat.mul_one] at h1
  have e:(((bs.take 120).drop lo).take q)=(bs.drop lo).take q:=by
    rw [List.drop_take,List.take_take,show min q (120 - lo)=q by omega]
  rw [e];have h2:=h1.take q
  rwa [<-List.map_drop,<-List.map_take] at h2
theorem Mq{l:List Ins}{i:Nat}{y:Ins}(h:i<l.length):(Cp l).take (i*3)++ [i64 y.op,i64 y.a,i64 y.b]++(Cp l).drop (i*3+3)=Cp (l.set i y):=by
  induction l generalizing i with
  |nil=>simp at h
  | cons x r ih=>
    cases i with
    |zero=>simp [Cp]
    | succ i=>
      have:=ih (i:=i) (by simpa using h);simp only [Nat.succ_mul,Cp,List.set_cons_succ] at this ⊢
      simpa using this
abbrev ZV(pb:Option Addr)(pn pc:Nat)(kb:Option Addr)(kn kc:Nat):List Value:= [.slice pb pn pc,i64 8,i64 6,.slice kb kn kc]
def UU(c0 c1 c2:List Ins)(J:B6)(e:Ending)(o:List B6):Prop:=
  ∃ A N,o.Perm (N++A)/\A= [J]/\∃hM TF HP0 HC1 HP1 HC2 HP2 bM cM bC bF0 bF1 OU OT RV Tz EK EJ RU Tx IT IS RT Tw,
    N= [hM,TF,HP0,HC1,HP1,HC2,HP2,Co bC (.cells ⟨[.slice (some ⟨bF0,0,none⟩) 3 3,.slice (some ⟨bF1,0,none⟩) 2 2]⟩ 76 (0,0)),Co bF0 (.cells ⟨[i64 0,i64 0,i64 2]⟩ 79 (0,0)),Co bF1 (.cells ⟨[i64 0,i64 1]⟩ 79 (0,0))]/\
    e= .returned (F8 (some ⟨bC,0,none⟩) 2 2 bM 3 cM)/\OS hM bM 3 cM 66 4 (ZV RV 0 Tz OU c0.length OT++ZV RU 2 Tx EK c1.length EJ++ZV RT 4 Tw IT c2.length IS)/\
    OS TF OU c0.length OT 24 3 (Cp c0)/\OS HP0 RV 0 Tz 79 1 ((IK 0).map i64)/\OS HC1 EK c1.length EJ 24 3 (Cp c1)/\OS HP1 RU 2 Tx 79 1 ((IK 1).map i64)/\OS HC2 IT c2.length IS 24 3 (Cp c2)/\OS HP2 RT 4 Tw 79 1 ((IK 2).map i64)
def Fo(c0 c1 c2:List Ins):Im:=⟨[[0,0,2],[0,1]],[⟨IK 0,8,6,c0⟩,⟨IK 1,8,6,c1⟩,⟨IK 2,8,6,c2⟩]⟩
attribute [local irreducible] SL.T C7 Dc C6 Db DS Du
theorem Ut(J:B6)(bb:Option Addr)(bn bc:Nat)(bs:List Nat) [O1:Sl J bb (bs.map Mx)](J4:bs.length=bn)(bx:bn≤bc)(Km:bn≤9223372036854775807)(hb:∀x∈bs,x≤255)(m at8 op a z:Int):
    SL.T Tryz.prog 8 [gH bb bn bc false m at8 op a z] [J] (UU (DP (Dr bs 0) 0) (DP (Dr bs 1) 1) (DP (Dr bs 2) 2) J):=by
  obtain⟨N,hN⟩:∃N,N=min bn 120:=⟨_,rfl⟩;have hN1:min ((bn:Nat):Int) 120=((N:Nat):Int):=by omega
  obtain⟨q,hq⟩:∃q,q=N/3:=⟨_,rfl⟩;have hq3:3*q≤N:=by omega
  have m0:IntKind.i64.wrap (0*((q:Nat):Int))=((0:Nat):Int):=by rw [C8 Ab Ab];omega
  have m1:IntKind.i64.wrap (1*((q:Nat):Int))=((q:Nat):Int):=by rw [C8 Ab Ab];omega
  have m2:IntKind.i64.wrap (2*((q:Nat):Int))=((2*q:Nat):Int):=by rw [C8 Ab Ab];omega
  have m3:IntKind.i64.wrap (3*((q:Nat):Int))=((3*q:Nat):Int):=by rw [C8 Ab Ab];omega
  refine Ch Tryz.func8 rfl (Nat.le_of_ble_eq_true rfl) fun F=> ?_
  refine DY ?_
  repeat' (first|refine Cq rfl rfl rfl ((Nh rfl rfl rfl rfl rfl).to (congrArg (Value.int .i64) hN1)) ?_|refine Cq rfl rfl rfl ((Gl rfl rfl rfl Ab Ab).to (by rw [Int.toNat_natCast])) ?_|refine Cq rfl rfl rfl (NV (b:=3) rfl rfl rfl Ae Ab) ?_|apply B4|refine B3 0 BY Af ?_|refine B3 3 BY Ah ?_|refine B3 4 BY Ag ?_|refine B3 5 BY Ar ?_|refine Cm (fun b=> ?_)|refine CF (fun β=> ?_)|refine Cn (fun β=> ?_)|refine Ck ?_|refine B0 ?_|apply B5|refine B8 ?_|refine Cf ?_)
  rw [<-hq];refine GK 4 (JP ?_)
  repeat' (first|apply B4|refine B3 0 BY Am ?_|refine Cs 2 BY Aj Ab ?_|refine B0 ?_|apply B5|refine B8 ?_|refine Cl ?_|refine Cf ?_|apply Cc)
  obtain⟨Fv,rfl⟩:∃x,x=β:=⟨_,rfl⟩;obtain⟨bC,rfl⟩:∃x,x=b:=⟨_,rfl⟩;obtain⟨bF1,rfl⟩:∃x,x=b:=⟨_,rfl⟩;obtain⟨bF0,rfl⟩:∃x,x=b:=⟨_,rfl⟩;have TE:∀lo,∀x∈(((bs.take 120).drop lo).take q),x≤255:=fun lo x hx=>hb x (List.mem_of_mem_take (List.mem_of_mem_drop (List.mem_of_mem_take hx)))
  have hl':∀lo,lo+q≤N->(((bs.take 120).drop lo).take q).length=q:=fun lo h=>by simp;omega
  have s0:=Ip (q:=q) (lo:=0) (bc:=bc) O1 Ab Ab;have c0:SL.T Tryz.prog 27 [.slice (sub bb ((0:Nat):Int).toNat bc 1) (((q:Nat):Int).toNat - ((0:Nat):Int).toNat) (bc - ((0:Nat):Int).toNat),i64 0] [J] (aQ (((bs.take 120).drop 0).take q) 0 J):=Sb J (sub bb 0 bc 1) q (bc - 0) _ (hl' 0 Ab) Ab (TE 0);refine Cu [.q [0,1,2,3,4,5,6,7,8,9,10,11],.h false 12,.an 13,.rv 13,.h true 14,.q [15],.h true 16] [Co Fv (.cells ⟨[.slice (some ⟨bC,0,none⟩) 2 2,.slice none 0 0]⟩ 32 (0,0))] Ac Ac Ac Ac ?_
  repeat' (first|refine Cq rfl rfl rfl ((EM rfl rfl rfl).to (congrArg (Value.int .i64) m0)) ?_|refine Cq rfl rfl rfl ((EM rfl rfl rfl).to (congrArg (Value.int .i64) m1)) ?_|refine Cq rfl rfl rfl (Gk rfl rfl rfl rfl Ab Ab Ab) ?_|apply B4|refine B3 0 BY Af ?_|refine B3 1 BY Ap ?_|refine Cs 2 BY Aj Ab ?_|refine B3 3 BY Ah ?_|refine B0 ?_|refine Cz ?_|refine CQ rfl ?_|refine Dg rfl rfl AQ ?_|refine DL rfl rfl rfl (fun β=> ?_)|refine FP rfl (by decide +kernel) rfl rfl rfl rfl rfl Aa rfl Aa Aa ?_|(refine D0 rfl rfl rfl rfl rfl rfl rfl rfl (c0) (by rintro _ _ ⟨TF,HP0,OU,OT,RV,Tz,rfl,rfl,os0,T6⟩;exact⟨_,rfl⟩) ?_;rintro _ _ ⟨TF,HP0,OU,OT,RV,Tz,rfl,rfl,os0,T6⟩;refine⟨_,_,rfl,rfl,?_⟩)|refine FQ rfl rfl rfl rfl rfl rfl rfl rfl rfl OS.nil Ae rfl Ae rfl Ab Ab (fun mw je jc cp=> ?_)|apply B5|refine B8 ?_|refine Cl ?_|refine Cf ?_|apply Cc)
  have s1:=Ip (q:=q) (lo:=q) (bc:=bc) O1 Ab Ab;have c1:SL.T Tryz.prog 27 [.slice (sub bb ((q:Nat):Int).toNat bc 1) (((2*q:Nat):Int).toNat - ((q:Nat):Int).toNat) (bc - ((q:Nat):Int).toNat),i64 (0+1)] [J] (aQ (((bs.take 120).drop (q)).take q) 1 J):=Sa J (sub bb (q) bc 1) (2*q - q) (bc - q) _ (by rw [hl' (q) Ab];omega) Ab (TE (q));refine Cu [.q [0,1,2,3,4,5,6,7,8,9,10,11],.h false 12,.an 13,.rv 13,.h true 14,.q [15],.h true 16] [Co Fv (.cells ⟨[.slice (some ⟨bC,0,none⟩) 2 2,.slice je (0+1) jc]⟩ 32 (0,0))] Ac Ac Ac Ac ?_
  repeat' (first|refine Cq rfl rfl rfl ((EM rfl rfl rfl).to (congrArg (Value.int .i64) m1)) ?_|refine Cq rfl rfl rfl ((EM rfl rfl rfl).to (congrArg (Value.int .i64) m2)) ?_|refine Cq rfl rfl rfl (Gk rfl rfl rfl rfl Ab Ab Ab) ?_|apply B4|refine B3 0 BY Af ?_|refine B3 1 BY Ap ?_|refine Cs 2 BY Aj Ab ?_|refine B3 3 BY Ah ?_|refine B0 ?_|refine Cz ?_|refine CQ rfl ?_|refine Dg rfl rfl AQ ?_|refine DL rfl rfl rfl (fun β=> ?_)|refine FP rfl (by decide +kernel) rfl rfl rfl rfl rfl Aa rfl Aa Aa ?_|(refine D0 rfl rfl rfl rfl rfl rfl rfl rfl (c1) (by rintro _ _ ⟨HC1,HP1,EK,EJ,RU,Tx,rfl,rfl,EH,op1⟩;exact⟨_,rfl⟩) ?_;rintro _ _ ⟨HC1,HP1,EK,EJ,RU,Tx,rfl,rfl,EH,op1⟩;refine⟨_,_,rfl,rfl,?_⟩)|refine FQ rfl rfl rfl rfl rfl rfl rfl rfl rfl cp Ae rfl Ae rfl Ab Ab (fun mu jd jb cm=> ?_)|apply B5|refine B8 ?_|refine Cl ?_|refine Cf ?_|apply Cc)
  have s2:=Ip (q:=q) (lo:=2*q) (bc:=bc) O1 Ab Ab;have c2:SL.T Tryz.prog 27 [.slice (sub bb ((2*q:Nat):Int).toNat bc 1) (((3*q:Nat):Int).toNat - ((2*q:Nat):Int).toNat) (bc - ((2*q:Nat):Int).toNat),i64 (0+1+1)] [J] (aQ (((bs.take 120).drop (2*q)).take q) 2 J):=R9 J (sub bb (2*q) bc 1) (3*q - 2*q) (bc - 2*q) _ (by rw [hl' (2*q) Ab];omega) Ab (TE (2*q));refine Cu [.q [0,1,2,3,4,5,6,7,8,9,10,11],.h false 12,.an 13,.rv 13,.h true 14,.q [15],.h true 16] [Co Fv (.cells ⟨[.slice (some ⟨bC,0,none⟩) 2 2,.slice jd (0+1+1) jb]⟩ 32 (0,0))] Ac Ac Ac Ac ?_
  repeat' (first|refine Cq rfl rfl rfl ((EM rfl rfl rfl).to (congrArg (Value.int .i64) m2)) ?_|refine Cq rfl rfl rfl ((EM rfl rfl rfl).to (congrArg (Value.int .i64) m3)) ?_|refine Cq rfl rfl rfl (Gk rfl rfl rfl rfl Ab Ab Ab) ?_|apply B4|refine B3 0 BY Af ?_|refine B3 1 BY Ap ?_|refine CE 2 BY Aj Ab ?_|refine B3 3 BY AF ?_|refine Ck ?_|refine B0 ?_|refine Cz ?_|refine CQ rfl ?_|refine Dg rfl rfl AQ ?_|refine DL rfl rfl rfl (fun β=> ?_)|refine FP rfl (by decide +kernel) rfl rfl rfl rfl rfl Aa rfl Aa Aa ?_|(refine D0 rfl rfl rfl rfl rfl rfl rfl rfl (c2) (by rintro _ _ ⟨HC2,HP2,IT,IS,RT,Tw,rfl,rfl,GC,op2⟩;exact⟨_,rfl⟩) ?_;rintro _ _ ⟨HC2,HP2,IT,IS,RT,Tw,rfl,rfl,GC,op2⟩;refine⟨_,_,rfl,rfl,?_⟩)|refine FQ rfl rfl rfl rfl rfl rfl rfl rfl rfl cm Ae rfl Ae rfl Ab Ab (fun OX aK aH Kb=> ?_)|apply B5|refine B8 ?_|refine Cg ?_|apply Cb|refine CC ?_|apply Cc)
  have hNl:(bs.take 120).length=N:=by simp;omega
  have t0:((bs.take 120).drop 0).take q=Dr bs 0:=by simp only [Dr,hNl,<-hq];rw [Nat.zero_mul]
  have t1:((bs.take 120).drop q).take q=Dr bs 1:=by simp only [Dr,hNl,<-hq];rw [Nat.one_mul]
  have t2:((bs.take 120).drop (2*q)).take q=Dr bs 2:=by simp only [Dr,hNl,<-hq]
  rw [t0] at os0 Kb ⊢
  rw [t1] at EH Kb ⊢
  rw [t2] at GC Kb ⊢
  exact Cj [OX,TF,HP0,HC1,HP1,HC2,HP2,Co bC (.cells ⟨[.slice (some ⟨bF0,0,none⟩) 3 3,.slice (some ⟨bF1,0,none⟩) 2 2]⟩ 76 (0,0)),Co bF0 (.cells ⟨[i64 0,i64 0,i64 2]⟩ 79 (0,0)),Co bF1 (.cells ⟨[i64 0,i64 1]⟩ 79 (0,0)),J] (Ce (Cv rfl rfl rfl rfl))
    ⟨[J],_,List.Perm.refl _,rfl,OX,TF,HP0,HC1,HP1,HC2,HP2,aK,aH,bC,bF0,bF1,OU,OT,RV,Tz,EK,EJ,RU,Tx,IT,IS,RT,Tw,rfl,rfl,Kb,os0,T6,EH,op1,GC,op2⟩
end Go.Proofs.YtcnmnmjmpocepaaGreatDoor
end
section
namespace Go.Proofs.YtcnmnmjmpocepaaGreatDoor
open Go.SL
open Kd
def Jr(m8 at8:Nat)(y:Ins)(k:Nat)(c:List Ins):List Ins:=if m8%3=k then c.set (at8%c.length) y else c
theorem EO(m8 at8:Nat)(y:Ins)(k:Nat)(c:List Ins):(Jr m8 at8 y k c).length=c.length:=by unfold Jr;split <;>simp
attribute [local irreducible] SL.T C7 Dc C6 Db DS Du
theorem WB(J:B6)(bb:Option Addr)(bn bc:Nat)(bs:List Nat) [O1:Sl J bb (bs.map Mx)](J4:bs.length=bn)(bx:bn≤bc)(Km:bn≤9223372036854775807)(hb:∀x∈bs,x≤255)(m8 at8:Nat)(gw:m8≤255)(gD:at8≤255)(op a z:Int):
    SL.T Tryz.prog 8 [gH bb bn bc true (m8:Int) (at8:Int) op a z] [J] (UU (Jr m8 at8 ⟨Cd.md op 256,a,z⟩ 0 (DP (Dr bs 0) 0)) (Jr m8 at8 ⟨Cd.md op 256,a,z⟩ 1 (DP (Dr bs 1) 1)) (Jr m8 at8 ⟨Cd.md op 256,a,z⟩ 2 (DP (Dr bs 2) 2)) J):=by
  obtain⟨N,hN⟩:∃N,N=min bn 120:=⟨_,rfl⟩;have hN1:min ((bn:Nat):Int) 120=((N:Nat):Int):=by omega
  obtain⟨q,hq⟩:∃q,q=N/3:=⟨_,rfl⟩;have hq3:3*q≤N:=by omega
  have m0:IntKind.i64.wrap (0*((q:Nat):Int))=((0:Nat):Int):=by rw [C8 Ab Ab];omega
  have m1:IntKind.i64.wrap (1*((q:Nat):Int))=((q:Nat):Int):=by rw [C8 Ab Ab];omega
  have m2:IntKind.i64.wrap (2*((q:Nat):Int))=((2*q:Nat):Int):=by rw [C8 Ab Ab];omega
  have m3:IntKind.i64.wrap (3*((q:Nat):Int))=((3*q:Nat):Int):=by rw [C8 Ab Ab];omega
  refine Ch Tryz.func8 rfl (Nat.le_of_ble_eq_true rfl) fun F=> ?_
  refine DY ?_
  repeat' (first|refine Cq rfl rfl rfl ((Nh rfl rfl rfl rfl rfl).to (congrArg (Value.int .i64) hN1)) ?_|refine Cq rfl rfl rfl ((Gl rfl rfl rfl Ab Ab).to (by rw [Int.toNat_natCast])) ?_|refine Cq rfl rfl rfl (NV (b:=3) rfl rfl rfl Ae Ab) ?_|apply B4|refine B3 0 BY Af ?_|refine B3 3 BY Ah ?_|refine B3 4 BY Ag ?_|refine B3 5 BY Ar ?_|refine Cm (fun b=> ?_)|refine CF (fun β=> ?_)|refine Cn (fun β=> ?_)|refine Ck ?_|refine B0 ?_|apply B5|refine B8 ?_|refine Cf ?_)
  rw [<-hq];refine GK 4 (JP ?_)
  repeat' (first|apply B4|refine B3 0 BY Am ?_|refine Cs 2 BY Aj Ab ?_|refine B0 ?_|apply B5|refine B8 ?_|refine Cl ?_|refine Cf ?_|apply Cc)
  obtain⟨Fv,rfl⟩:∃x,x=β:=⟨_,rfl⟩;obtain⟨bC,rfl⟩:∃x,x=b:=⟨_,rfl⟩;obtain⟨bF1,rfl⟩:∃x,x=b:=⟨_,rfl⟩;obtain⟨bF0,rfl⟩:∃x,x=b:=⟨_,rfl⟩;have TE:∀lo,∀x∈(((bs.take 120).drop lo).take q),x≤255:=fun lo x hx=>hb x (List.mem_of_mem_take (List.mem_of_mem_drop (List.mem_of_mem_take hx)))
  have hl':∀lo,lo+q≤N->(((bs.take 120).drop lo).take q).length=q:=fun lo h=>by simp;omega
  have s0:=Ip (q:=q) (lo:=0) (bc:=bc) O1 Ab Ab;have c0:SL.T Tryz.prog 27 [.slice (sub bb ((0:Nat):Int).toNat bc 1) (((q:Nat):Int).toNat - ((0:Nat):Int).toNat) (bc - ((0:Nat):Int).toNat),i64 0] [J] (aQ (((bs.take 120).drop 0).take q) 0 J):=Sb J (sub bb 0 bc 1) q (bc - 0) _ (hl' 0 Ab) Ab (TE 0);refine Cu [.q [0,1,2,3,4,5,6,7,8,9,10,11],.h false 12,.an 13,.rv 13,.h true 14,.q [15],.h true 16] [Co Fv (.cells ⟨[.slice (some ⟨bC,0,none⟩) 2 2,.slice none 0 0]⟩ 32 (0,0))] Ac Ac Ac Ac ?_
  repeat' (first|refine Cq rfl rfl rfl ((EM rfl rfl rfl).to (congrArg (Value.int .i64) m0)) ?_|refine Cq rfl rfl rfl ((EM rfl rfl rfl).to (congrArg (Value.int .i64) m1)) ?_|refine Cq rfl rfl rfl (Gk rfl rfl rfl rfl Ab Ab Ab) ?_|apply B4|refine B3 0 BY Af ?_|refine B3 1 BY Ap ?_|refine Cs 2 BY Aj Ab ?_|refine B3 3 BY Ah ?_|refine B0 ?_|refine Cz ?_|refine CQ rfl ?_|refine Dg rfl rfl AQ ?_|refine DL rfl rfl rfl (fun β=> ?_)|refine FP rfl (by decide +kernel) rfl rfl rfl rfl rfl Aa rfl Aa Aa ?_|(refine D0 rfl rfl rfl rfl rfl rfl rfl rfl (c0) (by rintro _ _ ⟨TF,HP0,OU,OT,RV,Tz,rfl,rfl,os0,T6⟩;exact⟨_,rfl⟩) ?_;rintro _ _ ⟨TF,HP0,OU,OT,RV,Tz,rfl,rfl,os0,T6⟩;refine⟨_,_,rfl,rfl,?_⟩)|refine FQ rfl rfl rfl rfl rfl rfl rfl rfl rfl OS.nil Ae rfl Ae rfl Ab Ab (fun mw je jc cp=> ?_)|apply B5|refine B8 ?_|refine Cl ?_|refine Cf ?_|apply Cc)
  have s1:=Ip (q:=q) (lo:=q) (bc:=bc) O1 Ab Ab;have c1:SL.T Tryz.prog 27 [.slice (sub bb ((q:Nat):Int).toNat bc 1) (((2*q:Nat):Int).toNat - ((q:Nat):Int).toNat) (bc - ((q:Nat):Int).toNat),i64 (0+1)] [J] (aQ (((bs.take 120).drop (q)).take q) 1 J):=Sa J (sub bb (q) bc 1) (2*q - q) (bc - q) _ (by rw [hl' (q) Ab];omega) Ab (TE (q));refine Cu [.q [0,1,2,3,4,5,6,7,8,9,10,11],.h false 12,.an 13,.rv 13,.h true 14,.q [15],.h true 16] [Co Fv (.cells ⟨[.slice (some ⟨bC,0,none⟩) 2 2,.slice je (0+1) jc]⟩ 32 (0,0))] Ac Ac Ac Ac ?_
  repeat' (first|refine Cq rfl rfl rfl ((EM rfl rfl rfl).to (congrArg (Value.int .i64) m1)) ?_|refine Cq rfl rfl rfl ((EM rfl rfl rfl).to (congrArg (Value.int .i64) m2)) ?_|refine Cq rfl rfl rfl (Gk rfl rfl rfl rfl Ab Ab Ab) ?_|apply B4|refine B3 0 BY Af ?_|refine B3 1 BY Ap ?_|refine Cs 2 BY Aj Ab ?_|refine B3 3 BY Ah ?_|refine B0 ?_|refine Cz ?_|refine CQ rfl ?_|refine Dg rfl rfl AQ ?_|refine DL rfl rfl rfl (fun β=> ?_)|refine FP rfl (by decide +kernel) rfl rfl rfl rfl rfl Aa rfl Aa Aa ?_|(refine D0 rfl rfl rfl rfl rfl rfl rfl rfl (c1) (by rintro _ _ ⟨HC1,HP1,EK,EJ,RU,Tx,rfl,rfl,EH,op1⟩;exact⟨_,rfl⟩) ?_;rintro _ _ ⟨HC1,HP1,EK,EJ,RU,Tx,rfl,rfl,EH,op1⟩;refine⟨_,_,rfl,rfl,?_⟩)|refine FQ rfl rfl rfl rfl rfl rfl rfl rfl rfl cp Ae rfl Ae rfl Ab Ab (fun mu jd jb cm=> ?_)|apply B5|refine B8 ?_|refine Cl ?_|refine Cf ?_|apply Cc)
  have s2:=Ip (q:=q) (lo:=2*q) (bc:=bc) O1 Ab Ab;have c2:SL.T Tryz.prog 27 [.slice (sub bb ((2*q:Nat):Int).toNat bc 1) (((3*q:Nat):Int).toNat - ((2*q:Nat):Int).toNat) (bc - ((2*q:Nat):Int).toNat),i64 (0+1+1)] [J] (aQ (((bs.take 120).drop (2*q)).take q) 2 J):=R9 J (sub bb (2*q) bc 1) (3*q - 2*q) (bc - 2*q) _ (by rw [hl' (2*q) Ab];omega) Ab (TE (2*q));refine Cu [.q [0,1,2,3,4,5,6,7,8,9,10,11],.h false 12,.an 13,.rv 13,.h true 14,.q [15],.h true 16] [Co Fv (.cells ⟨[.slice (some ⟨bC,0,none⟩) 2 2,.slice jd (0+1+1) jb]⟩ 32 (0,0))] Ac Ac Ac Ac ?_
  repeat' (first|refine Cq rfl rfl rfl ((CO rfl rfl).to (congrArg (Value.int .i64) (C8 Ab Ab))) ?_|refine Cq rfl rfl rfl (Dm (b:=3) rfl rfl rfl Ae) ?_|refine Cq rfl rfl rfl ((EM rfl rfl rfl).to (congrArg (Value.int .i64) m2)) ?_|refine Cq rfl rfl rfl ((EM rfl rfl rfl).to (congrArg (Value.int .i64) m3)) ?_|refine Cq rfl rfl rfl (Gk rfl rfl rfl rfl Ab Ab Ab) ?_|apply B4|refine B3 0 BY Af ?_|refine B3 1 BY Ap ?_|refine CE 2 BY Aj Ab ?_|refine B3 3 BY Ah ?_|refine B0 ?_|refine Cz ?_|refine CQ rfl ?_|refine Dg rfl rfl AQ ?_|refine DL rfl rfl rfl (fun β=> ?_)|refine FP rfl (by decide +kernel) rfl rfl rfl rfl rfl Aa rfl Aa Aa ?_|(refine D0 rfl rfl rfl rfl rfl rfl rfl rfl (c2) (by rintro _ _ ⟨HC2,HP2,IT,IS,RT,Tw,rfl,rfl,GC,op2⟩;exact⟨_,rfl⟩) ?_;rintro _ _ ⟨HC2,HP2,IT,IS,RT,Tw,rfl,rfl,GC,op2⟩;refine⟨_,_,rfl,rfl,?_⟩)|refine FQ rfl rfl rfl rfl rfl rfl rfl rfl rfl cm Ae rfl Ae rfl Ab Ab (fun OX aK aH Kb=> ?_)|apply B5|refine B8 ?_|refine Cl ?_|refine Cg ?_|refine CC ?_)
  have hNl:(bs.take 120).length=N:=by simp;omega
  have t0:((bs.take 120).drop 0).take q=Dr bs 0:=by simp only [Dr,hNl,<-hq];rw [Nat.zero_mul]
  have t1:((bs.take 120).drop q).take q=Dr bs 1:=by simp only [Dr,hNl,<-hq];rw [Nat.one_mul]
  have t2:((bs.take 120).drop (2*q)).take q=Dr bs 2:=by simp only [Dr,hNl,<-hq]
  rw [t0] at os0 Kb ⊢
  rw [t1] at EH Kb ⊢
  rw [t2] at GC Kb ⊢
  obtain⟨l0,nv, -⟩:=GX (Dr bs 0) 0;obtain⟨l1,nu, -⟩:=GX (Dr bs 1) 1;obtain⟨l2,nt, -⟩:=GX (Dr bs 2) 2
  generalize DP (Dr bs 0) 0=k0 at*
  generalize DP (Dr bs 1) 1=k1 at*
  generalize DP (Dr bs 2) 2=k2 at*
  obtain⟨mv,WI⟩:∃mv,mv=ZV RV 0 Tz OU k0.length OT++ZV RU 2 Tx EK k1.length EJ++ZV RT 4 Tw IT k2.length IS:=⟨_,rfl⟩;have osM3:OS OX aK 3 aH 66 4 mv:=by rw [WI];exact Kb
  haveI slM:=osM3.sl;have SF:mv.length=12:=by rw [WI];rfl
  have P5:Value.int .u64 (IntKind.u64.wrap op)= .int .u64 ((Cd.md.TM op:Nat):Int):=by rw [Cd.Zx]
  have hr256:Value.int .u64 (((Cd.md.TM op:Nat):Int).tmod 256)= .int .u64 (Cd.md op 256):=congrArg _ (Cd.cF op 256);have hb256:Value.int .i64 (IntKind.i64.wrap (Cd.md op 256))=i64 (Cd.md op 256):=by rw [Cd.ZY op Ae Ae]
  rcases(show m8%3=0∨m8%3=1∨m8%3=2 by omega) with h|h|h
  · have e0:Jr m8 at8 ⟨Cd.md op 256,a,z⟩ 0 k0=k0.set (at8%k0.length) ⟨Cd.md op 256,a,z⟩:=if_pos h;have e1:Jr m8 at8 ⟨Cd.md op 256,a,z⟩ 1 k1=k1:=if_neg Ab;have e2:Jr m8 at8 ⟨Cd.md op 256,a,z⟩ 2 k2=k2:=if_neg Ab;rw [h,e0,e1,e2];have gC:mv[((0:Nat):Int).toNat*4+3]?=some (.slice OU k0.length OT):=by rw [WI];rfl
    have hkM:((0:Nat):Int).toNat*4<mv.length:=by rw [SF];decide
    have hkM3:((0:Nat):Int).toNat*4+3<mv.length:=by rw [SF];decide
    haveI ez:=os0.sl;have E5:at8%k0.length<k0.length:=Nat.mod_lt _ Ab;have hkK:((at8%k0.length:Nat):Int).toNat*3<(Cp k0).length:=by rw [CW];simp;omega
    have hfl:=CW k0;have hset:(Cp k0).take (((at8%k0.length:Nat):Int).toNat*3)++ [i64 (Cd.md op 256),i64 a,i64 z]++(Cp k0).drop (((at8%k0.length:Nat):Int).toNat*3+3)=Cp (k0.set (at8%k0.length) ⟨Cd.md op 256,a,z⟩):=Mq (y:=⟨Cd.md op 256,a,z⟩) E5;refine C5 Ac Ac rfl ?_
    repeat' (first|refine Cq rfl rfl rfl ((CO rfl rfl).to P5) ?_|refine Cq rfl rfl rfl ((CO rfl rfl).to hb256) ?_|refine Cq rfl rfl rfl ((Ho rfl rfl rfl Ae).to hr256) ?_|refine Cq rfl rfl rfl ((CO rfl rfl).to (congrArg (Value.int .i64) (C8 Ab Ab))) ?_|refine Cq rfl rfl rfl (Dm (b:=k0.length) rfl rfl rfl Ab) ?_|apply B4|refine B3 0 BY Af ?_|refine B3 3 BY AX ?_|refine B3 4 BY Ag ?_|refine Cn (fun β=> ?_)|refine Ck ?_|refine B0 ?_|apply B5|refine B8 ?_)
    obtain⟨ec,rfl⟩:∃x,x=β:=⟨_,rfl⟩;refine Cu [.q [0,1,2,3,4,5,6,7,8],.h true 9] [Co ec (.cells ⟨[i64 (Cd.md op 256),i64 a,i64 z]⟩ 24 (0,0)),Co Fv (.cells ⟨[.slice (some ⟨bC,0,none⟩) 2 2,.slice aK (0+1+1+1) aH]⟩ 32 (0,0)),OX] Ac Ac Ac Ac ?_
    repeat' (first|apply B4|refine B3 0 BY Am ?_|refine B3 3 BY AX ?_|refine Ck ?_|refine B0 ?_|refine Cz ?_|refine CQ rfl ?_|refine D3 rfl rfl rfl rfl rfl rfl os0 rfl rfl rfl (Nat.succ_pos _) BB hset (fun hX eE=> ?_)|apply B5|refine B8 ?_|apply Cb)
    have Nn:(k0.set (at8%k0.length) (⟨Cd.md op 256,a,z⟩:Ins)).length=k0.length:=by simp
    have osY:OS hX OU (k0.set (at8%k0.length) (⟨Cd.md op 256,a,z⟩:Ins)).length OT 24 3 (Cp (k0.set (at8%k0.length) ⟨Cd.md op 256,a,z⟩)):=by
      rw [Nn];exact eE
    refine Cj [OX,hX,HP0,HC1,HP1,HC2,HP2,Co bC (.cells ⟨[.slice (some ⟨bF0,0,none⟩) 3 3,.slice (some ⟨bF1,0,none⟩) 2 2]⟩ 76 (0,0)),Co bF0 (.cells ⟨[i64 0,i64 0,i64 2]⟩ 79 (0,0)),Co bF1 (.cells ⟨[i64 0,i64 1]⟩ 79 (0,0)),J] (Ce (Cv rfl rfl rfl rfl))
      ⟨[J],_,List.Perm.refl _,rfl,OX,hX,HP0,HC1,HP1,HC2,HP2,aK,aH,bC,bF0,bF1,OU,OT,RV,Tz,EK,EJ,RU,Tx,IT,IS,RT,Tw,rfl,rfl,?_,osY,T6,EH,op1,GC,op2⟩
    rw [Nn];exact Kb
  · have e0:Jr m8 at8 ⟨Cd.md op 256,a,z⟩ 0 k0=k0:=if_neg Ab;have e1:Jr m8 at8 ⟨Cd.md op 256,a,z⟩ 1 k1=k1.set (at8%k1.length) ⟨Cd.md op 256,a,z⟩:=if_pos h;have e2:Jr m8 at8 ⟨Cd.md op 256,a,z⟩ 2 k2=k2:=if_neg Ab;rw [h,e0,e1,e2];have gC:mv[((1:Nat):Int).toNat*4+3]?=some (.slice EK k1.length EJ):=by rw [WI];rfl
    have hkM:((1:Nat):Int).toNat*4<mv.length:=by rw [SF];decide
    have hkM3:((1:Nat):Int).toNat*4+3<mv.length:=by rw [SF];decide
    haveI ez:=EH.sl;have E5:at8%k1.length<k1.length:=Nat.mod_lt _ Ab;have hkK:((at8%k1.length:Nat):Int).toNat*3<(Cp k1).length:=by rw [CW];simp;omega
    have hfl:=CW k1;have hset:(Cp k1).take (((at8%k1.length:Nat):Int).toNat*3)++ [i64 (Cd.md op 256),i64 a,i64 z]++(Cp k1).drop (((at8%k1.length:Nat):Int).toNat*3+3)=Cp (k1.set (at8%k1.length) ⟨Cd.md op 256,a,z⟩):=Mq (y:=⟨Cd.md op 256,a,z⟩) E5;refine C5 Ac Ac rfl ?_
    repeat' (first|refine Cq rfl rfl rfl ((CO rfl rfl).to P5) ?_|refine Cq rfl rfl rfl ((CO rfl rfl).to hb256) ?_|refine Cq rfl rfl rfl ((Ho rfl rfl rfl Ae).to hr256) ?_|refine Cq rfl rfl rfl ((CO rfl rfl).to (congrArg (Value.int .i64) (C8 Ab Ab))) ?_|refine Cq rfl rfl rfl (Dm (b:=k1.length) rfl rfl rfl Ab) ?_|apply B4|refine B3 0 BY Af ?_|refine B3 3 BY AX ?_|refine B3 4 BY Ag ?_|refine Cn (fun β=> ?_)|refine Ck ?_|refine B0 ?_|apply B5|refine B8 ?_)
    obtain⟨ec,rfl⟩:∃x,x=β:=⟨_,rfl⟩;refine Cu [.q [0,1,2,3,4,5,6,7,8],.h true 9] [Co ec (.cells ⟨[i64 (Cd.md op 256),i64 a,i64 z]⟩ 24 (0,0)),Co Fv (.cells ⟨[.slice (some ⟨bC,0,none⟩) 2 2,.slice aK (0+1+1+1) aH]⟩ 32 (0,0)),OX] Ac Ac Ac Ac ?_
    repeat' (first|apply B4|refine B3 0 BY Am ?_|refine B3 3 BY AX ?_|refine Ck ?_|refine B0 ?_|refine Cz ?_|refine CQ rfl ?_|refine D3 rfl rfl rfl rfl rfl rfl EH rfl rfl rfl (Nat.succ_pos _) BB hset (fun hX eE=> ?_)|apply B5|refine B8 ?_|apply Cb)
    have Nn:(k1.set (at8%k1.length) (⟨Cd.md op 256,a,z⟩:Ins)).length=k1.length:=by simp
    have osY:OS hX EK (k1.set (at8%k1.length) (⟨Cd.md op 256,a,z⟩:Ins)).length EJ 24 3 (Cp (k1.set (at8%k1.length) ⟨Cd.md op 256,a,z⟩)):=by
      rw [Nn];exact eE
    refine Cj [OX,TF,HP0,hX,HP1,HC2,HP2,Co bC (.cells ⟨[.slice (some ⟨bF0,0,none⟩) 3 3,.slice (some ⟨bF1,0,none⟩) 2 2]⟩ 76 (0,0)),Co bF0 (.cells ⟨[i64 0,i64 0,i64 2]⟩ 79 (0,0)),Co bF1 (.cells ⟨[i64 0,i64 1]⟩ 79 (0,0)),J] (Ce (Cv rfl rfl rfl rfl))
      ⟨[J],_,List.Perm.refl _,rfl,OX,TF,HP0,hX,HP1,HC2,HP2,aK,aH,bC,bF0,bF1,OU,OT,RV,Tz,EK,EJ,RU,Tx,IT,IS,RT,Tw,rfl,rfl,?_,os0,T6,osY,op1,GC,op2⟩
    rw [Nn];exact Kb
  · have e0:Jr m8 at8 ⟨Cd.md op 256,a,z⟩ 0 k0=k0:=if_neg Ab;have e1:Jr m8 at8 ⟨Cd.md op 256,a,z⟩ 1 k1=k1:=if_neg Ab;have e2:Jr m8 at8 ⟨Cd.md op 256,a,z⟩ 2 k2=k2.set (at8%k2.length) ⟨Cd.md op 256,a,z⟩:=if_pos h;rw [h,e0,e1,e2];have gC:mv[((2:Nat):Int).toNat*4+3]?=some (.slice IT k2.length IS):=by rw [WI];rfl
    have hkM:((2:Nat):Int).toNat*4<mv.length:=by rw [SF];decide
    have hkM3:((2:Nat):Int).toNat*4+3<mv.length:=by rw [SF];decide
    haveI ez:=GC.sl;have E5:at8%k2.length<k2.length:=Nat.mod_lt _ Ab;have hkK:((at8%k2.length:Nat):Int).toNat*3<(Cp k2).length:=by rw [CW];simp;omega
    have hfl:=CW k2;have hset:(Cp k2).take (((at8%k2.length:Nat):Int).toNat*3)++ [i64 (Cd.md op 256),i64 a,i64 z]++(Cp k2).drop (((at8%k2.length:Nat):Int).toNat*3+3)=Cp (k2.set (at8%k2.length) ⟨Cd.md op 256,a,z⟩):=Mq (y:=⟨Cd.md op 256,a,z⟩) E5;refine C5 Ac Ac rfl ?_
    repeat' (first|refine Cq rfl rfl rfl ((CO rfl rfl).to P5) ?_|refine Cq rfl rfl rfl ((CO rfl rfl).to hb256) ?_|refine Cq rfl rfl rfl ((Ho rfl rfl rfl Ae).to hr256) ?_|refine Cq rfl rfl rfl ((CO rfl rfl).to (congrArg (Value.int .i64) (C8 Ab Ab))) ?_|refine Cq rfl rfl rfl (Dm (b:=k2.length) rfl rfl rfl Ab) ?_|apply B4|refine B3 0 BY Af ?_|refine B3 3 BY AX ?_|refine B3 4 BY Ag ?_|refine Cn (fun β=> ?_)|refine Ck ?_|refine B0 ?_|apply B5|refine B8 ?_)
    obtain⟨ec,rfl⟩:∃x,x=β:=⟨_,rfl⟩;refine Cu [.q [0,1,2,3,4,5,6,7,8],.h true 9] [Co ec (.cells ⟨[i64 (Cd.md op 256),i64 a,i64 z]⟩ 24 (0,0)),Co Fv (.cells ⟨[.slice (some ⟨bC,0,none⟩) 2 2,.slice aK (0+1+1+1) aH]⟩ 32 (0,0)),OX] Ac Ac Ac Ac ?_
    repeat' (first|apply B4|refine B3 0 BY Am ?_|refine B3 3 BY AX ?_|refine Ck ?_|refine B0 ?_|refine Cz ?_|refine CQ rfl ?_|refine D3 rfl rfl rfl rfl rfl rfl GC rfl rfl rfl (Nat.succ_pos _) BB hset (fun hX eE=> ?_)|apply B5|refine B8 ?_|apply Cb)
    have Nn:(k2.set (at8%k2.length) (⟨Cd.md op 256,a,z⟩:Ins)).length=k2.length:=by simp
    have osY:OS hX IT (k2.set (at8%k2.length) (⟨Cd.md op 256,a,z⟩:Ins)).length IS 24 3 (Cp (k2.set (at8%k2.length) ⟨Cd.md op 256,a,z⟩)):=by
      rw [Nn];exact eE
    refine Cj [OX,TF,HP0,HC1,HP1,hX,HP2,Co bC (.cells ⟨[.slice (some ⟨bF0,0,none⟩) 3 3,.slice (some ⟨bF1,0,none⟩) 2 2]⟩ 76 (0,0)),Co bF0 (.cells ⟨[i64 0,i64 0,i64 2]⟩ 79 (0,0)),Co bF1 (.cells ⟨[i64 0,i64 1]⟩ 79 (0,0)),J] (Ce (Cv rfl rfl rfl rfl))
      ⟨[J],_,List.Perm.refl _,rfl,OX,TF,HP0,HC1,HP1,hX,HP2,aK,aH,bC,bF0,bF1,OU,OT,RV,Tz,EK,EJ,RU,Tx,IT,IS,RT,Tw,rfl,rfl,?_,os0,T6,EH,op1,osY,op2⟩
    rw [Nn];exact Kb
end Go.Proofs.YtcnmnmjmpocepaaGreatDoor
end
section
namespace Go.Proofs.YtcnmnmjmpocepaaGreatDoor
open Go.SL
open Kd
theorem Yp{K:B6}{c0 c1 c2:List Ins}{bC bF0 bF1:Nat}{bM:Option Addr}{cM:Nat}{RV OU RU EK RT IT:Option Addr}{Tz OT Tx EJ Tw IS:Nat}
    (h0:c0.length≤1000) (h1:c1.length≤1000) (h2:c2.length≤1000) (q0:c0.length≤OT) (q1:c1.length≤EJ) (q2:c2.length≤IS) (gC:3≤cM)
    (sC:Sl K (some ⟨bC,0,none⟩) [.slice (some ⟨bF0,0,none⟩) 3 3,.slice (some ⟨bF1,0,none⟩) 2 2]) (jP:Sl K (some ⟨bF0,0,none⟩) [i64 0,i64 0,i64 2]) (jO:Sl K (some ⟨bF1,0,none⟩) [i64 0,i64 1])
    (sM:Sl K bM (ZV RV 0 Tz OU c0.length OT++ZV RU 2 Tx EK c1.length EJ++ZV RT 4 Tw IT c2.length IS))
    (s0:Sl K OU (Cp c0)) (s1:Sl K EK (Cp c1)) (s2:Sl K IT (Cp c2)) (p0:Sl K RV ((IK 0).map i64)) (p1:Sl K RU ((IK 1).map i64)) (p2:Sl K RT ((IK 2).map i64)):
    dY K (Fo c0 c1 c2) (F8 (some ⟨bC,0,none⟩) 2 2 bM 3 cM):=by
  refine⟨⟨_,2,2,bM,3,cM,rfl,⟨_,sC,rfl,rfl,by decide,fun i f hf=> ?_⟩,⟨_,sM,rfl,rfl,by decide,fun i m hm=> ?_⟩,fun m hm=> ?_⟩,⟨_,2,2,bM,3,cM,rfl,⟨_,sC,rfl,rfl,by decide,fun i f hf=> ?_⟩,⟨_,sM,rfl,rfl,by decide,fun i m hm=> ?_⟩,by decide,gC⟩⟩
  · rcases i with _|_|i
    · cases hf;exact⟨_,3,3,rfl,jP,rfl,by decide⟩
    · cases hf;exact⟨_,2,2,rfl,jO,rfl,by decide⟩
    · simp [Fo] at hf
  · rcases i with _|_|_|i
    · cases hm;exact⟨RV,0,Tz,OU,c0.length,OT,rfl,rfl,rfl,rfl,p0,rfl,by decide,s0,rfl,by omega⟩
    · cases hm;exact⟨RU,2,Tx,EK,c1.length,EJ,rfl,rfl,rfl,rfl,p1,rfl,by decide,s1,rfl,by omega⟩
    · cases hm;exact⟨RT,4,Tw,IT,c2.length,IS,rfl,rfl,rfl,rfl,p2,rfl,by decide,s2,rfl,by omega⟩
    · simp [Fo] at hm
  · simp only [Fo,List.mem_cons,List.not_mem_nil,or_false] at hm
    rcases hm with rfl|rfl|rfl <;>dsimp only <;>omega
  · rcases i with _|_|i
    · cases hf;exact⟨_,3,3,rfl,jP,rfl,by decide⟩
    · cases hf;exact⟨_,2,2,rfl,jO,rfl,by decide⟩
    · simp [Fo,T7] at hf
  · rcases i with _|_|_|i
    · cases hm;exact⟨RV,0,Tz,OU,c0.length,OT,rfl,rfl,rfl,rfl,p0,rfl,by decide,by simp only [Mh,JA];exact s0,by simp [Mh],q0,by omega⟩
    · cases hm;exact⟨RU,2,Tx,EK,c1.length,EJ,rfl,rfl,rfl,rfl,p1,rfl,by decide,by simp only [Mh,JA];exact s1,by simp [Mh],q1,by omega⟩
    · cases hm;exact⟨RT,4,Tw,IT,c2.length,IS,rfl,rfl,rfl,rfl,p2,rfl,by decide,by simp only [Mh,JA];exact s2,by simp [Mh],q2,by omega⟩
    · simp [Fo,T7] at hm
def fQ(x:Im)(J:B6)(e:Ending)(o:List B6):Prop:=∃K a b d,o= [K,J]/\e= .returned (F8 a 2 2 b 3 d)/\dY K x (F8 a 2 2 b 3 d)
theorem NT{args:List Value}{J:B6}{c0 c1 c2:List Ins}(h0:c0.length≤1000)(h1:c1.length≤1000)(h2:c2.length≤1000)(h:SL.T Tryz.prog 8 args [J] (UU c0 c1 c2 J)):SL.T Tryz.prog 8 args [J] (fQ (Fo c0 c1 c2) J):=by
  refine(Ib h).mono ?_;rintro e o ⟨A,N,K,rfl,hK,rfl,hM,TF,HP0,HC1,HP1,HC2,HP2,bM,cM,bC,bF0,bF1,OU,OT,RV,Tz,EK,EJ,RU,Tx,IT,IS,RT,Tw,rfl,rfl,Xc,os0,T6,EH,op1,GC,op2⟩;refine⟨K,_,_,_,rfl,rfl,Yp (bF0:=bF0) (bF1:=bF1) h0 h1 h2 os0.hle EH.hle GC.hle Xc.hle ?_ ?_ ?_ (Xc.sl.mono (hK hM Ak)) (os0.sl.mono (hK TF Ak)) (EH.sl.mono (hK HC1 Ak)) (GC.sl.mono (hK HC2 Ak)) (T6.sl.mono (hK HP0 Ak)) (op1.sl.mono (hK HP1 Ak)) (op2.sl.mono (hK HP2 Ak))⟩
  · have k:=hK (Co bC (.cells ⟨[.slice (some ⟨bF0,0,none⟩) 3 3,.slice (some ⟨bF1,0,none⟩) 2 2]⟩ 76 (0,0))) Ak;exact Sl.Co.mono k
  · have k:=hK (Co bF0 (.cells ⟨[i64 0,i64 0,i64 2]⟩ 79 (0,0))) Ak;exact Sl.Co.mono k
  · have k:=hK (Co bF1 (.cells ⟨[i64 0,i64 1]⟩ 79 (0,0))) Ak;exact Sl.Co.mono k
end Go.Proofs.YtcnmnmjmpocepaaGreatDoor
end
section
namespace Go.Proofs.YtcnmnmjmpocepaaGreatDoor
open Go.SL
open Kd
def UM(bs:List Nat)(PN:Bool)(m8 at8:Nat)(y:Ins):Im:=
  if PN then Fo (Jr m8 at8 y 0 (DP (Dr bs 0) 0)) (Jr m8 at8 y 1 (DP (Dr bs 1) 1)) (Jr m8 at8 y 2 (DP (Dr bs 2) 2))
  else Fo (DP (Dr bs 0) 0) (DP (Dr bs 1) 1) (DP (Dr bs 2) 2)
theorem MW(J:B6)(bb:Option Addr)(bn bc:Nat)(bs:List Nat) [O1:Sl J bb (bs.map Mx)](J4:bs.length=bn)(bx:bn≤bc)(Km:bn≤9223372036854775807)(hb:∀x∈bs,x≤255)(PN:Bool)(m8 at8:Nat)(gw:m8≤255)(gD:at8≤255)(op a z:Int):
    SL.T Tryz.prog 8 [gH bb bn bc PN (m8:Int) (at8:Int) op a z] [J] (fQ (UM bs PN m8 at8 ⟨Cd.md op 256,a,z⟩) J):=by
  have l0:=(GX (Dr bs 0) 0).1;have l1:=(GX (Dr bs 1) 1).1;have l2:=(GX (Dr bs 2) 2).1;cases PN with
  |false=>exact NT Ab Ab Ab (Ut J bb bn bc bs J4 bx Km hb m8 at8 op a z)
  |true=>exact NT (by rw [EO];omega) (by rw [EO];omega) (by rw [EO];omega) (WB J bb bn bc bs J4 bx Km hb m8 at8 gw gD op a z)
theorem S7(bs:List Nat)(PN:Bool)(m8 at8:Nat)(y:Ins):∃c0 c1 c2,UM bs PN m8 at8 y=Fo c0 c1 c2/\(4≤c0.length/\c0.length≤200)/\(4≤c1.length/\c1.length≤200)/\(4≤c2.length/\c2.length≤200):=by
  obtain⟨a0,b0,_⟩:=GX (Dr bs 0) 0;obtain⟨a1,b1,_⟩:=GX (Dr bs 1) 1;obtain⟨a2,b2,_⟩:=GX (Dr bs 2) 2;cases PN with
  |false=>exact⟨_,_,_,rfl,⟨b0,a0⟩,⟨b1,a1⟩,⟨b2,a2⟩⟩
  |true=>exact⟨_,_,_,rfl,⟨by rw [EO];exact b0,by rw [EO];exact a0⟩,⟨by rw [EO];exact b1,by rw [EO];exact a1⟩,⟨by rw [EO];exact b2,by rw [EO];exact a2⟩⟩
end Go.Proofs.YtcnmnmjmpocepaaGreatDoor
end
