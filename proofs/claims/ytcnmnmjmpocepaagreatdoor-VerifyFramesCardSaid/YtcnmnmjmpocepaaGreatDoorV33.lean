
import Derived.Test.YtcnmnmjmpocepaaGreatDoorV00
import Derived.Test.YtcnmnmjmpocepaaGreatDoorV09
import Derived.Test.YtcnmnmjmpocepaaGreatDoorV32
set_option linter.unusedVariables false
set_option linter.unusedSimpArgs false
set_option linter.unusedSectionVars false
set_option maxRecDepth 100000
set_option maxHeartbeats 16000000
namespace Go.Proofs.YtcnmnmjmpocepaaGreatDoor
open Go.SL
open Kd
abbrev mr(bb:Option Addr)(bn bc:Nat)(Nj:Bool)(m at8 op a b:Int):Value:= .agg ⟨[.slice bb bn bc,.bool Nj,.int .u8 m,.int .u8 at8,i64 op,i64 a,i64 b]⟩
theorem JR{J:CA}{bb:Option Addr}{bs:List Nat}{bc lo q:Nat}(Rj:Sl J bb (bs.map Rc))(hc:bs.length≤bc)(h:lo+q≤120):Sl J (sub bb lo bc 1) ((((bs.take 120).drop lo).take q).map Rc):=by
  have h1:=Rj.drop lo bc 1 As;rw [Nat.mul_one] at h1
  have e:(((bs.take 120).drop lo).take q)=(bs.drop lo).take q:=by
    rw [List.drop_take,List.take_take,show min q (120 - lo)=q by omega]
  rw [e];have h2:=h1.take q
  rwa [<-List.map_drop,<-List.map_take] at h2
theorem Om{l:List Ins}{i:Nat}{y:Ins}(h:i<l.length):(CZ l).take (i*3)++ [i64 y.op,i64 y.a,i64 y.b]++(CZ l).drop (i*3+3)=CZ (l.set i y):=by
  induction l generalizing i with
  |nil=>simp at h
  | cons x r ih=>
    cases i with
    |zero=>simp [CZ]
    | succ i=>
      have:=ih (i:=i) (by simpa using h);simp only [Nat.succ_mul,CZ,List.set_cons_succ] at this ⊢
      simpa using this
abbrev fJ(pb:Option Addr)(pn pc:Nat)(kb:Option Addr)(kn kc:Nat):List Value:= [.slice pb pn pc,i64 8,i64 6,.slice kb kn kc]
def XX(c0 c1 c2:List Ins)(J:CA)(e:Ending)(o:List CA):Prop:=
  ∃ A N,o.Perm (N++A)/\A= [J]/\∃hM Wz HP0 HC1 HP1 HC2 HP2 bM cM bC bF0 bF1 Ra Q9 U1 Wq FH FG U0 Wp Kl Kk UZ Wo,
    N= [hM,Wz,HP0,HC1,HP1,HC2,HP2,CV bC (.cells ⟨[.slice (some ⟨bF0,0,none⟩) 3 3,.slice (some ⟨bF1,0,none⟩) 2 2]⟩ 76 (0,0)),CV bF0 (.cells ⟨[i64 0,i64 0,i64 2]⟩ 79 (0,0)),CV bF1 (.cells ⟨[i64 0,i64 1]⟩ 79 (0,0))]/\
    e= .returned (Gi (some ⟨bC,0,none⟩) 2 2 bM 3 cM)/\OS hM bM 3 cM 66 4 (fJ U1 0 Wq Ra c0.length Q9++fJ U0 2 Wp FH c1.length FG++fJ UZ 4 Wo Kl c2.length Kk)/\
    OS Wz Ra c0.length Q9 24 3 (CZ c0)/\OS HP0 U1 0 Wq 79 1 ((Mr 0).map i64)/\OS HC1 FH c1.length FG 24 3 (CZ c1)/\OS HP1 U0 2 Wp 79 1 ((Mr 1).map i64)/\OS HC2 Kl c2.length Kk 24 3 (CZ c2)/\OS HP2 UZ 4 Wo 79 1 ((Mr 2).map i64)
def Ir(c0 c1 c2:List Ins):Im:=⟨[[0,0,2],[0,1]],[⟨Mr 0,8,6,c0⟩,⟨Mr 1,8,6,c1⟩,⟨Mr 2,8,6,c2⟩]⟩
attribute [local irreducible] SL.T Dw DG DE DI Et D0
theorem Xx(J:CA)(bb:Option Addr)(bn bc:Nat)(bs:List Nat) [Rj:Sl J bb (bs.map Rc)](Lf:bs.length=bn)(iM:bn≤bc)(Ma:bn≤9223372036854775807)(hb:∀x∈bs,x≤255)(m at8 op a z:Int):
    SL.T Tryz.prog 8 [mr bb bn bc false m at8 op a z] [J] (XX (FK (DX bs 0) 0) (FK (DX bs 1) 1) (FK (DX bs 2) 2) J):=by
  obtain⟨N,hN⟩:∃N,N=min bn 120:=⟨_,rfl⟩;have hN1:min ((bn:Nat):Int) 120=((N:Nat):Int):=by omega
  obtain⟨q,hq⟩:∃q,q=N/3:=⟨_,rfl⟩;have hq3:3*q≤N:=by omega
  have m0:IntKind.i64.wrap (0*((q:Nat):Int))=((0:Nat):Int):=by rw [Dz Ab Ab];omega
  have m1:IntKind.i64.wrap (1*((q:Nat):Int))=((q:Nat):Int):=by rw [Dz Ab Ab];omega
  have m2:IntKind.i64.wrap (2*((q:Nat):Int))=((2*q:Nat):Int):=by rw [Dz Ab Ab];omega
  have m3:IntKind.i64.wrap (3*((q:Nat):Int))=((3*q:Nat):Int):=by rw [Dz Ab Ab];omega
  refine CM Tryz.func8 rfl (Nat.le_of_ble_eq_true rfl) fun F=> ?_
  refine DH ?_
  repeat' (first|refine CW rfl rfl rfl ((Jp rfl rfl rfl rfl rfl).to (congrArg (Value.int .i64) hN1)) ?_|refine CW rfl rfl rfl ((Hp rfl rfl rfl Ab Ab).to (by rw [Int.toNat_natCast])) ?_|refine CW rfl rfl rfl (P5 (b:=3) rfl rfl rfl Ah Ab) ?_|apply Cv|refine Ct 0 Cr Ag ?_|refine Ct 3 Cr Af ?_|refine Ct 4 Cr Ae ?_|refine Ct 5 Cr Aq ?_|refine CP (fun b=> ?_)|refine C2 (fun β=> ?_)|refine CT (fun β=> ?_)|refine CN ?_|refine Cu ?_|apply Cw|refine Cy ?_|refine CC ?_)
  rw [<-hq];refine HY 4 (Lw ?_)
  repeat' (first|apply Cv|refine Ct 0 Cr Ap ?_|refine CO 2 Cr Aj Ab ?_|refine Cu ?_|apply Cw|refine Cy ?_|refine CH ?_|refine CC ?_|apply CB)
  obtain⟨EO,rfl⟩:∃x,x=β:=⟨_,rfl⟩;obtain⟨bC,rfl⟩:∃x,x=b:=⟨_,rfl⟩;obtain⟨bF1,rfl⟩:∃x,x=b:=⟨_,rfl⟩;obtain⟨bF0,rfl⟩:∃x,x=b:=⟨_,rfl⟩;have OU:∀lo,∀x∈(((bs.take 120).drop lo).take q),x≤255:=fun lo x hx=>hb x (List.mem_of_mem_take (List.mem_of_mem_drop (List.mem_of_mem_take hx)))
  have hl':∀lo,lo+q≤N->(((bs.take 120).drop lo).take q).length=q:=fun lo h=>by simp;omega
  have s0:=JR (q:=q) (lo:=0) (bc:=bc) Rj Ab Ab;have c0:SL.T Tryz.prog 27 [.slice (sub bb ((0:Nat):Int).toNat bc 1) (((q:Nat):Int).toNat - ((0:Nat):Int).toNat) (bc - ((0:Nat):Int).toNat),i64 0] [J] (hU (((bs.take 120).drop 0).take q) 0 J):=Ve J (sub bb 0 bc 1) q (bc - 0) _ (hl' 0 Ab) Ab (OU 0);refine C0 [.q [0,1,2,3,4,5,6,7,8,9,10,11],.h false 12,.an 13,.rv 13,.h true 14,.q [15],.h true 16] [CV EO (.cells ⟨[.slice (some ⟨bC,0,none⟩) 2 2,.slice none 0 0]⟩ 32 (0,0))] Ac Ac Ac Ac ?_
  repeat' (first|refine CW rfl rfl rfl ((Fu rfl rfl rfl).to (congrArg (Value.int .i64) m0)) ?_|refine CW rfl rfl rfl ((Fu rfl rfl rfl).to (congrArg (Value.int .i64) m1)) ?_|refine CW rfl rfl rfl (Ho rfl rfl rfl rfl Ab Ab Ab) ?_|apply Cv|refine Ct 0 Cr Ag ?_|refine Ct 1 Cr Ao ?_|refine CO 2 Cr Aj Ab ?_|refine Ct 3 Cr Af ?_|refine Cu ?_|refine C5 ?_|refine Dd rfl ?_|refine Dn rfl rfl AU ?_|refine DN rfl rfl rfl (fun β=> ?_)|refine Gc rfl (by decide +kernel) rfl rfl rfl rfl rfl Aa rfl Aa Aa ?_|(refine Ev rfl rfl rfl rfl rfl rfl rfl rfl (c0) (by rintro _ _ ⟨Wz,HP0,Ra,Q9,U1,Wq,rfl,rfl,os0,Uo⟩;exact⟨_,rfl⟩) ?_;rintro _ _ ⟨Wz,HP0,Ra,Q9,U1,Wq,rfl,rfl,os0,Uo⟩;refine⟨_,_,rfl,rfl,?_⟩)|refine FP rfl rfl rfl rfl rfl rfl rfl rfl rfl OS.nil Ah rfl Ah rfl Ab Ab (fun rW oQ oN jl=> ?_)|apply Cw|refine Cy ?_|refine CH ?_|refine CC ?_|apply CB)
  have s1:=JR (q:=q) (lo:=q) (bc:=bc) Rj Ab Ab;have c1:SL.T Tryz.prog 27 [.slice (sub bb ((q:Nat):Int).toNat bc 1) (((2*q:Nat):Int).toNat - ((q:Nat):Int).toNat) (bc - ((q:Nat):Int).toNat),i64 (0+1)] [J] (hU (((bs.take 120).drop (q)).take q) 1 J):=Vd J (sub bb (q) bc 1) (2*q - q) (bc - q) _ (by rw [hl' (q) Ab];omega) Ab (OU (q));refine C0 [.q [0,1,2,3,4,5,6,7,8,9,10,11],.h false 12,.an 13,.rv 13,.h true 14,.q [15],.h true 16] [CV EO (.cells ⟨[.slice (some ⟨bC,0,none⟩) 2 2,.slice oQ (0+1) oN]⟩ 32 (0,0))] Ac Ac Ac Ac ?_
  repeat' (first|refine CW rfl rfl rfl ((Fu rfl rfl rfl).to (congrArg (Value.int .i64) m1)) ?_|refine CW rfl rfl rfl ((Fu rfl rfl rfl).to (congrArg (Value.int .i64) m2)) ?_|refine CW rfl rfl rfl (Ho rfl rfl rfl rfl Ab Ab Ab) ?_|apply Cv|refine Ct 0 Cr Ag ?_|refine Ct 1 Cr Ao ?_|refine CO 2 Cr Aj Ab ?_|refine Ct 3 Cr Af ?_|refine Cu ?_|refine C5 ?_|refine Dd rfl ?_|refine Dn rfl rfl AU ?_|refine DN rfl rfl rfl (fun β=> ?_)|refine Gc rfl (by decide +kernel) rfl rfl rfl rfl rfl Aa rfl Aa Aa ?_|(refine Ev rfl rfl rfl rfl rfl rfl rfl rfl (c1) (by rintro _ _ ⟨HC1,HP1,FH,FG,U0,Wp,rfl,rfl,E2,op1⟩;exact⟨_,rfl⟩) ?_;rintro _ _ ⟨HC1,HP1,FH,FG,U0,Wp,rfl,rfl,E2,op1⟩;refine⟨_,_,rfl,rfl,?_⟩)|refine FP rfl rfl rfl rfl rfl rfl rfl rfl rfl jl Ah rfl Ah rfl Ab Ab (fun rV oO oM jk=> ?_)|apply Cw|refine Cy ?_|refine CH ?_|refine CC ?_|apply CB)
  have s2:=JR (q:=q) (lo:=2*q) (bc:=bc) Rj Ab Ab;have c2:SL.T Tryz.prog 27 [.slice (sub bb ((2*q:Nat):Int).toNat bc 1) (((3*q:Nat):Int).toNat - ((2*q:Nat):Int).toNat) (bc - ((2*q:Nat):Int).toNat),i64 (0+1+1)] [J] (hU (((bs.take 120).drop (2*q)).take q) 2 J):=Vc J (sub bb (2*q) bc 1) (3*q - 2*q) (bc - 2*q) _ (by rw [hl' (2*q) Ab];omega) Ab (OU (2*q));refine C0 [.q [0,1,2,3,4,5,6,7,8,9,10,11],.h false 12,.an 13,.rv 13,.h true 14,.q [15],.h true 16] [CV EO (.cells ⟨[.slice (some ⟨bC,0,none⟩) 2 2,.slice oO (0+1+1) oM]⟩ 32 (0,0))] Ac Ac Ac Ac ?_
  repeat' (first|refine CW rfl rfl rfl ((Fu rfl rfl rfl).to (congrArg (Value.int .i64) m2)) ?_|refine CW rfl rfl rfl ((Fu rfl rfl rfl).to (congrArg (Value.int .i64) m3)) ?_|refine CW rfl rfl rfl (Ho rfl rfl rfl rfl Ab Ab Ab) ?_|apply Cv|refine Ct 0 Cr Ag ?_|refine Ct 1 Cr Ao ?_|refine CY 2 Cr Aj Ab ?_|refine Ct 3 Cr AE ?_|refine CN ?_|refine Cu ?_|refine C5 ?_|refine Dd rfl ?_|refine Dn rfl rfl AU ?_|refine DN rfl rfl rfl (fun β=> ?_)|refine Gc rfl (by decide +kernel) rfl rfl rfl rfl rfl Aa rfl Aa Aa ?_|(refine Ev rfl rfl rfl rfl rfl rfl rfl rfl (c2) (by rintro _ _ ⟨HC2,HP2,Kl,Kk,UZ,Wo,rfl,rfl,G3,op2⟩;exact⟨_,rfl⟩) ?_;rintro _ _ ⟨HC2,HP2,Kl,Kk,UZ,Wo,rfl,rfl,G3,op2⟩;refine⟨_,_,rfl,rfl,?_⟩)|refine FP rfl rfl rfl rfl rfl rfl rfl rfl rfl jk Ah rfl Ah rfl Ab Ab (fun Up gP gN O2=> ?_)|apply Cw|refine Cy ?_|refine CF ?_|apply Cz|refine C1 ?_|apply CB)
  have hNl:(bs.take 120).length=N:=by simp;omega
  have t0:((bs.take 120).drop 0).take q=DX bs 0:=by simp only [DX,hNl,<-hq];rw [Nat.zero_mul]
  have t1:((bs.take 120).drop q).take q=DX bs 1:=by simp only [DX,hNl,<-hq];rw [Nat.one_mul]
  have t2:((bs.take 120).drop (2*q)).take q=DX bs 2:=by simp only [DX,hNl,<-hq]
  rw [t0] at os0 O2 ⊢
  rw [t1] at E2 O2 ⊢
  rw [t2] at G3 O2 ⊢
  exact CJ [Up,Wz,HP0,HC1,HP1,HC2,HP2,CV bC (.cells ⟨[.slice (some ⟨bF0,0,none⟩) 3 3,.slice (some ⟨bF1,0,none⟩) 2 2]⟩ 76 (0,0)),CV bF0 (.cells ⟨[i64 0,i64 0,i64 2]⟩ 79 (0,0)),CV bF1 (.cells ⟨[i64 0,i64 1]⟩ 79 (0,0)),J] (CD (CR rfl rfl rfl rfl))
    ⟨[J],_,List.Perm.refl _,rfl,Up,Wz,HP0,HC1,HP1,HC2,HP2,gP,gN,bC,bF0,bF1,Ra,Q9,U1,Wq,FH,FG,U0,Wp,Kl,Kk,UZ,Wo,rfl,rfl,O2,os0,Uo,E2,op1,G3,op2⟩
end Go.Proofs.YtcnmnmjmpocepaaGreatDoor
