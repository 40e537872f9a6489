
import Derived.Test.YtcnmnmjmpocepaaGreatDoorV00
import Derived.Test.YtcnmnmjmpocepaaGreatDoorV09
import Derived.Test.YtcnmnmjmpocepaaGreatDoorV33
import Derived.Test.YtcnmnmjmpocepaaGreatDoorV40
import Derived.Test.YtcnmnmjmpocepaaGreatDoorV41
set_option linter.unusedVariables false
set_option linter.unusedSimpArgs false
set_option linter.unusedSectionVars false
set_option maxRecDepth 100000
set_option maxHeartbeats 16000000
section
namespace Go.Proofs.YtcnmnmjmpocepaaGreatDoor
open Go.SL
open Kd
def Kc(m8 at8:Nat)(y:Ins)(k:Nat)(c:List Ins):List Ins:=if m8%3=k then c.set (at8%c.length) y else c
theorem Fv(m8 at8:Nat)(y:Ins)(k:Nat)(c:List Ins):(Kc m8 at8 y k c).length=c.length:=by unfold Kc;split <;>simp
attribute [local irreducible] SL.T Dw DG DE DI Et D0
theorem ZG(J:CA)(bb:Option Addr)(bn bc:Nat)(bs:List Nat) [Rj:Sl J bb (bs.map Rc)](Lf:bs.length=bn)(iM:bn≤bc)(Ma:bn≤9223372036854775807)(hb:∀x∈bs,x≤255)(m8 at8:Nat)(kO:m8≤255)(kS:at8≤255)(op a z:Int):
    SL.T Tryz.prog 8 [mr bb bn bc true (m8:Int) (at8:Int) op a z] [J] (XX (Kc m8 at8 ⟨Cd.md op 256,a,z⟩ 0 (FK (DX bs 0) 0)) (Kc m8 at8 ⟨Cd.md op 256,a,z⟩ 1 (FK (DX bs 1) 1)) (Kc m8 at8 ⟨Cd.md op 256,a,z⟩ 2 (FK (DX bs 2) 2)) J):=by
  obtain⟨N,hN⟩:∃N,N=min bn 120:=⟨_,rfl⟩;have hN1:min ((bn:Nat):Int) 120=((N:Nat):Int):=by omega
  obtain⟨q,hq⟩:∃q,q=N/3:=⟨_,rfl⟩;have hq3:3*q≤N:=by omega
  have m0:IntKind.i64.wrap (0*((q:Nat):Int))=((0:Nat):Int):=by rw [Dz Ab Ab];omega
  have m1:IntKind.i64.wrap (1*((q:Nat):Int))=((q:Nat):Int):=by rw [Dz Ab Ab];omega
  have m2:IntKind.i64.wrap (2*((q:Nat):Int))=((2*q:Nat):Int):=by rw [Dz Ab Ab];omega
  have m3:IntKind.i64.wrap (3*((q:Nat):Int))=((3*q:Nat):Int):=by rw [Dz Ab Ab];omega
  refine CM Tryz.func8 rfl (Nat.le_of_ble_eq_true rfl) fun F=> ?_
  refine DH ?_
  repeat' (first|refine CW rfl rfl rfl ((Jp rfl rfl rfl rfl rfl).to (congrArg (Value.int .i64) hN1)) ?_|refine CW rfl rfl rfl ((Hp rfl rfl rfl Ab Ab).to (by rw [Int.toNat_natCast])) ?_|refine CW rfl rfl rfl (P5 (b:=3) rfl rfl rfl Ah Ab) ?_|apply Cv|refine Ct 0 Cr Ag ?_|refine Ct 3 Cr Af ?_|refine Ct 4 Cr Ae ?_|refine Ct 5 Cr Aq ?_|refine CP (fun b=> ?_)|refine C2 (fun β=> ?_)|refine CT (fun β=> ?_)|refine CN ?_|refine Cu ?_|apply Cw|refine Cy ?_|refine CC ?_)
  rw [<-hq];refine HY 4 (Lw ?_)
  repeat' (first|apply Cv|refine Ct 0 Cr Ap ?_|refine CO 2 Cr Aj Ab ?_|refine Cu ?_|apply Cw|refine Cy ?_|refine CH ?_|refine CC ?_|apply CB)
  obtain⟨EO,rfl⟩:∃x,x=β:=⟨_,rfl⟩;obtain⟨bC,rfl⟩:∃x,x=b:=⟨_,rfl⟩;obtain⟨bF1,rfl⟩:∃x,x=b:=⟨_,rfl⟩;obtain⟨bF0,rfl⟩:∃x,x=b:=⟨_,rfl⟩;have OU:∀lo,∀x∈(((bs.take 120).drop lo).take q),x≤255:=fun lo x hx=>hb x (List.mem_of_mem_take (List.mem_of_mem_drop (List.mem_of_mem_take hx)))
  have hl':∀lo,lo+q≤N->(((bs.take 120).drop lo).take q).length=q:=fun lo h=>by simp;omega
  have s0:=JR (q:=q) (lo:=0) (bc:=bc) Rj Ab Ab;have c0:SL.T Tryz.prog 27 [.slice (sub bb ((0:Nat):Int).toNat bc 1) (((q:Nat):Int).toNat - ((0:Nat):Int).toNat) (bc - ((0:Nat):Int).toNat),i64 0] [J] (hU (((bs.take 120).drop 0).take q) 0 J):=Ve J (sub bb 0 bc 1) q (bc - 0) _ (hl' 0 Ab) Ab (OU 0);refine C0 [.q [0,1,2,3,4,5,6,7,8,9,10,11],.h false 12,.an 13,.rv 13,.h true 14,.q [15],.h true 16] [CV EO (.cells ⟨[.slice (some ⟨bC,0,none⟩) 2 2,.slice none 0 0]⟩ 32 (0,0))] Ac Ac Ac Ac ?_
  repeat' (first|refine CW rfl rfl rfl ((Fu rfl rfl rfl).to (congrArg (Value.int .i64) m0)) ?_|refine CW rfl rfl rfl ((Fu rfl rfl rfl).to (congrArg (Value.int .i64) m1)) ?_|refine CW rfl rfl rfl (Ho rfl rfl rfl rfl Ab Ab Ab) ?_|apply Cv|refine Ct 0 Cr Ag ?_|refine Ct 1 Cr Ao ?_|refine CO 2 Cr Aj Ab ?_|refine Ct 3 Cr Af ?_|refine Cu ?_|refine C5 ?_|refine Dd rfl ?_|refine Dn rfl rfl AU ?_|refine DN rfl rfl rfl (fun β=> ?_)|refine Gc rfl (by decide +kernel) rfl rfl rfl rfl rfl Aa rfl Aa Aa ?_|(refine Ev rfl rfl rfl rfl rfl rfl rfl rfl (c0) (by rintro _ _ ⟨Wz,HP0,Ra,Q9,U1,Wq,rfl,rfl,os0,Uo⟩;exact⟨_,rfl⟩) ?_;rintro _ _ ⟨Wz,HP0,Ra,Q9,U1,Wq,rfl,rfl,os0,Uo⟩;refine⟨_,_,rfl,rfl,?_⟩)|refine FP rfl rfl rfl rfl rfl rfl rfl rfl rfl OS.nil Ah rfl Ah rfl Ab Ab (fun rW oQ oN jl=> ?_)|apply Cw|refine Cy ?_|refine CH ?_|refine CC ?_|apply CB)
  have s1:=JR (q:=q) (lo:=q) (bc:=bc) Rj Ab Ab;have c1:SL.T Tryz.prog 27 [.slice (sub bb ((q:Nat):Int).toNat bc 1) (((2*q:Nat):Int).toNat - ((q:Nat):Int).toNat) (bc - ((q:Nat):Int).toNat),i64 (0+1)] [J] (hU (((bs.take 120).drop (q)).take q) 1 J):=Vd J (sub bb (q) bc 1) (2*q - q) (bc - q) _ (by rw [hl' (q) Ab];omega) Ab (OU (q));refine C0 [.q [0,1,2,3,4,5,6,7,8,9,10,11],.h false 12,.an 13,.rv 13,.h true 14,.q [15],.h true 16] [CV EO (.cells ⟨[.slice (some ⟨bC,0,none⟩) 2 2,.slice oQ (0+1) oN]⟩ 32 (0,0))] Ac Ac Ac Ac ?_
  repeat' (first|refine CW rfl rfl rfl ((Fu rfl rfl rfl).to (congrArg (Value.int .i64) m1)) ?_|refine CW rfl rfl rfl ((Fu rfl rfl rfl).to (congrArg (Value.int .i64) m2)) ?_|refine CW rfl rfl rfl (Ho rfl rfl rfl rfl Ab Ab Ab) ?_|apply Cv|refine Ct 0 Cr Ag ?_|refine Ct 1 Cr Ao ?_|refine CO 2 Cr Aj Ab ?_|refine Ct 3 Cr Af ?_|refine Cu ?_|refine C5 ?_|refine Dd rfl ?_|refine Dn rfl rfl AU ?_|refine DN rfl rfl rfl (fun β=> ?_)|refine Gc rfl (by decide +kernel) rfl rfl rfl rfl rfl Aa rfl Aa Aa ?_|(refine Ev rfl rfl rfl rfl rfl rfl rfl rfl (c1) (by rintro _ _ ⟨HC1,HP1,FH,FG,U0,Wp,rfl,rfl,E2,op1⟩;exact⟨_,rfl⟩) ?_;rintro _ _ ⟨HC1,HP1,FH,FG,U0,Wp,rfl,rfl,E2,op1⟩;refine⟨_,_,rfl,rfl,?_⟩)|refine FP rfl rfl rfl rfl rfl rfl rfl rfl rfl jl Ah rfl Ah rfl Ab Ab (fun rV oO oM jk=> ?_)|apply Cw|refine Cy ?_|refine CH ?_|refine CC ?_|apply CB)
  have s2:=JR (q:=q) (lo:=2*q) (bc:=bc) Rj Ab Ab;have c2:SL.T Tryz.prog 27 [.slice (sub bb ((2*q:Nat):Int).toNat bc 1) (((3*q:Nat):Int).toNat - ((2*q:Nat):Int).toNat) (bc - ((2*q:Nat):Int).toNat),i64 (0+1+1)] [J] (hU (((bs.take 120).drop (2*q)).take q) 2 J):=Vc J (sub bb (2*q) bc 1) (3*q - 2*q) (bc - 2*q) _ (by rw [hl' (2*q) Ab];omega) Ab (OU (2*q));refine C0 [.q [0,1,2,3,4,5,6,7,8,9,10,11],.h false 12,.an 13,.rv 13,.h true 14,.q [15],.h true 16] [CV EO (.cells ⟨[.slice (some ⟨bC,0,none⟩) 2 2,.slice oO (0+1+1) oM]⟩ 32 (0,0))] Ac Ac Ac Ac ?_
  repeat' (first|refine CW rfl rfl rfl ((C8 rfl rfl).to (congrArg (Value.int .i64) (Dz Ab Ab))) ?_|refine CW rfl rfl rfl (D1 (b:=3) rfl rfl rfl Ah) ?_|refine CW rfl rfl rfl ((Fu rfl rfl rfl).to (congrArg (Value.int .i64) m2)) ?_|refine CW rfl rfl rfl ((Fu rfl rfl rfl).to (congrArg (Value.int .i64) m3)) ?_|refine CW rfl rfl rfl (Ho rfl rfl rfl rfl Ab Ab Ab) ?_|apply Cv|refine Ct 0 Cr Ag ?_|refine Ct 1 Cr Ao ?_|refine CY 2 Cr Aj Ab ?_|refine Ct 3 Cr Af ?_|refine Cu ?_|refine C5 ?_|refine Dd rfl ?_|refine Dn rfl rfl AU ?_|refine DN rfl rfl rfl (fun β=> ?_)|refine Gc rfl (by decide +kernel) rfl rfl rfl rfl rfl Aa rfl Aa Aa ?_|(refine Ev rfl rfl rfl rfl rfl rfl rfl rfl (c2) (by rintro _ _ ⟨HC2,HP2,Kl,Kk,UZ,Wo,rfl,rfl,G3,op2⟩;exact⟨_,rfl⟩) ?_;rintro _ _ ⟨HC2,HP2,Kl,Kk,UZ,Wo,rfl,rfl,G3,op2⟩;refine⟨_,_,rfl,rfl,?_⟩)|refine FP rfl rfl rfl rfl rfl rfl rfl rfl rfl jk Ah rfl Ah rfl Ab Ab (fun Up gP gN O2=> ?_)|apply Cw|refine Cy ?_|refine CH ?_|refine CF ?_|refine C1 ?_)
  have hNl:(bs.take 120).length=N:=by simp;omega
  have t0:((bs.take 120).drop 0).take q=DX bs 0:=by simp only [DX,hNl,<-hq];rw [Nat.zero_mul]
  have t1:((bs.take 120).drop q).take q=DX bs 1:=by simp only [DX,hNl,<-hq];rw [Nat.one_mul]
  have t2:((bs.take 120).drop (2*q)).take q=DX bs 2:=by simp only [DX,hNl,<-hq]
  rw [t0] at os0 O2 ⊢
  rw [t1] at E2 O2 ⊢
  rw [t2] at G3 O2 ⊢
  obtain⟨l0,sU, -⟩:=Ih (DX bs 0) 0;obtain⟨l1,sT, -⟩:=Ih (DX bs 1) 1;obtain⟨l2,sS, -⟩:=Ih (DX bs 2) 2
  generalize FK (DX bs 0) 0=k0 at*
  generalize FK (DX bs 1) 1=k1 at*
  generalize FK (DX bs 2) 2=k2 at*
  obtain⟨mv,ZL⟩:∃mv,mv=fJ U1 0 Wq Ra k0.length Q9++fJ U0 2 Wp FH k1.length FG++fJ UZ 4 Wo Kl k2.length Kk:=⟨_,rfl⟩;have osM3:OS Up gP 3 gN 66 4 mv:=by rw [ZL];exact O2
  haveI slM:=osM3.sl;have Pr:mv.length=12:=by rw [ZL];rfl
  have L9:Value.int .u64 (IntKind.u64.wrap op)= .int .u64 ((Cd.md.WH op:Nat):Int):=by rw [Cd.eO]
  have hr256:Value.int .u64 (((Cd.md.WH op:Nat):Int).tmod 256)= .int .u64 (Cd.md op 256):=congrArg _ (Cd.jx op 256);have hb256:Value.int .i64 (IntKind.i64.wrap (Cd.md op 256))=i64 (Cd.md op 256):=by rw [Cd.fN op Ah Ah]
  rcases(show m8%3=0∨m8%3=1∨m8%3=2 by omega) with h|h|h
  · have e0:Kc m8 at8 ⟨Cd.md op 256,a,z⟩ 0 k0=k0.set (at8%k0.length) ⟨Cd.md op 256,a,z⟩:=if_pos h;have e1:Kc m8 at8 ⟨Cd.md op 256,a,z⟩ 1 k1=k1:=if_neg Ab;have e2:Kc m8 at8 ⟨Cd.md op 256,a,z⟩ 2 k2=k2:=if_neg Ab;rw [h,e0,e1,e2];have nn:mv[((0:Nat):Int).toNat*4+3]?=some (.slice Ra k0.length Q9):=by rw [ZL];rfl
    have hkM:((0:Nat):Int).toNat*4<mv.length:=by rw [Pr];decide
    have hkM3:((0:Nat):Int).toNat*4+3<mv.length:=by rw [Pr];decide
    haveI ie:=os0.sl;have FD:at8%k0.length<k0.length:=Nat.mod_lt _ Ab;have hkK:((at8%k0.length:Nat):Int).toNat*3<(CZ k0).length:=by rw [Dc];simp;omega
    have hfl:=Dc k0;have hset:(CZ k0).take (((at8%k0.length:Nat):Int).toNat*3)++ [i64 (Cd.md op 256),i64 a,i64 z]++(CZ k0).drop (((at8%k0.length:Nat):Int).toNat*3+3)=CZ (k0.set (at8%k0.length) ⟨Cd.md op 256,a,z⟩):=Om (y:=⟨Cd.md op 256,a,z⟩) FD;refine De Ac Ac rfl ?_
    repeat' (first|refine CW rfl rfl rfl ((C8 rfl rfl).to L9) ?_|refine CW rfl rfl rfl ((C8 rfl rfl).to hb256) ?_|refine CW rfl rfl rfl ((Jo rfl rfl rfl Ah).to hr256) ?_|refine CW rfl rfl rfl ((C8 rfl rfl).to (congrArg (Value.int .i64) (Dz Ab Ab))) ?_|refine CW rfl rfl rfl (D1 (b:=k0.length) rfl rfl rfl Ab) ?_|apply Cv|refine Ct 0 Cr Ag ?_|refine Ct 3 Cr AM ?_|refine Ct 4 Cr Ae ?_|refine CT (fun β=> ?_)|refine CN ?_|refine Cu ?_|apply Cw|refine Cy ?_)
    obtain⟨dY,rfl⟩:∃x,x=β:=⟨_,rfl⟩;refine C0 [.q [0,1,2,3,4,5,6,7,8],.h true 9] [CV dY (.cells ⟨[i64 (Cd.md op 256),i64 a,i64 z]⟩ 24 (0,0)),CV EO (.cells ⟨[.slice (some ⟨bC,0,none⟩) 2 2,.slice gP (0+1+1+1) gN]⟩ 32 (0,0)),Up] Ac Ac Ac Ac ?_
    repeat' (first|apply Cv|refine Ct 0 Cr Ap ?_|refine Ct 3 Cr AM ?_|refine CN ?_|refine Cu ?_|refine C5 ?_|refine Dd rfl ?_|refine Ew rfl rfl rfl rfl rfl rfl os0 rfl rfl rfl (Nat.succ_pos _) BU hset (fun hX lx=> ?_)|apply Cw|refine Cy ?_|apply Cz)
    have LK:(k0.set (at8%k0.length) (⟨Cd.md op 256,a,z⟩:Ins)).length=k0.length:=by simp
    have osY:OS hX Ra (k0.set (at8%k0.length) (⟨Cd.md op 256,a,z⟩:Ins)).length Q9 24 3 (CZ (k0.set (at8%k0.length) ⟨Cd.md op 256,a,z⟩)):=by
      rw [LK];exact lx
    refine CJ [Up,hX,HP0,HC1,HP1,HC2,HP2,CV bC (.cells ⟨[.slice (some ⟨bF0,0,none⟩) 3 3,.slice (some ⟨bF1,0,none⟩) 2 2]⟩ 76 (0,0)),CV bF0 (.cells ⟨[i64 0,i64 0,i64 2]⟩ 79 (0,0)),CV bF1 (.cells ⟨[i64 0,i64 1]⟩ 79 (0,0)),J] (CD (CR rfl rfl rfl rfl))
      ⟨[J],_,List.Perm.refl _,rfl,Up,hX,HP0,HC1,HP1,HC2,HP2,gP,gN,bC,bF0,bF1,Ra,Q9,U1,Wq,FH,FG,U0,Wp,Kl,Kk,UZ,Wo,rfl,rfl,?_,osY,Uo,E2,op1,G3,op2⟩
    rw [LK];exact O2
  · have e0:Kc m8 at8 ⟨Cd.md op 256,a,z⟩ 0 k0=k0:=if_neg Ab;have e1:Kc m8 at8 ⟨Cd.md op 256,a,z⟩ 1 k1=k1.set (at8%k1.length) ⟨Cd.md op 256,a,z⟩:=if_pos h;have e2:Kc m8 at8 ⟨Cd.md op 256,a,z⟩ 2 k2=k2:=if_neg Ab;rw [h,e0,e1,e2];have nn:mv[((1:Nat):Int).toNat*4+3]?=some (.slice FH k1.length FG):=by rw [ZL];rfl
    have hkM:((1:Nat):Int).toNat*4<mv.length:=by rw [Pr];decide
    have hkM3:((1:Nat):Int).toNat*4+3<mv.length:=by rw [Pr];decide
    haveI ie:=E2.sl;have FD:at8%k1.length<k1.length:=Nat.mod_lt _ Ab;have hkK:((at8%k1.length:Nat):Int).toNat*3<(CZ k1).length:=by rw [Dc];simp;omega
    have hfl:=Dc k1;have hset:(CZ k1).take (((at8%k1.length:Nat):Int).toNat*3)++ [i64 (Cd.md op 256),i64 a,i64 z]++(CZ k1).drop (((at8%k1.length:Nat):Int).toNat*3+3)=CZ (k1.set (at8%k1.length) ⟨Cd.md op 256,a,z⟩):=Om (y:=⟨Cd.md op 256,a,z⟩) FD;refine De Ac Ac rfl ?_
    repeat' (first|refine CW rfl rfl rfl ((C8 rfl rfl).to L9) ?_|refine CW rfl rfl rfl ((C8 rfl rfl).to hb256) ?_|refine CW rfl rfl rfl ((Jo rfl rfl rfl Ah).to hr256) ?_|refine CW rfl rfl rfl ((C8 rfl rfl).to (congrArg (Value.int .i64) (Dz Ab Ab))) ?_|refine CW rfl rfl rfl (D1 (b:=k1.length) rfl rfl rfl Ab) ?_|apply Cv|refine Ct 0 Cr Ag ?_|refine Ct 3 Cr AM ?_|refine Ct 4 Cr Ae ?_|refine CT (fun β=> ?_)|refine CN ?_|refine Cu ?_|apply Cw|refine Cy ?_)
    obtain⟨dY,rfl⟩:∃x,x=β:=⟨_,rfl⟩;refine C0 [.q [0,1,2,3,4,5,6,7,8],.h true 9] [CV dY (.cells ⟨[i64 (Cd.md op 256),i64 a,i64 z]⟩ 24 (0,0)),CV EO (.cells ⟨[.slice (some ⟨bC,0,none⟩) 2 2,.slice gP (0+1+1+1) gN]⟩ 32 (0,0)),Up] Ac Ac Ac Ac ?_
    repeat' (first|apply Cv|refine Ct 0 Cr Ap ?_|refine Ct 3 Cr AM ?_|refine CN ?_|refine Cu ?_|refine C5 ?_|refine Dd rfl ?_|refine Ew rfl rfl rfl rfl rfl rfl E2 rfl rfl rfl (Nat.succ_pos _) BU hset (fun hX lx=> ?_)|apply Cw|refine Cy ?_|apply Cz)
    have LK:(k1.set (at8%k1.length) (⟨Cd.md op 256,a,z⟩:Ins)).length=k1.length:=by simp
    have osY:OS hX FH (k1.set (at8%k1.length) (⟨Cd.md op 256,a,z⟩:Ins)).length FG 24 3 (CZ (k1.set (at8%k1.length) ⟨Cd.md op 256,a,z⟩)):=by
      rw [LK];exact lx
    refine CJ [Up,Wz,HP0,hX,HP1,HC2,HP2,CV bC (.cells ⟨[.slice (some ⟨bF0,0,none⟩) 3 3,.slice (some ⟨bF1,0,none⟩) 2 2]⟩ 76 (0,0)),CV bF0 (.cells ⟨[i64 0,i64 0,i64 2]⟩ 79 (0,0)),CV bF1 (.cells ⟨[i64 0,i64 1]⟩ 79 (0,0)),J] (CD (CR rfl rfl rfl rfl))
      ⟨[J],_,List.Perm.refl _,rfl,Up,Wz,HP0,hX,HP1,HC2,HP2,gP,gN,bC,bF0,bF1,Ra,Q9,U1,Wq,FH,FG,U0,Wp,Kl,Kk,UZ,Wo,rfl,rfl,?_,os0,Uo,osY,op1,G3,op2⟩
    rw [LK];exact O2
  · have e0:Kc m8 at8 ⟨Cd.md op 256,a,z⟩ 0 k0=k0:=if_neg Ab;have e1:Kc m8 at8 ⟨Cd.md op 256,a,z⟩ 1 k1=k1:=if_neg Ab;have e2:Kc m8 at8 ⟨Cd.md op 256,a,z⟩ 2 k2=k2.set (at8%k2.length) ⟨Cd.md op 256,a,z⟩:=if_pos h;rw [h,e0,e1,e2];have nn:mv[((2:Nat):Int).toNat*4+3]?=some (.slice Kl k2.length Kk):=by rw [ZL];rfl
    have hkM:((2:Nat):Int).toNat*4<mv.length:=by rw [Pr];decide
    have hkM3:((2:Nat):Int).toNat*4+3<mv.length:=by rw [Pr];decide
    haveI ie:=G3.sl;have FD:at8%k2.length<k2.length:=Nat.mod_lt _ Ab;have hkK:((at8%k2.length:Nat):Int).toNat*3<(CZ k2).length:=by rw [Dc];simp;omega
    have hfl:=Dc k2;have hset:(CZ k2).take (((at8%k2.length:Nat):Int).toNat*3)++ [i64 (Cd.md op 256),i64 a,i64 z]++(CZ k2).drop (((at8%k2.length:Nat):Int).toNat*3+3)=CZ (k2.set (at8%k2.length) ⟨Cd.md op 256,a,z⟩):=Om (y:=⟨Cd.md op 256,a,z⟩) FD;refine De Ac Ac rfl ?_
    repeat' (first|refine CW rfl rfl rfl ((C8 rfl rfl).to L9) ?_|refine CW rfl rfl rfl ((C8 rfl rfl).to hb256) ?_|refine CW rfl rfl rfl ((Jo rfl rfl rfl Ah).to hr256) ?_|refine CW rfl rfl rfl ((C8 rfl rfl).to (congrArg (Value.int .i64) (Dz Ab Ab))) ?_|refine CW rfl rfl rfl (D1 (b:=k2.length) rfl rfl rfl Ab) ?_|apply Cv|refine Ct 0 Cr Ag ?_|refine Ct 3 Cr AM ?_|refine Ct 4 Cr Ae ?_|refine CT (fun β=> ?_)|refine CN ?_|refine Cu ?_|apply Cw|refine Cy ?_)
    obtain⟨dY,rfl⟩:∃x,x=β:=⟨_,rfl⟩;refine C0 [.q [0,1,2,3,4,5,6,7,8],.h true 9] [CV dY (.cells ⟨[i64 (Cd.md op 256),i64 a,i64 z]⟩ 24 (0,0)),CV EO (.cells ⟨[.slice (some ⟨bC,0,none⟩) 2 2,.slice gP (0+1+1+1) gN]⟩ 32 (0,0)),Up] Ac Ac Ac Ac ?_
    repeat' (first|apply Cv|refine Ct 0 Cr Ap ?_|refine Ct 3 Cr AM ?_|refine CN ?_|refine Cu ?_|refine C5 ?_|refine Dd rfl ?_|refine Ew rfl rfl rfl rfl rfl rfl G3 rfl rfl rfl (Nat.succ_pos _) BU hset (fun hX lx=> ?_)|apply Cw|refine Cy ?_|apply Cz)
    have LK:(k2.set (at8%k2.length) (⟨Cd.md op 256,a,z⟩:Ins)).length=k2.length:=by simp
    have osY:OS hX Kl (k2.set (at8%k2.length) (⟨Cd.md op 256,a,z⟩:Ins)).length Kk 24 3 (CZ (k2.set (at8%k2.length) ⟨Cd.md op 256,a,z⟩)):=by
      rw [LK];exact lx
    refine CJ [Up,Wz,HP0,HC1,HP1,hX,HP2,CV bC (.cells ⟨[.slice (some ⟨bF0,0,none⟩) 3 3,.slice (some ⟨bF1,0,none⟩) 2 2]⟩ 76 (0,0)),CV bF0 (.cells ⟨[i64 0,i64 0,i64 2]⟩ 79 (0,0)),CV bF1 (.cells ⟨[i64 0,i64 1]⟩ 79 (0,0)),J] (CD (CR rfl rfl rfl rfl))
      ⟨[J],_,List.Perm.refl _,rfl,Up,Wz,HP0,HC1,HP1,hX,HP2,gP,gN,bC,bF0,bF1,Ra,Q9,U1,Wq,FH,FG,U0,Wp,Kl,Kk,UZ,Wo,rfl,rfl,?_,os0,Uo,E2,op1,osY,op2⟩
    rw [LK];exact O2
end Go.Proofs.YtcnmnmjmpocepaaGreatDoor
end
section
namespace Go.Proofs.YtcnmnmjmpocepaaGreatDoor
open Go.SL
open Kd
theorem cP{K:CA}{c0 c1 c2:List Ins}{bC bF0 bF1:Nat}{bM:Option Addr}{cM:Nat}{U1 Ra U0 FH UZ Kl:Option Addr}{Wq Q9 Wp FG Wo Kk:Nat}
    (h0:c0.length≤1000) (h1:c1.length≤1000) (h2:c2.length≤1000) (q0:c0.length≤Q9) (q1:c1.length≤FG) (q2:c2.length≤Kk) (nn:3≤cM)
    (sC:Sl K (some ⟨bC,0,none⟩) [.slice (some ⟨bF0,0,none⟩) 3 3,.slice (some ⟨bF1,0,none⟩) 2 2]) (pI:Sl K (some ⟨bF0,0,none⟩) [i64 0,i64 0,i64 2]) (pH:Sl K (some ⟨bF1,0,none⟩) [i64 0,i64 1])
    (sM:Sl K bM (fJ U1 0 Wq Ra c0.length Q9++fJ U0 2 Wp FH c1.length FG++fJ UZ 4 Wo Kl c2.length Kk))
    (s0:Sl K Ra (CZ c0)) (s1:Sl K FH (CZ c1)) (s2:Sl K Kl (CZ c2)) (p0:Sl K U1 ((Mr 0).map i64)) (p1:Sl K U0 ((Mr 1).map i64)) (p2:Sl K UZ ((Mr 2).map i64)):
    ez K (Ir c0 c1 c2) (Gi (some ⟨bC,0,none⟩) 2 2 bM 3 cM):=by
  refine⟨⟨_,2,2,bM,3,cM,rfl,⟨_,sC,rfl,rfl,by decide,fun i f hf=> ?_⟩,⟨_,sM,rfl,rfl,by decide,fun i m hm=> ?_⟩,fun m hm=> ?_⟩,⟨_,2,2,bM,3,cM,rfl,⟨_,sC,rfl,rfl,by decide,fun i f hf=> ?_⟩,⟨_,sM,rfl,rfl,by decide,fun i m hm=> ?_⟩,by decide,nn⟩⟩
  · rcases i with _|_|i
    · cases hf;exact⟨_,3,3,rfl,pI,rfl,by decide⟩
    · cases hf;exact⟨_,2,2,rfl,pH,rfl,by decide⟩
    · simp [Ir] at hf
  · rcases i with _|_|_|i
    · cases hm;exact⟨U1,0,Wq,Ra,c0.length,Q9,rfl,rfl,rfl,rfl,p0,rfl,by decide,s0,rfl,by omega⟩
    · cases hm;exact⟨U0,2,Wp,FH,c1.length,FG,rfl,rfl,rfl,rfl,p1,rfl,by decide,s1,rfl,by omega⟩
    · cases hm;exact⟨UZ,4,Wo,Kl,c2.length,Kk,rfl,rfl,rfl,rfl,p2,rfl,by decide,s2,rfl,by omega⟩
    · simp [Ir] at hm
  · simp only [Ir,List.mem_cons,List.not_mem_nil,or_false] at hm
    rcases hm with rfl|rfl|rfl <;>dsimp only <;>omega
  · rcases i with _|_|i
    · cases hf;exact⟨_,3,3,rfl,pI,rfl,by decide⟩
    · cases hf;exact⟨_,2,2,rfl,pH,rfl,by decide⟩
    · simp [Ir,R7] at hf
  · rcases i with _|_|_|i
    · cases hm;exact⟨U1,0,Wq,Ra,c0.length,Q9,rfl,rfl,rfl,rfl,p0,rfl,by decide,by simp only [K8,Lh];exact s0,by simp [K8],q0,by omega⟩
    · cases hm;exact⟨U0,2,Wp,FH,c1.length,FG,rfl,rfl,rfl,rfl,p1,rfl,by decide,by simp only [K8,Lh];exact s1,by simp [K8],q1,by omega⟩
    · cases hm;exact⟨UZ,4,Wo,Kl,c2.length,Kk,rfl,rfl,rfl,rfl,p2,rfl,by decide,by simp only [K8,Lh];exact s2,by simp [K8],q2,by omega⟩
    · simp [Ir,R7] at hm
def mR(x:Im)(J:CA)(e:Ending)(o:List CA):Prop:=∃K a b d,o= [K,J]/\e= .returned (Gi a 2 2 b 3 d)/\ez K x (Gi a 2 2 b 3 d)
theorem P3{args:List Value}{J:CA}{c0 c1 c2:List Ins}(h0:c0.length≤1000)(h1:c1.length≤1000)(h2:c2.length≤1000)(h:SL.T Tryz.prog 8 args [J] (XX c0 c1 c2 J)):SL.T Tryz.prog 8 args [J] (mR (Ir c0 c1 c2) J):=by
  refine(Gw h).mono ?_;rintro e o ⟨A,N,K,rfl,hK,rfl,hM,Wz,HP0,HC1,HP1,HC2,HP2,bM,cM,bC,bF0,bF1,Ra,Q9,U1,Wq,FH,FG,U0,Wp,Kl,Kk,UZ,Wo,rfl,rfl,osM,os0,Uo,E2,op1,G3,op2⟩;refine⟨K,_,_,_,rfl,rfl,cP (bF0:=bF0) (bF1:=bF1) h0 h1 h2 os0.hle E2.hle G3.hle osM.hle ?_ ?_ ?_ (osM.sl.mono (hK hM Am)) (os0.sl.mono (hK Wz Am)) (E2.sl.mono (hK HC1 Am)) (G3.sl.mono (hK HC2 Am)) (Uo.sl.mono (hK HP0 Am)) (op1.sl.mono (hK HP1 Am)) (op2.sl.mono (hK HP2 Am))⟩
  · have k:=hK (CV bC (.cells ⟨[.slice (some ⟨bF0,0,none⟩) 3 3,.slice (some ⟨bF1,0,none⟩) 2 2]⟩ 76 (0,0))) Am;exact Sl.CV.mono k
  · have k:=hK (CV bF0 (.cells ⟨[i64 0,i64 0,i64 2]⟩ 79 (0,0))) Am;exact Sl.CV.mono k
  · have k:=hK (CV bF1 (.cells ⟨[i64 0,i64 1]⟩ 79 (0,0))) Am;exact Sl.CV.mono k
end Go.Proofs.YtcnmnmjmpocepaaGreatDoor
end
section
namespace Go.Proofs.YtcnmnmjmpocepaaGreatDoor
open Go.SL
open Kd
def QK(bs:List Nat)(Nj:Bool)(m8 at8:Nat)(y:Ins):Im:=
  if Nj then Ir (Kc m8 at8 y 0 (FK (DX bs 0) 0)) (Kc m8 at8 y 1 (FK (DX bs 1) 1)) (Kc m8 at8 y 2 (FK (DX bs 2) 2))
  else Ir (FK (DX bs 0) 0) (FK (DX bs 1) 1) (FK (DX bs 2) 2)
theorem O0(J:CA)(bb:Option Addr)(bn bc:Nat)(bs:List Nat) [Rj:Sl J bb (bs.map Rc)](Lf:bs.length=bn)(iM:bn≤bc)(Ma:bn≤9223372036854775807)(hb:∀x∈bs,x≤255)(Nj:Bool)(m8 at8:Nat)(kO:m8≤255)(kS:at8≤255)(op a z:Int):
    SL.T Tryz.prog 8 [mr bb bn bc Nj (m8:Int) (at8:Int) op a z] [J] (mR (QK bs Nj m8 at8 ⟨Cd.md op 256,a,z⟩) J):=by
  have l0:=(Ih (DX bs 0) 0).1;have l1:=(Ih (DX bs 1) 1).1;have l2:=(Ih (DX bs 2) 2).1;cases Nj with
  |false=>exact P3 Ab Ab Ab (Xx J bb bn bc bs Lf iM Ma hb m8 at8 op a z)
  |true=>exact P3 (by rw [Fv];omega) (by rw [Fv];omega) (by rw [Fv];omega) (ZG J bb bn bc bs Lf iM Ma hb m8 at8 kO kS op a z)
theorem dD(bs:List Nat)(Nj:Bool)(m8 at8:Nat)(y:Ins):∃c0 c1 c2,QK bs Nj m8 at8 y=Ir c0 c1 c2/\(4≤c0.length/\c0.length≤200)/\(4≤c1.length/\c1.length≤200)/\(4≤c2.length/\c2.length≤200):=by
  obtain⟨a0,b0,_⟩:=Ih (DX bs 0) 0;obtain⟨a1,b1,_⟩:=Ih (DX bs 1) 1;obtain⟨a2,b2,_⟩:=Ih (DX bs 2) 2;cases Nj with
  |false=>exact⟨_,_,_,rfl,⟨b0,a0⟩,⟨b1,a1⟩,⟨b2,a2⟩⟩
  |true=>exact⟨_,_,_,rfl,⟨by rw [Fv];exact b0,by rw [Fv];exact a0⟩,⟨by rw [Fv];exact b1,by rw [Fv];exact a1⟩,⟨by rw [Fv];exact b2,by rw [Fv];exact a2⟩⟩
end Go.Proofs.YtcnmnmjmpocepaaGreatDoor
end
