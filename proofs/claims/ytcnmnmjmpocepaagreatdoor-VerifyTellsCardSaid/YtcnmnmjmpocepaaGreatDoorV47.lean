
import Derived.Test.YtcnmnmjmpocepaaGreatDoorV00
import Derived.Test.YtcnmnmjmpocepaaGreatDoorV09
import Derived.Test.YtcnmnmjmpocepaaGreatDoorV41
import Derived.Test.YtcnmnmjmpocepaaGreatDoorV46
import Derived.Test.YtcnmnmjmpocepaaGreatDoorV45
set_option linter.unusedVariables false
set_option linter.unusedSimpArgs false
set_option linter.unusedSectionVars false
set_option maxRecDepth 100000
set_option maxHeartbeats 16000000
namespace Go.Proofs.YtcnmnmjmpocepaaGreatDoor
open Go.SL
open Kd
theorem eN(c:Int):∃b:UInt8,IntKind.u8.wrap c=(b.toNat:Int):=by
  have:0≤IntKind.u8.wrap c/\IntKind.u8.wrap c<256:=by
    simp only [IntKind.wrap,IntKind.bits,IntKind.signed,Bool.false_and,Bool.false_eq_true,if_false];omega
  refine⟨UInt8.ofNat (IntKind.u8.wrap c).toNat,?_⟩;rw [UInt8.toNat_ofNat'];omega
theorem X7(l:List UInt8)(k:Nat)(b:UInt8):(IB l).set k (.int .u8 (b.toNat:Int))=IB (l.set k b):=by
  simp [IB,List.map_set]
theorem cQ{x:Cd.Im}(h:Cd.JK x=true):3≤(Cd.Sp x).length/\(Cd.Sp x).length≤1000000:=by
  have hs:=Cd.MZ h;have h1:=hs.gJ x.cls.length;have h2:=hs.na x.ms.length;rw [List.take_length] at h1 h2
  have h3:=hs.cls;have h4:=hs.ms;unfold Cd.Sp;simp only [List.length_append,List.length_cons,List.length_nil,Cd.Em];omega
attribute [local irreducible] SL.T Dw DG DE DI Et D0
theorem Y0{H:CA} [sg:Cd.eC H](bb:Option Addr)(bn bc:Nat)(bs:List Nat) [Rj:Sl H bb (bs.map Rc)](Lf:bs.length=bn)(iM:bn≤bc)(Ma:bn≤9223372036854775807)(hb:∀x∈bs,x≤255)(Nj:Bool)(m8 at8:Nat)(kO:m8≤255)(kS:at8≤255)(op a z:Int)(ha:I6 a)(hz:I6 z)
    (k0 k1:Int) (ni:0≤k0/\k0≤65535) (Sz:0≤k1/\k1≤65535) (s:List UInt8) (hs:s.length≤9223372036854775807):
    Dw Tryz.prog 3 [mr bb bn bc Nj (m8:Int) (at8:Int) op a z,.agg ⟨[.int .u16 k0,.int .u16 k1]⟩,str s] [H] (.bool true):=by
  have hI:=O0 H bb bn bc bs Lf iM Ma hb Nj m8 at8 kO kS op a z;have kN:=Cd.ir op (d:=256) Ah;have Ht:=dC bs Nj m8 at8 ⟨Cd.md op 256,a,z⟩ ⟨kN.1,by have:=kN.2;show Cd.md op 256≤255;omega⟩ ha hz
  generalize QK bs Nj m8 at8 ⟨Cd.md op 256,a,z⟩=im at*
  have hmay:=(Cd.OO Ht.all).2 Ht;have hlen:=cQ hmay;have hnz:=Ov im;refine CL Tryz.func3 rfl (Nat.le_of_ble_eq_true rfl) fun F=> ?_
  repeat' (first|apply Cv|refine Ct 0 Cr Au ?_|refine Ct 3 Cr AA ?_|(refine gk 4 rfl ?_;(refine CK rfl rfl rfl rfl rfl rfl rfl rfl (hI) ?_;rintro _ _ ⟨K0,x1,x2,x3,rfl,rfl,hB⟩;refine⟨_,_,rfl,rfl,?_⟩))|refine C2 (fun β=> ?_)|refine CT (fun β=> ?_)|refine CN ?_|refine Cu ?_|apply Cw)
  have hE:=Cd.Rq K0 _ _ hB.2;rw [if_pos hmay] at hE
  generalize Cd.Sp (R7 im)=t at hE hlen
  obtain⟨Rg,rfl⟩:∃x,x=β:=⟨_,rfl⟩
  repeat' (first|apply Cv|refine Ct 0 Cr AC ?_|refine Ct 4 Cr (CE rfl rfl rfl rfl rfl (hE)) ?_|apply Cw)
  obtain⟨y1,y2,y3,y4,y5,y6,hv,EP,Gq,Hs⟩:=hB.1;cases hv;have hC:=GM K0 im x1 x2 2 2 3 x3 EP Gq Hs;have hD:=fun(K2:CA) (l:hle K0 K2)=>Nb K2 im x1 x2 2 2 3 x3 (EP.mono l) (Gq.mono l) Hs
  have hW:=OA (G:=H)
  generalize Ex im=r at hC hD hnz
  obtain⟨b1,YA⟩:=eN k1;have hw0:IntKind.i64.wrap k0=k0:=Dz Ab Ab;obtain⟨r',hr,ZJ⟩:∃r':Nat,k0.tmod (t.length:Int)=(r':Int)/\r'<t.length:=by
    rw [Int.tmod_eq_emod_of_nonneg ni.1];have h1:=Int.emod_nonneg k0 (show(t.length:Int)≠0 by omega);have h2:=Int.emod_lt_of_pos k0 (show 0<(t.length:Int) by omega);exact⟨(k0%(t.length:Int)).toNat,by omega,by omega⟩
  obtain⟨n3,pX,rG⟩:∃n3:Nat,min (s.length:Int) 200=(n3:Int)/\n3=min s.length 200:=⟨min s.length 200,by omega,rfl⟩;refine C0 [.q [0,1,2],.h false 3,.q [4,5,6,7],.r [9],.h true 8,.h true 10,.h false 11,.q [12,13]] [CV Rg (.cells ⟨[.slice x1 2 2,.slice x2 3 x3]⟩ 32 (0,0))] Ac Ac Ac Ac ?_;cases r with
  | none=>
    have hl:=Pq
    repeat' (first|apply Cv|refine Ct 0 Cr Cf ?_|refine CY 2 Cr Ax Ab ?_|refine Ct 3 Cr AA ?_|refine Cu ?_|refine C5 ?_|refine Dd rfl ?_|refine HW rfl ?_|refine IJ rfl rfl rfl rfl rfl rfl rfl rfl (hW) rfl ?_|(refine EL rfl rfl rfl rfl rfl rfl rfl rfl (hC) ?_;rintro _ _ ⟨K1,rfl,lK,rfl⟩;refine⟨_,_,rfl,rfl,?_⟩)|(refine EL rfl rfl rfl rfl rfl rfl rfl rfl (hD K1 lK) ?_;rintro _ _ ⟨K2,rfl,lK2,rfl⟩;refine⟨_,_,rfl,rfl,?_⟩)|refine IJ rfl rfl rfl rfl rfl rfl rfl rfl (hl) rfl ?_|apply Cw|refine Cy ?_|refine CF ?_|apply CB)
    obtain⟨EO,rfl⟩:∃x,x=β:=⟨_,rfl⟩
    repeat' (first|refine PN rfl rfl rfl rfl rfl (fun bB cap mz Wv RH=> ?_)|apply Cv|refine Ct 0 Cr Au ?_|apply Cw)
    have hfl:(IB t++List.replicate mz (Value.int .u8 0)).length=cap:=by simp [IB];omega
    refine C0 [.q [0,1,2,3,4,5,6,7,8,9,10],.h true 11] [CV EO (.cells ⟨[.int .u16 k0,.int .u16 k1]⟩ 28 (0,0))] Ac Ac Ac Ac ?_
    repeat' (first|refine CW rfl rfl rfl ((C8 rfl rfl).to (congrArg (Value.int .i64) hw0)) ?_|refine CW rfl rfl rfl ((C8 rfl rfl).to (congrArg (Value.int .u8) YA)) ?_|refine CW rfl rfl rfl ((Jo rfl rfl rfl Ab).to (congrArg (Value.int .i64) hr)) ?_|apply Cv|refine Ct 0 Cr Ap ?_|refine Ct 3 Cr Cg ?_|refine Ct 4 Cr Ae ?_|refine Cu ?_|refine C5 ?_|refine Dd rfl ?_|refine QP rfl (by decide +kernel) rfl rfl rfl rfl rfl rfl rfl rfl Ab (by dsimp only;omega) Aa ?_|apply Cw)
    have ak:Sl (CV bB (.cells ⟨(IB t++List.replicate mz (Value.int .u8 0)).set ((r':Int).toNat*1) (.int .u8 (b1.toNat:Int))⟩ 5 (cap,cap+1))) (some ⟨bB,0,none⟩) (IB (t.set r' b1)):=by
      have h:=(Sl.CV (b:=bB) (cs:=(IB t++List.replicate mz (Value.int .u8 0)).set ((r':Int).toNat*1) (.int .u8 (b1.toNat:Int))) (T:=5) (fz:=(cap,cap+1))).take t.length;have e:((IB t++List.replicate mz (Value.int .u8 0)).set ((r':Int).toNat*1) (.int .u8 (b1.toNat:Int))).take t.length=IB (t.set r' b1):=by
        have hl:(IB t).length=t.length:=by simp [IB]
        rw [show((r':Int).toNat*1)=r' by simp,List.set_append_left _ _ Ab,<-X7,List.take_append_of_le_length (by simp [IB]),List.take_of_length_le (by simp [IB])]
      rw [e] at h
      exact h
    have LK:(t.set r' b1).length=t.length:=List.length_set
    repeat' (first|refine CW rfl rfl rfl (LC (e:=5) (l:=t.set r' b1) rfl rfl ⟨_,by simp,ak⟩ LK) ?_|refine CW rfl rfl rfl (Ek rfl rfl rfl rfl rfl) ?_|refine CW rfl rfl rfl ((Jp rfl rfl rfl rfl rfl).to (congrArg (Value.int .i64) pX)) ?_|refine CW rfl rfl rfl (EI rfl rfl rfl Ab Ab) ?_|refine Ct 0 Cr Aw ?_|refine Ct 4 Cr (CE rfl rfl rfl rfl rfl (KR (G:=H) _ Ch)) ?_|apply Cw|refine Cy ?_|apply Cz)
    exact CJ [H] (CD (Cx rfl)) ⟨rfl,rfl⟩
  | some r=>
    obtain⟨c,mm,at_⟩:=r;have hc:=hnz c mm at_ rfl;have hl:=fun Ec=>Kj (G:=H) Ec c mm at_ hc
    repeat' (first|apply Cv|refine Ct 0 Cr Cf ?_|refine CY 2 Cr Ax Ab ?_|refine Ct 3 Cr AA ?_|refine Cu ?_|refine C5 ?_|refine Dd rfl ?_|refine HW rfl ?_|refine IJ rfl rfl rfl rfl rfl rfl rfl rfl (hW) rfl ?_|(refine EL rfl rfl rfl rfl rfl rfl rfl rfl (hC) ?_;rintro _ _ ⟨K1,Ec,rfl,lK,rfl⟩;refine⟨_,_,rfl,rfl,?_⟩)|(refine EL rfl rfl rfl rfl rfl rfl rfl rfl (hD K1 lK) ?_;rintro _ _ ⟨K2,rfl,lK2,rfl⟩;refine⟨_,_,rfl,rfl,?_⟩)|refine IJ rfl rfl rfl rfl rfl rfl rfl rfl (hl Ec) rfl ?_|apply Cw|refine Cy ?_|refine CF ?_|apply CB)
    obtain⟨EO,rfl⟩:∃x,x=β:=⟨_,rfl⟩
    repeat' (first|refine PN rfl rfl rfl rfl rfl (fun bB cap mz Wv RH=> ?_)|apply Cv|refine Ct 0 Cr Au ?_|apply Cw)
    have hfl:(IB t++List.replicate mz (Value.int .u8 0)).length=cap:=by simp [IB];omega
    refine C0 [.q [0,1,2,3,4,5,6,7,8,9,10],.h true 11] [CV EO (.cells ⟨[.int .u16 k0,.int .u16 k1]⟩ 28 (0,0))] Ac Ac Ac Ac ?_
    repeat' (first|refine CW rfl rfl rfl ((C8 rfl rfl).to (congrArg (Value.int .i64) hw0)) ?_|refine CW rfl rfl rfl ((C8 rfl rfl).to (congrArg (Value.int .u8) YA)) ?_|refine CW rfl rfl rfl ((Jo rfl rfl rfl Ab).to (congrArg (Value.int .i64) hr)) ?_|apply Cv|refine Ct 0 Cr Ap ?_|refine Ct 3 Cr Cg ?_|refine Ct 4 Cr Ae ?_|refine Cu ?_|refine C5 ?_|refine Dd rfl ?_|refine QP rfl (by decide +kernel) rfl rfl rfl rfl rfl rfl rfl rfl Ab (by dsimp only;omega) Aa ?_|apply Cw)
    have ak:Sl (CV bB (.cells ⟨(IB t++List.replicate mz (Value.int .u8 0)).set ((r':Int).toNat*1) (.int .u8 (b1.toNat:Int))⟩ 5 (cap,cap+1))) (some ⟨bB,0,none⟩) (IB (t.set r' b1)):=by
      have h:=(Sl.CV (b:=bB) (cs:=(IB t++List.replicate mz (Value.int .u8 0)).set ((r':Int).toNat*1) (.int .u8 (b1.toNat:Int))) (T:=5) (fz:=(cap,cap+1))).take t.length;have e:((IB t++List.replicate mz (Value.int .u8 0)).set ((r':Int).toNat*1) (.int .u8 (b1.toNat:Int))).take t.length=IB (t.set r' b1):=by
        have hl:(IB t).length=t.length:=by simp [IB]
        rw [show((r':Int).toNat*1)=r' by simp,List.set_append_left _ _ Ab,<-X7,List.take_append_of_le_length (by simp [IB]),List.take_of_length_le (by simp [IB])]
      rw [e] at h
      exact h
    have LK:(t.set r' b1).length=t.length:=List.length_set
    repeat' (first|refine CW rfl rfl rfl (LC (e:=5) (l:=t.set r' b1) rfl rfl ⟨_,by simp,ak⟩ LK) ?_|refine CW rfl rfl rfl (Ek rfl rfl rfl rfl rfl) ?_|refine CW rfl rfl rfl ((Jp rfl rfl rfl rfl rfl).to (congrArg (Value.int .i64) pX)) ?_|refine CW rfl rfl rfl (EI rfl rfl rfl Ab Ab) ?_|refine Ct 0 Cr Aw ?_|refine Ct 4 Cr (CE rfl rfl rfl rfl rfl (KR (G:=H) _ Ch)) ?_|apply Cw|refine Cy ?_|apply Cz)
    exact CJ [H] (CD (Cx rfl)) ⟨rfl,rfl⟩
end Go.Proofs.YtcnmnmjmpocepaaGreatDoor
