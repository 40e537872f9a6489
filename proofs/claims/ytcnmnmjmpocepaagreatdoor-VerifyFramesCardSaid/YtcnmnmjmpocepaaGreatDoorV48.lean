
import Derived.Test.YtcnmnmjmpocepaaGreatDoorV00
import Derived.Test.YtcnmnmjmpocepaaGreatDoorV09
import Derived.Test.YtcnmnmjmpocepaaGreatDoorV41
import Derived.Test.YtcnmnmjmpocepaaGreatDoorV42
set_option linter.unusedVariables false
set_option linter.unusedSimpArgs false
set_option linter.unusedSectionVars false
set_option maxRecDepth 100000
set_option maxHeartbeats 16000000
namespace Go.Proofs.YtcnmnmjmpocepaaGreatDoor
open Go.SL
open Kd
theorem E8.Dl{im:Im}{mi:Int}{nx:Nat->List Nat}{n:Nat}{σ:Fs}{r:Except Er Fs}(h:E8 im mi nx n σ r):Hw σ->∀ED,r= .ok ED->Hw ED/\ED.length=σ.length:=by
  induction h with
  |bad h=>intro _ ED e;cases e
  |done h=>intro hS ED e;cases e;exact Ly hS h
  | more h _ ih=>
    intro hS ED e;obtain⟨h1,h2⟩:=Ly hS h;obtain⟨h3,h4⟩:=ih h1 ED e;exact⟨h3,h4.trans h2⟩
attribute [local irreducible] SL.T Dw DG DE DI Et D0
theorem same_calls(K:CA)(b1 b2 d1 d2:Option Addr)(n1 n2 c1 c2 e1 e2:Nat)(g:Fm)(h1:g.1.length=n1)(h2:g.2.length=n2)(s1:Sl K b1 (g.1.map i64))(s2:Sl K b2 (g.2.map i64))(s3:Sl K d1 (g.1.map i64))(s4:Sl K d2 (g.2.map i64))(Kp:n1≤4000000)(MS:n2≤4000000):
    Dw Tryz.prog 17 [fr b1 b2 n1 n2 c1 c2,fr d1 d2 n1 n2 e1 e2] [K] (.bool true):=by
  have h:=fun own (i1:Ds own b1 (g.1.map i64)) (i2:Ds own b2 (g.2.map i64)) (i3:Ds own d1 (g.1.map i64)) (i4:Ds own d2 (g.2.map i64))=>Hn own b1 b2 d1 d2 n1 n2 n1 n2 c1 c2 e1 e2 g.1 g.2 g.1 g.2 h1 h2 h1 h2 Kp MS
  have h0:(decide (g.1=g.1/\g.2=g.2))=true:=by simp
  rw [h0] at h
  refine CL Tryz.func17 rfl (Nat.le_of_ble_eq_true rfl) fun F=> ?_
  repeat' (first|apply Cv|refine Ct 0 Cr Au ?_|refine Ct 3 Cr AE ?_|refine Ct 4 Cr (Eh rfl rfl rfl rfl rfl (h _ inferInstance inferInstance inferInstance inferInstance)) ?_|refine Ct 5 Cr Aq ?_|refine C2 (fun β=> ?_)|refine Cu ?_|apply Cw|refine Cy ?_|apply Cz)
  exact CJ [K] (CD (Cx rfl)) ⟨rfl,rfl⟩
theorem frames_law{H:CA} [sg:Cd.eC H](bb:Option Addr)(bn bc:Nat)(bs:List Nat) [Rj:Sl H bb (bs.map Rc)](Lf:bs.length=bn)(iM:bn≤bc)(Ma:bn≤9223372036854775807)(hb:∀x∈bs,x≤255)(Nj:Bool)(m8 at8:Nat)(kO:m8≤255)(kS:at8≤255)(op a z n:Int):
    Dw Tryz.prog 4 [mr bb bn bc Nj (m8:Int) (at8:Int) op a z,i64 n] [H] (.bool true):=by
  have hI:=O0 H bb bn bc bs Lf iM Ma hb Nj m8 at8 kO kS op a z;obtain⟨k0,k1,k2,oq,ni,Sz,MU⟩:=dD bs Nj m8 at8 ⟨Cd.md op 256,a,z⟩;rw [oq] at hI
  have Iu:∀(k:Nat) (m:Me),(Ir k0 k1 k2).ms[k]?=some m->0<m.code.length/\m.code.length≤1000000:=by
    intro k m hm;rcases k with _|_|_|k
    · cases hm;dsimp only;omega
    · cases hm;dsimp only;omega
    · cases hm;dsimp only;omega
    · simp [Ir] at hm
  have Pr:(Ir k0 k1 k2).ms.length=3:=rfl
  generalize Ir k0 k1 k2=im at*
  refine CL Tryz.func4 rfl (Nat.le_of_ble_eq_true rfl) fun F=> ?_
  repeat' (first|apply Cv|refine Ct 0 Cr Au ?_|refine Ct 3 Cr AA ?_|(refine gk 4 rfl ?_;(refine CK rfl rfl rfl rfl rfl rfl rfl rfl (hI) ?_;rintro _ _ ⟨K0,x1,x2,x3,rfl,rfl,hB0⟩;refine⟨_,_,rfl,rfl,?_⟩))|refine C2 (fun β=> ?_)|refine CT (fun β=> ?_)|refine CN ?_|refine Cu ?_|apply Cw|refine Cy ?_|refine CC ?_)
  obtain⟨Gr,rfl⟩:∃x,x=β:=⟨_,rfl⟩;refine C4 (fun s:Int×CA=> [(1,i64 n),(5,.pointer (some ⟨Gr,0,none⟩)),(6,i64 s.1)]) (fun s=> [s.2,H,CV Gr (.cells ⟨[.slice x1 2 2,.slice x2 3 x3]⟩ 32 (0,0))])
    (fun s=> -1≤s.1/\s.1≤5/\ez s.2 im (Gi x1 2 2 x2 3 x3)) (fun s=>(5 - s.1).toNat) (-1,K0) (by repeat first|exact Sub.nil _|refine Sub.cons rfl ?_) ⟨by dsimp only;omega,by dsimp only;omega,hB0⟩ ?_
  rintro⟨m,K⟩ ⟨Wv,RH,hB⟩;dsimp only at Wv RH hB ⊢
  by_cases hm5:m≤4
  · obtain ⟨y1,y2,y3,y4,y5,y6,hv,EP,Gq,Hs⟩:=hB.1;cases hv;by_cases hm4:m=4
    · subst hm4;obtain⟨k,hk⟩:∃k,k=n:=⟨_,rfl⟩;by_cases hr:0≤k/\k<(3:Nat)
      · obtain⟨me,eu⟩:∃q,im.ms[k.toNat]?=some q:=⟨_,List.getElem?_eq_getElem (by rw [Pr];omega)⟩;obtain⟨Sr,aq⟩:=Iu _ me eu;have hP:=NL K im x1 x2 2 2 3 x3 k EP Gq me hr eu Sr aq;have hrr:=Fz im k me Sr;have hnz:=hrr.nz;have hD:=fun(K2:CA) (l:hle K K2)=>JI K2 im x1 x2 2 2 3 x3 k (EP.mono l) (Gq.mono l) me hr eu me.code.length rfl Sr aq hrr
        generalize He im k me=r at hP hD hnz hrr
        rw [hk] at hP hD
        cases r with
        | error e=>
          obtain⟨c,at_⟩:=e;have hc:c≠0:=by rcases hnz c at_ rfl with q|q <;>omega
          repeat' (first|apply Cv|refine Ct 0 Cr AC ?_|refine CO 2 Cr Bo Ab ?_|refine Ct 3 Cr AA ?_|(refine gk 4 rfl ?_;(refine CK rfl rfl rfl rfl rfl rfl rfl rfl (hP) ?_;rintro _ _ ⟨K2,Ec,rfl,lK,rfl⟩;refine⟨_,_,rfl,rfl,?_⟩))|refine Cu ?_|apply Cw|refine Cy ?_|refine CH ?_|refine CC ?_|apply CB)
          repeat' (first|apply Cv|refine Ct 0 Cr Ag ?_|refine Ct 3 Cr AW ?_|(refine gk 4 rfl ?_;(refine CK rfl rfl rfl rfl rfl rfl rfl rfl (hD K2 lK) ?_;rintro _ _ ⟨DA,fb,Ps,rfl,HF,HH,K3,rfl,lK3⟩;refine⟨_,_,rfl,rfl,?_⟩))|refine Ct 5 Cr Ak ?_|refine Cu ?_|apply Cw)
          have hl:=Kj (G:=H) Ec c (n) at_ hc
          repeat' (first|apply Cv|refine Ct 0 Cr AO ?_|refine Ct 1 Cr Ao ?_|refine CO 2 Cr BI Ab ?_|refine CY 2 Cr AQ Ab ?_|refine Ct 3 Cr Af ?_|refine Ct 4 Cr Ae ?_|refine Ct 4 Cr (CE rfl rfl rfl rfl rfl (hl)) ?_|refine Ct 5 Cr Ak ?_|refine Cu ?_|apply Cw|refine Cy ?_|refine CH ?_|refine CF ?_|refine C1 ?_|apply CB)
          exact⟨rfl,(4+1,K3),CX (by repeat first|exact Sub.nil _|refine Sub.cons rfl ?_),⟨by dsimp only;omega,by dsimp only;omega,hB.mono (lK.trans lK3)⟩,by dsimp only;omega⟩
        | ok σ=>
          repeat' (first|apply Cv|refine Ct 0 Cr AC ?_|refine CO 2 Cr Bo Ab ?_|refine Ct 3 Cr AA ?_|(refine gk 4 rfl ?_;(refine CK rfl rfl rfl rfl rfl rfl rfl rfl (hP) ?_;rintro _ _ ⟨fb,YA,HF,HH,K2,cs,rfl,lK,rfl,HU,HT,hF⟩;refine⟨_,_,rfl,rfl,?_⟩))|refine Cu ?_|apply Cw|refine Cy ?_|refine CH ?_|refine CC ?_|apply CB)
          repeat' (first|apply Cv|refine Ct 0 Cr Ag ?_|refine Ct 3 Cr AW ?_|(refine gk 4 rfl ?_;(refine CK rfl rfl rfl rfl rfl rfl rfl rfl (hD K2 lK) ?_;rintro _ _ ⟨DA,fb2,Ps,rfl,HF2,HH2,K3,cs2,rfl,lK3,osF2,osH2,hF2⟩;refine⟨_,_,rfl,rfl,?_⟩))|refine Ct 5 Cr Ak ?_|refine Cu ?_|apply Cw)
          have hl:=Pq
          repeat' (first|apply Cv|refine Ct 0 Cr AO ?_|refine CY 2 Cr Ax Ab ?_|refine Ct 3 Cr Af ?_|refine Ct 4 Cr Ae ?_|refine Ct 4 Cr (CE rfl rfl rfl rfl rfl (hl)) ?_|refine Ct 5 Cr Ak ?_|refine Cu ?_|apply Cw|refine Cy ?_|refine CF ?_|refine CC ?_|apply CB)
          obtain⟨hS,hn⟩:=hrr.Dl (I1 me Sr) σ rfl;have hn:σ.length=me.code.length:=by rw [hn];simp [G2]
          haveI Yb:=HU.sl;haveI WR:=HT.sl;haveI slF2:=osF2.sl;haveI slH2:=osH2.sl;have Jt:=hF.1;have da:=hF2.1;have hhl:(DM σ).length=me.code.length:=by simp [DM,hn]
          have hct:=MI σ;refine C4 (fun i:Nat=> [(1,i64 n),(5,.pointer (some ⟨Gr,0,none⟩)),(6,i64 4),(8,.slice fb me.code.length me.code.length),(9,.slice YA me.code.length me.code.length),(11,.pointer (some ⟨DA,0,none⟩)),(12,i64 (i:Int))])
            (fun _=> [Gs DA fb2 Ps me.code.length 0 0 0,HF2,HH2,K3,HF,HH,H,CV Gr (.cells ⟨[.slice x1 2 2,.slice x2 3 x3]⟩ 32 (0,0))]) (fun i=>i≤me.code.length) (fun i=>me.code.length - i) 0 (by repeat first|exact Sub.nil _|refine Sub.cons rfl ?_) (Nat.zero_le _) ?_
          intro i hi;by_cases iI:i<me.code.length
          · obtain⟨o,hs⟩:∃o,σ[i]?=some o:=⟨_,List.getElem?_eq_getElem Ab⟩;have hkh:((i:Nat):Int).toNat*1<(DM σ).length:=by simp;omega
            have hkf:((i:Nat):Int).toNat*2<cs.length:=by simp;omega
            have hkf2:((i:Nat):Int).toNat*2<cs2.length:=by simp;omega
            cases o with
            | none=>
              have XE:(DM σ)[((i:Nat):Int).toNat*1]?=some (.bool false):=by simpa using F8 hs
              repeat' (first|apply Cv|refine Ct 0 Cr Ap ?_|refine CO 2 Cr Aj Ab ?_|refine Ct 4 Cr Ae ?_|refine Cu ?_|apply Cw|refine Cy ?_|refine CH ?_|refine CC ?_|apply CB)
              refine C0 [.q [0,1,2,3,4,5,6,7,8,9,10,11,12,13,14,15,16,17,18,19,20,21,22,23,24,25,26,27,28],.h false 29,.q [30,31,32]] [Gs DA fb2 Ps me.code.length 0 0 0,HF2,HH2,HF,HH] Ac Ac Ac Ac ?_
              repeat' (first|refine Ct 0 Cr Az ?_|refine CG 0 Cs ?_|refine Ct 1 Cr Ao ?_|refine gk 2 rfl (M0 rfl rfl rfl (by exact G7 Tryz.underlying4 rfl rfl rfl) Av ?_)|refine Ct 3 Cr AG ?_|refine CG 3 Cs ?_|refine Ct 5 Cr Ak ?_|refine CG 5 Cs ?_|refine Cu ?_|refine C5 ?_|refine Dd rfl ?_|refine NC rfl rfl rfl rfl ?_|apply Cw|refine Cy ?_|refine CF ?_|apply CB)
              exact⟨rfl,i+1,CX (by repeat first|exact Sub.nil _|refine Sub.cons rfl ?_),iI,by omega⟩
            | some g=>
              have XE:(DM σ)[((i:Nat):Int).toNat*1]?=some (.bool true):=by simpa using F8 hs
              obtain⟨d1,e1,d2,e2,q1,q2,q3,q4,q5⟩:=hF.2 i g hs;have L9:cs[((i:Nat):Int).toNat*2]?=some (.slice d1 g.1.length e1):=q1;have L8:cs[((i:Nat):Int).toNat*2+1]?=some (.slice d2 g.2.length e2):=q2;obtain⟨d3,e3,d4,e4,r1,r2,r3,r4,r5⟩:=hF2.2 i g hs;have jZ:cs2[((i:Nat):Int).toNat*2]?=some (.slice d3 g.1.length e3):=r1;have p9:cs2[((i:Nat):Int).toNat*2+1]?=some (.slice d4 g.2.length e4):=r2;have hg:=hS g (List.mem_of_getElem? hs);have DO:=same_calls K3 d1 d2 d3 d4 g.1.length g.2.length e1 e2 e3 e4 g rfl rfl (q3.mono lK3) (q4.mono lK3) r3 r4 Ab Ab
              repeat' (first|apply Cv|refine Ct 0 Cr Ap ?_|refine CO 2 Cr Aj Ab ?_|refine Ct 4 Cr Ae ?_|refine Cu ?_|apply Cw|refine Cy ?_|refine CH ?_|refine CC ?_|apply CB)
              refine C0 [.q [0,1,2,3,4,5,6,7,8,9,10,11,12,13,14,15,16,17,18,19,20,21,22,23,24,25,26,27,28],.h false 29,.q [30,31,32]] [Gs DA fb2 Ps me.code.length 0 0 0,HF2,HH2,HF,HH] Ac Ac Ac Ac ?_
              repeat' (first|refine Ct 0 Cr A9 ?_|refine Ct 1 Cr Ao ?_|refine gk 2 rfl (M0 rfl rfl rfl (by exact G7 Tryz.underlying4 rfl rfl rfl) Av ?_)|refine Ct 3 Cr Ce ?_|refine Ct 5 Cr Ak ?_|refine Cu ?_|refine C5 ?_|refine Dd rfl ?_|refine IJ rfl rfl rfl rfl rfl rfl rfl rfl (DO) rfl ?_|apply Cw|refine Cy ?_|refine CF ?_|apply CB)
              exact⟨rfl,i+1,CX (by repeat first|exact Sub.nil _|refine Sub.cons rfl ?_),iI,by omega⟩
          · obtain rfl:i=me.code.length:=by omega
            repeat' (first|apply Cv|refine Ct 0 Cr Ag ?_|refine Ct 1 Cr Ao ?_|refine CY 2 Cr Aj Ab ?_|refine Ct 4 Cr Ae ?_|refine Cu ?_|apply Cw|refine Cy ?_|refine CF ?_|refine C1 ?_)
            exact⟨rfl,(4+1,K3),CX (by repeat first|exact Sub.nil _|refine Sub.cons rfl ?_),⟨by dsimp only;omega,by dsimp only;omega,hB.mono (lK.trans lK3)⟩,by dsimp only;omega⟩
      · have hP:=Td K x1 x2 2 2 3 x3 k hr Ah;have hD:=fun(K2:CA)=>PY K2 x1 x2 2 2 3 x3 k hr Ah
        rw [hk] at hP hD
        repeat' (first|apply Cv|refine Ct 0 Cr AC ?_|refine CO 2 Cr Bo Ab ?_|refine Ct 3 Cr AA ?_|(refine gk 4 rfl ?_;(refine CK rfl rfl rfl rfl rfl rfl rfl rfl (hP) ?_;rintro _ _ ⟨K2,Ec,rfl,lK,rfl⟩;refine⟨_,_,rfl,rfl,?_⟩))|refine Cu ?_|apply Cw|refine Cy ?_|refine CH ?_|refine CC ?_|apply CB)
        repeat' (first|apply Cv|refine Ct 0 Cr Ag ?_|refine Ct 3 Cr AW ?_|(refine gk 4 rfl ?_;(refine CK rfl rfl rfl rfl rfl rfl rfl rfl (hD K2) ?_;rintro _ _ ⟨DA,rfl,rfl⟩;refine⟨_,_,rfl,rfl,?_⟩))|refine Ct 5 Cr Ak ?_|refine Cu ?_|apply Cw)
        have hl:=Kj (G:=H) Ec 8 (n) 0 Ah
        repeat' (first|apply Cv|refine Ct 0 Cr AO ?_|refine Ct 1 Cr Ao ?_|refine CO 2 Cr BI Ab ?_|refine CY 2 Cr AQ Ab ?_|refine Ct 3 Cr Af ?_|refine Ct 4 Cr Ae ?_|refine Ct 4 Cr (CE rfl rfl rfl rfl rfl (hl)) ?_|refine Ct 5 Cr Ak ?_|refine Cu ?_|apply Cw|refine Cy ?_|refine CH ?_|refine CF ?_|refine C1 ?_|apply CB)
        exact⟨rfl,(4+1,K2),CX (by repeat first|exact Sub.nil _|refine Sub.cons rfl ?_),⟨by dsimp only;omega,by dsimp only;omega,hB.mono lK⟩,by dsimp only;omega⟩
    · skip
      obtain⟨k,hk⟩:∃k,k=m:=⟨_,rfl⟩;by_cases hr:0≤k/\k<(3:Nat)
      · obtain⟨me,eu⟩:∃q,im.ms[k.toNat]?=some q:=⟨_,List.getElem?_eq_getElem (by rw [Pr];omega)⟩;obtain⟨Sr,aq⟩:=Iu _ me eu;have hP:=NL K im x1 x2 2 2 3 x3 k EP Gq me hr eu Sr aq;have hrr:=Fz im k me Sr;have hnz:=hrr.nz;have hD:=fun(K2:CA) (l:hle K K2)=>JI K2 im x1 x2 2 2 3 x3 k (EP.mono l) (Gq.mono l) me hr eu me.code.length rfl Sr aq hrr
        generalize He im k me=r at hP hD hnz hrr
        rw [hk] at hP hD
        cases r with
        | error e=>
          obtain⟨c,at_⟩:=e;have hc:c≠0:=by rcases hnz c at_ rfl with q|q <;>omega
          repeat' (first|apply Cv|refine Ct 0 Cr AC ?_|refine CO 2 Cr Bo Ab ?_|refine CY 2 Cr Al Ab ?_|refine Ct 3 Cr AA ?_|(refine gk 4 rfl ?_;(refine CK rfl rfl rfl rfl rfl rfl rfl rfl (hP) ?_;rintro _ _ ⟨K2,Ec,rfl,lK,rfl⟩;refine⟨_,_,rfl,rfl,?_⟩))|refine Cu ?_|apply Cw|refine Cy ?_|refine CH ?_|refine CF ?_|refine CC ?_|apply CB)
          repeat' (first|apply Cv|refine Ct 0 Cr Ag ?_|refine Ct 3 Cr AW ?_|(refine gk 4 rfl ?_;(refine CK rfl rfl rfl rfl rfl rfl rfl rfl (hD K2 lK) ?_;rintro _ _ ⟨DA,fb,Ps,rfl,HF,HH,K3,rfl,lK3⟩;refine⟨_,_,rfl,rfl,?_⟩))|refine Ct 5 Cr Ak ?_|refine Cu ?_|apply Cw)
          have hl:=Kj (G:=H) Ec c (m) at_ hc
          repeat' (first|apply Cv|refine Ct 0 Cr AO ?_|refine Ct 1 Cr Ao ?_|refine CO 2 Cr BI Ab ?_|refine CY 2 Cr AQ Ab ?_|refine Ct 3 Cr Af ?_|refine Ct 4 Cr Ae ?_|refine Ct 4 Cr (CE rfl rfl rfl rfl rfl (hl)) ?_|refine Ct 5 Cr Ak ?_|refine Cu ?_|apply Cw|refine Cy ?_|refine CH ?_|refine CF ?_|refine C1 ?_|apply CB)
          exact⟨rfl,(m+1,K3),CX (by repeat first|exact Sub.nil _|refine Sub.cons rfl ?_),⟨by dsimp only;omega,by dsimp only;omega,hB.mono (lK.trans lK3)⟩,by dsimp only;omega⟩
        | ok σ=>
          repeat' (first|apply Cv|refine Ct 0 Cr AC ?_|refine CO 2 Cr Bo Ab ?_|refine CY 2 Cr Al Ab ?_|refine Ct 3 Cr AA ?_|(refine gk 4 rfl ?_;(refine CK rfl rfl rfl rfl rfl rfl rfl rfl (hP) ?_;rintro _ _ ⟨fb,YA,HF,HH,K2,cs,rfl,lK,rfl,HU,HT,hF⟩;refine⟨_,_,rfl,rfl,?_⟩))|refine Cu ?_|apply Cw|refine Cy ?_|refine CH ?_|refine CF ?_|refine CC ?_|apply CB)
          repeat' (first|apply Cv|refine Ct 0 Cr Ag ?_|refine Ct 3 Cr AW ?_|(refine gk 4 rfl ?_;(refine CK rfl rfl rfl rfl rfl rfl rfl rfl (hD K2 lK) ?_;rintro _ _ ⟨DA,fb2,Ps,rfl,HF2,HH2,K3,cs2,rfl,lK3,osF2,osH2,hF2⟩;refine⟨_,_,rfl,rfl,?_⟩))|refine Ct 5 Cr Ak ?_|refine Cu ?_|apply Cw)
          have hl:=Pq
          repeat' (first|apply Cv|refine Ct 0 Cr AO ?_|refine CY 2 Cr Ax Ab ?_|refine Ct 3 Cr Af ?_|refine Ct 4 Cr Ae ?_|refine Ct 4 Cr (CE rfl rfl rfl rfl rfl (hl)) ?_|refine Ct 5 Cr Ak ?_|refine Cu ?_|apply Cw|refine Cy ?_|refine CF ?_|refine CC ?_|apply CB)
          obtain⟨hS,hn⟩:=hrr.Dl (I1 me Sr) σ rfl;have hn:σ.length=me.code.length:=by rw [hn];simp [G2]
          haveI Yb:=HU.sl;haveI WR:=HT.sl;haveI slF2:=osF2.sl;haveI slH2:=osH2.sl;have Jt:=hF.1;have da:=hF2.1;have hhl:(DM σ).length=me.code.length:=by simp [DM,hn]
          have hct:=MI σ;refine C4 (fun i:Nat=> [(1,i64 n),(5,.pointer (some ⟨Gr,0,none⟩)),(6,i64 m),(8,.slice fb me.code.length me.code.length),(9,.slice YA me.code.length me.code.length),(11,.pointer (some ⟨DA,0,none⟩)),(12,i64 (i:Int))])
            (fun _=> [Gs DA fb2 Ps me.code.length 0 0 0,HF2,HH2,K3,HF,HH,H,CV Gr (.cells ⟨[.slice x1 2 2,.slice x2 3 x3]⟩ 32 (0,0))]) (fun i=>i≤me.code.length) (fun i=>me.code.length - i) 0 (by repeat first|exact Sub.nil _|refine Sub.cons rfl ?_) (Nat.zero_le _) ?_
          intro i hi;by_cases iI:i<me.code.length
          · obtain⟨o,hs⟩:∃o,σ[i]?=some o:=⟨_,List.getElem?_eq_getElem Ab⟩;have hkh:((i:Nat):Int).toNat*1<(DM σ).length:=by simp;omega
            have hkf:((i:Nat):Int).toNat*2<cs.length:=by simp;omega
            have hkf2:((i:Nat):Int).toNat*2<cs2.length:=by simp;omega
            cases o with
            | none=>
              have XE:(DM σ)[((i:Nat):Int).toNat*1]?=some (.bool false):=by simpa using F8 hs
              repeat' (first|apply Cv|refine Ct 0 Cr Ap ?_|refine CO 2 Cr Aj Ab ?_|refine Ct 4 Cr Ae ?_|refine Cu ?_|apply Cw|refine Cy ?_|refine CH ?_|refine CC ?_|apply CB)
              refine C0 [.q [0,1,2,3,4,5,6,7,8,9,10,11,12,13,14,15,16,17,18,19,20,21,22,23,24,25,26,27,28],.h false 29,.q [30,31,32]] [Gs DA fb2 Ps me.code.length 0 0 0,HF2,HH2,HF,HH] Ac Ac Ac Ac ?_
              repeat' (first|refine Ct 0 Cr Az ?_|refine CG 0 Cs ?_|refine Ct 1 Cr Ao ?_|refine gk 2 rfl (M0 rfl rfl rfl (by exact G7 Tryz.underlying4 rfl rfl rfl) Av ?_)|refine Ct 3 Cr AG ?_|refine CG 3 Cs ?_|refine Ct 5 Cr Ak ?_|refine CG 5 Cs ?_|refine Cu ?_|refine C5 ?_|refine Dd rfl ?_|refine NC rfl rfl rfl rfl ?_|apply Cw|refine Cy ?_|refine CF ?_|apply CB)
              exact⟨rfl,i+1,CX (by repeat first|exact Sub.nil _|refine Sub.cons rfl ?_),iI,by omega⟩
            | some g=>
              have XE:(DM σ)[((i:Nat):Int).toNat*1]?=some (.bool true):=by simpa using F8 hs
              obtain⟨d1,e1,d2,e2,q1,q2,q3,q4,q5⟩:=hF.2 i g hs;have L9:cs[((i:Nat):Int).toNat*2]?=some (.slice d1 g.1.length e1):=q1;have L8:cs[((i:Nat):Int).toNat*2+1]?=some (.slice d2 g.2.length e2):=q2;obtain⟨d3,e3,d4,e4,r1,r2,r3,r4,r5⟩:=hF2.2 i g hs;have jZ:cs2[((i:Nat):Int).toNat*2]?=some (.slice d3 g.1.length e3):=r1;have p9:cs2[((i:Nat):Int).toNat*2+1]?=some (.slice d4 g.2.length e4):=r2;have hg:=hS g (List.mem_of_getElem? hs);have DO:=same_calls K3 d1 d2 d3 d4 g.1.length g.2.length e1 e2 e3 e4 g rfl rfl (q3.mono lK3) (q4.mono lK3) r3 r4 Ab Ab
              repeat' (first|apply Cv|refine Ct 0 Cr Ap ?_|refine CO 2 Cr Aj Ab ?_|refine Ct 4 Cr Ae ?_|refine Cu ?_|apply Cw|refine Cy ?_|refine CH ?_|refine CC ?_|apply CB)
              refine C0 [.q [0,1,2,3,4,5,6,7,8,9,10,11,12,13,14,15,16,17,18,19,20,21,22,23,24,25,26,27,28],.h false 29,.q [30,31,32]] [Gs DA fb2 Ps me.code.length 0 0 0,HF2,HH2,HF,HH] Ac Ac Ac Ac ?_
              repeat' (first|refine Ct 0 Cr A9 ?_|refine Ct 1 Cr Ao ?_|refine gk 2 rfl (M0 rfl rfl rfl (by exact G7 Tryz.underlying4 rfl rfl rfl) Av ?_)|refine Ct 3 Cr Ce ?_|refine Ct 5 Cr Ak ?_|refine Cu ?_|refine C5 ?_|refine Dd rfl ?_|refine IJ rfl rfl rfl rfl rfl rfl rfl rfl (DO) rfl ?_|apply Cw|refine Cy ?_|refine CF ?_|apply CB)
              exact⟨rfl,i+1,CX (by repeat first|exact Sub.nil _|refine Sub.cons rfl ?_),iI,by omega⟩
          · obtain rfl:i=me.code.length:=by omega
            repeat' (first|apply Cv|refine Ct 0 Cr Ag ?_|refine Ct 1 Cr Ao ?_|refine CY 2 Cr Aj Ab ?_|refine Ct 4 Cr Ae ?_|refine Cu ?_|apply Cw|refine Cy ?_|refine CF ?_|refine C1 ?_)
            exact⟨rfl,(m+1,K3),CX (by repeat first|exact Sub.nil _|refine Sub.cons rfl ?_),⟨by dsimp only;omega,by dsimp only;omega,hB.mono (lK.trans lK3)⟩,by dsimp only;omega⟩
      · have hP:=Td K x1 x2 2 2 3 x3 k hr Ah;have hD:=fun(K2:CA)=>PY K2 x1 x2 2 2 3 x3 k hr Ah
        rw [hk] at hP hD
        repeat' (first|apply Cv|refine Ct 0 Cr AC ?_|refine CO 2 Cr Bo Ab ?_|refine CY 2 Cr Al Ab ?_|refine Ct 3 Cr AA ?_|(refine gk 4 rfl ?_;(refine CK rfl rfl rfl rfl rfl rfl rfl rfl (hP) ?_;rintro _ _ ⟨K2,Ec,rfl,lK,rfl⟩;refine⟨_,_,rfl,rfl,?_⟩))|refine Cu ?_|apply Cw|refine Cy ?_|refine CH ?_|refine CF ?_|refine CC ?_|apply CB)
        repeat' (first|apply Cv|refine Ct 0 Cr Ag ?_|refine Ct 3 Cr AW ?_|(refine gk 4 rfl ?_;(refine CK rfl rfl rfl rfl rfl rfl rfl rfl (hD K2) ?_;rintro _ _ ⟨DA,rfl,rfl⟩;refine⟨_,_,rfl,rfl,?_⟩))|refine Ct 5 Cr Ak ?_|refine Cu ?_|apply Cw)
        have hl:=Kj (G:=H) Ec 8 (m) 0 Ah
        repeat' (first|apply Cv|refine Ct 0 Cr AO ?_|refine Ct 1 Cr Ao ?_|refine CO 2 Cr BI Ab ?_|refine CY 2 Cr AQ Ab ?_|refine Ct 3 Cr Af ?_|refine Ct 4 Cr Ae ?_|refine Ct 4 Cr (CE rfl rfl rfl rfl rfl (hl)) ?_|refine Ct 5 Cr Ak ?_|refine Cu ?_|apply Cw|refine Cy ?_|refine CH ?_|refine CF ?_|refine C1 ?_|apply CB)
        exact⟨rfl,(m+1,K2),CX (by repeat first|exact Sub.nil _|refine Sub.cons rfl ?_),⟨by dsimp only;omega,by dsimp only;omega,hB.mono lK⟩,by dsimp only;omega⟩
  · have hw:=OA (G:=H)
    repeat' (first|apply Cv|refine Ct 0 Cr Ag ?_|refine CY 2 Cr Bh Ab ?_|refine Ct 4 Cr (CE rfl rfl rfl rfl rfl (hw)) ?_|refine Cu ?_|apply Cw|refine Cy ?_|refine CF ?_|apply Cz|refine C1 ?_)
    exact CJ [H] (CD (Cx rfl)) ⟨rfl,rfl⟩
end Go.Proofs.YtcnmnmjmpocepaaGreatDoor
