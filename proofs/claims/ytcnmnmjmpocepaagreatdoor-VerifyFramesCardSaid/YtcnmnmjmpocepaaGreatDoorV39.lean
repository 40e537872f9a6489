
import Derived.Test.YtcnmnmjmpocepaaGreatDoorV00
import Derived.Test.YtcnmnmjmpocepaaGreatDoorV09
import Derived.Test.YtcnmnmjmpocepaaGreatDoorV38
import Derived.Test.YtcnmnmjmpocepaaGreatDoorV37
import Derived.Test.YtcnmnmjmpocepaaGreatDoorV13
set_option linter.unusedVariables false
set_option linter.unusedSimpArgs false
set_option linter.unusedSectionVars false
set_option maxRecDepth 100000
set_option maxHeartbeats 16000000
section
namespace Go.Proofs.YtcnmnmjmpocepaaGreatDoor.Cd
open Go.SL
attribute [local irreducible] SL.T Dw DG DE DI Et D0
structure sq where
  j:Nat
  x:Rs
  h:CA
  b:Option Addr
  c:Nat
  K:CA
  ms:List Me
  C9:List Value
structure ss where
  j:Nat
  x:Rs
  h:CA
  b:Option Addr
  c:Nat
  cd:List Ins
def RD(s:List UInt8)(e:Ending)(o:List CA):Prop:=
  ((Jk s).1=Ke/\0≤(Jk s).2/\e= .returned (.tuple ⟨[.agg ⟨WC⟩,i64 (Jk s).2]⟩)/\o= [])∨
  ((Jk s).2= -1/\∃K hC K2 hM Du cc mb mc cv mv,e= .returned (.tuple ⟨[.agg ⟨[.slice Du (Jk s).1.cls.length cc,.slice mb (Jk s).1.ms.length mc]⟩,i64 (-1)]⟩)/\
    OS hC Du (Jk s).1.cls.length cc 76 1 cv/\KI K (Jk s).1.cls cv/\OS hM mb (Jk s).1.ms.length mc 66 4 mv/\Uj K2 (Jk s).1.ms mv/\(Jk s).1.cls.length≤1000/\(Jk s).1.ms.length≤1000/\o= [K,hC,K2,hM])
theorem bx{s:List UInt8}{q:Nat}{e:Ending}{o:List CA}(h:Jk s=(Ke,(q:Int)))(h1:e= .returned (.tuple ⟨[.agg ⟨WC⟩,i64 (q:Int)]⟩))(h2:o= []):RD s e o:=by
  refine .inl ?_;rw [h];exact⟨rfl,Int.natCast_nonneg _,h1,h2⟩
theorem jg{s:List UInt8}{n k:Nat}{cls:List (List Int)}{ms:List Me}{e:Ending}{K hC K2 hM:CA}{Du mb:Option Addr}{cc mc:Nat}{cv mv:List Value}(h:Jk s=(⟨cls,ms⟩, -1))(hn:cls.length=n)(hk:ms.length=k)
    (h1:e= .returned (.tuple ⟨[.agg ⟨[.slice Du n cc,.slice mb k mc]⟩,i64 (-1)]⟩)) (os:OS hC Du n cc 76 1 cv) (hP:KI K cls cv) (G3:OS hM mb k mc 66 4 mv) (kT:Uj K2 ms mv) (Wu:n≤1000) (MU:k≤1000):RD s e [K,hC,K2,hM]:=by
  subst hn hk;refine .inr ?_;rw [h];exact⟨rfl,K,hC,K2,hM,Du,cc,mb,mc,cv,mv,h1,os,hP,G3,kT,Wu,MU,rfl⟩
theorem UU (s : List UInt8)(hs:s.length≤9223372036854775807)(hp:s.take 3= [68,75,1]):
    SL.T Tryz.prog 71 [str s] [] (RD s):=by
  have hl3:3≤s.length:=by
    have:=congrArg List.length hp;simp at this;omega
  obtain⟨n,x1,e1,ep,hn,jE⟩:=I8 (s:=s) (many:=1) (least:=0) (most:=16) (r:= .DZ 3) Ah Ah hl3;have k1:∀β,SL.T Tryz.prog 125 [ptr β,i64 1,i64 0,i64 16] [CV β (.cells ⟨[str s,i64 3,i64 (-1)]⟩ 215 (0,0))] fun e o=>e= .returned (i64 (EC s 1 0 16 (.DZ 3)).1)/\o= [Zj β s (EC s 1 0 16 (.DZ 3)).2]:=fun β=>EJ β s (.DZ 3) 1 0 16 hs hl3 Ah
  rw [show((0:Nat):Int)=0 from rfl,show((16:Nat):Int)=16 from rfl] at e1
  rw [e1] at k1
  dsimp only at k1
  refine CM Tryz.func71 rfl (Nat.le_of_ble_eq_true rfl) fun F=> ?_
  refine DH ?_;refine DH ?_
  repeat' (first|refine CW rfl rfl rfl (Ek rfl rfl rfl rfl rfl) ?_|refine CW rfl rfl rfl (EI rfl rfl rfl Ab Ab) ?_|refine M0 rfl rfl rfl (P6 rfl rfl rfl) (by simpa using hp) ?_|apply Cv|refine Ct 0 Cr Az ?_|refine CY 2 Cr Aj Ab ?_|(refine gk 4 rfl ?_;(refine CK rfl rfl rfl rfl rfl rfl rfl rfl (k1 _) ?_;rintro _ _ ⟨rfl,rfl⟩;refine⟨_,_,rfl,rfl,?_⟩))|refine Ct 5 Cr Aq ?_|refine C2 (fun β=> ?_)|refine CT (fun β=> ?_)|refine Cu ?_|apply Cw|refine Cy ?_|refine CF ?_|refine CC ?_|apply CB)
  rename_i Ei E3
  rename Nat=>KJ
  refine Lu (fun t:su=> [(0,str s),(2,ptr Ei),(4,ptr E3),(5,ptr KJ),(6,i64 (n:Int)),(7,i64 (t.j:Int))])
    (fun t=> [t.K,t.h,Zj E3 s t.x,CV KJ (.cells ⟨[.slice t.b t.j t.c,.slice none 0 0]⟩ 32 (0,0)),CV Ei (.cells ⟨WC⟩ 32 (0,0))])
    (fun t=>t.j≤n/\t.x.at≤s.length/\Ha (KB s n) t.j x1=(t.cls,t.x)/\OS t.h t.b t.j t.c 76 1 t.C9/\KI t.K t.cls t.C9)
    (fun t=>n - t.j) ⟨0,x1,emp,none,0,emp,[],[]⟩ (by repeat first|exact Sub.nil _|refine Sub.cons rfl ?_) ⟨Nat.zero_le _,jE,rfl,OS.nil,KI.nil⟩ ?_
  rintro⟨j,x,h,b,c,K,cls,C9⟩ ⟨hj,hx,hr,os,hP⟩;dsimp only at hj hx hr os hP ⊢
  by_cases FF:j<n
  · obtain⟨nf,y1,f1,ZP,hf,lO⟩:=I8 (s:=s) (many:=1) (least:=0) (most:=8) (r:=x) Ah Ah hx;obtain⟨l,y2,f2,hl,ar⟩:=Qn (n:=nf) (cl:=n) lO;subst hl;have k2:=EJ E3 s x 1 0 8 hs hx Ah;have k3:=L2 l.length E3 s y1 n hs lO Ab;rw [show((0:Nat):Int)=0 from rfl,show((8:Nat):Int)=8 from rfl] at f1
    rw [f1] at k2
    rw [f2] at k3
    dsimp only at k2 k3
    repeat' (first|apply Cv|refine Ct 0 Cr Ap ?_|refine CO 2 Cr Aj Ab ?_|refine Cu ?_|apply Cw|refine Cy ?_|refine CH ?_|refine CC ?_|apply CB)
    refine C0 [.f [0],.r [1],.f [2],.q [3],.f [5],.h true 4,.h true 6,.q [7],.an 8,.rv 8,.h true 9,.q [10],.h true 11] [CV KJ (.cells ⟨[.slice b j c,.slice none 0 0]⟩ 32 (0,0))] Ac Ac Ac Ac ?_
    repeat' (first|refine Ct 0 Cr Ag ?_|refine Ct 1 Cr Ao ?_|refine Ct 3 Cr Af ?_|refine Ct 5 Cr Aq ?_|refine Cu ?_|refine C5 ?_|refine Dd rfl ?_|refine Fq rfl ?_|refine HW rfl ?_|refine Dn rfl rfl AU ?_|refine DN rfl rfl rfl (fun β=> ?_)|refine Gc rfl (by decide +kernel) rfl rfl rfl rfl rfl Aa rfl Aa Aa ?_|(refine EL rfl rfl rfl rfl rfl rfl rfl rfl (k2) ?_;rintro _ _ ⟨rfl,rfl⟩;refine⟨_,_,rfl,rfl,?_⟩)|(refine EL rfl rfl rfl rfl rfl rfl rfl rfl (k3) ?_;rintro _ _ ⟨hz,bz,cz,rfl,osz,rfl⟩;refine⟨_,_,rfl,rfl,?_⟩)|refine FP rfl rfl rfl rfl rfl rfl rfl rfl rfl os Ah rfl Ah rfl Ab Ab (fun h' b' c' HS=> ?_)|apply Cw|refine Cy ?_)
    intro hd;have dj:Eo hz K:=YL hd;refine⟨rfl,⟨j+1,y2,h',b',c',join hz K,cls++ [l],C9++ [.slice bz l.length cz]⟩,R9 (h:=hz) (k:=K) (by repeat first|exact Sub.nil _|refine Sub.cons rfl ?_),⟨by dsimp only;omega,ar,?_,HS,?_⟩,by dsimp only;omega⟩
    · simp only [Ha,hr,Z2 f1,f2]
    · exact(hP.mono (Fl dj)).snoc (osz.sl.mono FW) rfl Ab
  · obtain rfl:j=n:=by omega
    have Jt:cls.length=j:=by
      have:=Oe (f:=KB s j) (r:=x1) j;rw [hr] at this;exact this
    obtain⟨k,x3,e3,Sz,hk,kK⟩:=I8 (s:=s) (many:=1) (least:=1) (most:=32) (r:=x) Ah Ah hx;have k4:=EJ E3 s x 1 1 32 hs hx Ah;rw [show((1:Nat):Int)=1 from rfl,show((32:Nat):Int)=32 from rfl] at e3
    rw [e3] at k4
    dsimp only at k4
    refine DH ?_;refine DH ?_
    repeat' (first|apply Cv|refine Ct 0 Cr Ag ?_|refine CY 2 Cr Aj Ab ?_|(refine gk 4 rfl ?_;(refine CK rfl rfl rfl rfl rfl rfl rfl rfl (k4) ?_;rintro _ _ ⟨rfl,rfl⟩;refine⟨_,_,rfl,rfl,?_⟩))|refine Cu ?_|apply Cw|refine Cy ?_|refine CF ?_|refine CC ?_|refine C1 ?_)
    refine Lu (fun t:sq=> [(0,str s),(2,ptr Ei),(4,ptr E3),(5,ptr KJ),(6,i64 (j:Int)),(8,i64 (k:Int)),(9,i64 (t.j:Int))])
      (fun t=> [t.K,t.h,Zj E3 s t.x,CV KJ (.cells ⟨[.slice b j c,.slice t.b t.j t.c]⟩ 32 (0,0)),K,h,CV Ei (.cells ⟨WC⟩ 32 (0,0))])
      (fun t=>t.j≤k/\t.x.at≤s.length/\EE (L4 s j) t.j x3=(t.ms,t.x)/\t.ms.length=t.j/\OS t.h t.b t.j t.c 66 4 t.C9/\Uj t.K t.ms t.C9)
      (fun t=>k - t.j) ⟨0,x3,emp,none,0,emp,[],[]⟩ (by repeat first|exact Sub.nil _|refine Sub.cons rfl ?_) ⟨Nat.zero_le _,kK,rfl,rfl,OS.nil,Uj.nil⟩ ?_
    rintro⟨i,y,h2,b2,c2,K2,ms,vm⟩ ⟨hi,hy,hw,Pr,G3,kT⟩;dsimp only at hi hy hw Pr G3 kT ⊢
    by_cases LW:i<k
    · cases Ht:y.ok with
      | false=>
        have hbd:=Rs.iS Ht;have Kq:=Ye hp e1 hr e3 ((OC (by rw [hw];exact Ht) hi).trans hw);cases y with
        |DZ a=>cases Ht
        | bad a q=>
          have ZJ:Jk s=(Ke,(q:Int)):=Kq
          repeat' (first|apply Cv|refine Ct 0 Cr BR ?_|refine CG 0 Cs ?_|refine CG 2 Cs ?_|refine CO 2 Cr Ar Ab ?_|refine CY 2 Cr Aj Ab ?_|refine Ct 3 Cr Af ?_|refine CG 3 Cs ?_|refine CG 4 Cs ?_|refine Ct 5 Cr Ak ?_|refine CG 5 Cs ?_|refine Cu ?_|apply Cw|refine Cy ?_|refine CH ?_|refine CF ?_|refine C1 ?_|apply CB)
          refine C0 [.q [0],.f [1],.r [2],.f [3],.r [4],.h true 5,.q [6]] [Zj E3 s (.bad a q)] Ac Ac Ac Ac ?_
          repeat' (first|refine Ct 0 Cr Ag ?_|refine Ct 3 Cr Af ?_|refine Ct 5 Cr AX ?_|refine C5 ?_|refine Dd rfl ?_|refine Fq rfl ?_|refine HW rfl ?_|refine Df rfl rfl rfl rfl rfl rfl Aa rfl Aa Aa ?_|apply Cw|refine Cy ?_|apply Cz|refine CQ ?_)
          exact EK [] (CU (CR rfl rfl rfl rfl) (Cx rfl)) (bx ZJ rfl rfl)
      | true=>
        obtain⟨mo,cY⟩:∃mo:Nat,mo=if i=0 then 0 else 16:=⟨_,rfl⟩
        have hmo1:((mo:Nat):Int)=if i=0 then 0 else 16:=by rw [cY];split <;>rfl
        have hmo2:mo≤16:=by rw [cY];split <;>decide
        have hbd:=Rs.iR Ht;obtain⟨np,z1,q1, -,hnp,Sr⟩:=I8 (s:=s) (many:=1) (least:=0) (most:=mo) (r:=y) Ah (Nat.zero_le _) hy;obtain⟨ps,z2,q2,au,aq⟩:=Qn (n:=np) (cl:=j) Sr;subst au;obtain⟨lo,z3,q3,oi,rK,pQ⟩:=I8 (s:=s) (many:=1) (least:=ps.length) (most:=16) (r:=z2) Ah Ab aq;obtain⟨st,z4,q4, -,Gy,hz4⟩:=I8 (s:=s) (many:=1) (least:=0) (most:=32) (r:=z3) Ah Ah pQ;obtain⟨mn,z5,q5,rI,iH,rj⟩:=I8 (s:=s) (many:=2) (least:=1) (most:=256) (r:=z4) Ah Ah hz4;have kk1:=EJ E3 s y 1 0 mo hs hy Ah;have kk2:=L2 ps.length E3 s z1 j hs Sr Ab;have kk3:=EJ E3 s z2 1 ps.length 16 hs aq Ah;have kk4:=EJ E3 s z3 1 0 32 hs pQ Ah;have kk5:=EJ E3 s z4 2 1 256 hs hz4 Ah;rw [show((0:Nat):Int)=0 from rfl] at q1
        rw [show((16:Nat):Int)=16 from rfl] at q3
        rw [show((0:Nat):Int)=0 from rfl,show((32:Nat):Int)=32 from rfl] at q4
        rw [show((1:Nat):Int)=1 from rfl,show((256:Nat):Int)=256 from rfl] at q5
        rw [q1] at kk1
        rw [q2] at kk2
        rw [q3] at kk3
        rw [q4] at kk4
        rw [q5] at kk5
        dsimp only at kk1 kk2 kk3 kk4 kk5
        repeat' ((fail_if_success (refine Tg 15 ?_));(first|apply Cv|refine Ct 0 Cr Aw ?_|refine CO 2 Cr Aj Ab ?_|refine Ct 3 Cr Af ?_|refine Ct 5 Cr Ak ?_|refine Cu ?_|apply Cw|refine Cy ?_|refine CH ?_|refine CC ?_|apply CB))
        refine Cv ?_;refine Gk (S:=Unit) (fun _=> [(0,str s),(2,ptr Ei),(4,ptr E3),(5,ptr KJ),(6,i64 (j:Int)),(8,i64 (k:Int)),(9,i64 (i:Int)),(10,i64 (mo:Int))])
          (fun _=> [K2,h2,Zj E3 s y,CV KJ (.cells ⟨[.slice b j c,.slice b2 i c2]⟩ 32 (0,0)),K,h,CV Ei (.cells ⟨WC⟩ 32 (0,0))]) (fun _=>True) ?_ ?_
        · by_cases lY:i=0
          · obtain rfl:mo=0:=by rw [cY,if_pos lY]
            repeat' (first|apply Cv|refine Ct 0 Cr Ag ?_|refine CO 2 Cr Al Ab ?_|refine Cu ?_|apply Cw|refine Cy ?_|refine CH ?_)
            exact⟨rfl,(),CX (by repeat first|exact Sub.nil _|refine Sub.cons rfl ?_),trivial⟩
          · obtain rfl:mo=16:=by rw [cY,if_neg lY]
            repeat' (first|apply Cv|refine Ct 0 Cr Ap ?_|refine CY 2 Cr Al Ab ?_|refine Cu ?_|apply Cw|refine Cy ?_|refine CF ?_|apply CB)
            exact⟨rfl,(),CX (by repeat first|exact Sub.nil _|refine Sub.cons rfl ?_),trivial⟩
        rintro⟨⟩ -;refine DH ?_
        repeat' (first|apply Cv|refine Ct 0 Cr Ag ?_|refine Ct 3 Cr Af ?_|refine Ct 4 Cr Ae ?_|(refine gk 4 rfl ?_;(refine CK rfl rfl rfl rfl rfl rfl rfl rfl (kk2) ?_;rintro _ _ ⟨av,pb,pc,rfl,osp,rfl⟩;refine⟨_,_,rfl,rfl,?_⟩))|(refine gk 4 rfl ?_;(refine CK rfl rfl rfl rfl rfl rfl rfl rfl (kk1) ?_;rintro _ _ ⟨rfl,rfl⟩;refine⟨_,_,rfl,rfl,?_⟩))|(refine gk 4 rfl ?_;(refine CK rfl rfl rfl rfl rfl rfl rfl rfl (kk3) ?_;rintro _ _ ⟨rfl,rfl⟩;refine⟨_,_,rfl,rfl,?_⟩))|(refine gk 4 rfl ?_;(refine CK rfl rfl rfl rfl rfl rfl rfl rfl (kk4) ?_;rintro _ _ ⟨rfl,rfl⟩;refine⟨_,_,rfl,rfl,?_⟩))|(refine gk 4 rfl ?_;(refine CK rfl rfl rfl rfl rfl rfl rfl rfl (kk5) ?_;rintro _ _ ⟨rfl,rfl⟩;refine⟨_,_,rfl,rfl,?_⟩))|refine Ct 5 Cr Aq ?_|refine CT (fun β=> ?_)|refine CN ?_|refine Cu ?_|apply Cw|refine Cy ?_|refine CC ?_)
        rename Nat=>FT
        refine C4 (fun t:ss=> [(0,str s),(2,ptr Ei),(4,ptr E3),(5,ptr KJ),(6,i64 (j:Int)),(8,i64 (k:Int)),(9,i64 (i:Int)),(11,ptr FT),(12,i64 (mn:Int)),(13,i64 (t.j:Int))])
          (fun t=> [t.h,Zj E3 s t.x,CV FT (.cells ⟨[.slice pb ps.length pc,i64 (lo:Int),i64 (st:Int),.slice t.b t.j t.c]⟩ 66 (0,0)),av,K2,h2,CV KJ (.cells ⟨[.slice b j c,.slice b2 i c2]⟩ 32 (0,0)),K,h,CV Ei (.cells ⟨WC⟩ 32 (0,0))])
          (fun t=>t.j≤mn/\t.x.at≤s.length/\EE (fun _=>L7 s) t.j z5=(t.cd,t.x)/\t.cd.length=t.j/\OS t.h t.b t.j t.c 24 3 (CZ t.cd))
          (fun t=>mn - t.j) ⟨0,z5,emp,none,0,[]⟩ (by repeat first|exact Sub.nil _|refine Sub.cons rfl ?_) ⟨Nat.zero_le _,rj,rfl,rfl,OS.nil⟩ ?_
        clear kk1 kk2 kk3 kk4 kk5;rintro⟨m,w,h3,b3,c3,cd⟩ ⟨hm,hwa,hwc,hcd,O3⟩;dsimp only at hm hwa hwc hcd O3 ⊢
        by_cases hgo:m<mn/\w.ok=true
        · obtain⟨RH,nc⟩:=hgo;have hbw:=Rs.iR nc;obtain⟨o1,w1,g1,eh⟩:=P8 (s:=s) (many:=1) (least:=0) (most:=255) hwa;obtain⟨o2,w2,g2,iz⟩:=P8 (s:=s) (many:=8) (least:=0) (most:=0) eh;obtain⟨o3,w3,g3,rn⟩:=P8 (s:=s) (many:=8) (least:=0) (most:=0) iz;have d1:=EJ E3 s w 1 0 255 hs hwa Ah;have d2:=EJ E3 s w1 8 0 0 hs eh Ah;have d3:=EJ E3 s w2 8 0 0 hs iz Ah;rw [g1] at d1
          rw [g2] at d2
          rw [g3] at d3
          dsimp only at d1 d2 d3
          repeat' (first|apply Cv|refine Ct 0 Cr Aw ?_|refine Ct 1 Cr Ao ?_|refine CO 2 Cr Aj Ab ?_|refine Ct 3 Cr AE ?_|(refine gk 4 rfl ?_;(refine CK rfl rfl rfl rfl rfl rfl rfl rfl (d1) ?_;rintro _ _ ⟨rfl,rfl⟩;refine⟨_,_,rfl,rfl,?_⟩))|(refine gk 4 rfl ?_;(refine CK rfl rfl rfl rfl rfl rfl rfl rfl (d2) ?_;rintro _ _ ⟨rfl,rfl⟩;refine⟨_,_,rfl,rfl,?_⟩))|(refine gk 4 rfl ?_;(refine CK rfl rfl rfl rfl rfl rfl rfl rfl (d3) ?_;rintro _ _ ⟨rfl,rfl⟩;refine⟨_,_,rfl,rfl,?_⟩))|refine gk 4 rfl (EH rfl rfl rfl rfl rfl rfl rfl rfl rfl Ad Av Ah Av Ab Ab (fun h' b' c' HS OU=> ?_))|refine Ct 5 Cr AX ?_|refine CP (fun b=> ?_)|refine CT (fun β=> ?_)|refine CN ?_|refine Cu ?_|apply Cw|refine Cy ?_|refine CH ?_|refine CC ?_|apply CB)
          refine⟨rfl,⟨m+1,w3,h',b',c',cd++ [⟨o1,o2,o3⟩]⟩,CX (by repeat first|exact Sub.nil _|refine Sub.cons rfl ?_),⟨by dsimp only;omega,rn,?_,by simp [hcd],?_⟩,by dsimp only;omega⟩
          · dsimp only;rw [NS hwc nc,cJ g1 g2 g3]
          · dsimp only;rw [F9];exact HS
        · have Iu:EE (fun _=>L7 s) mn z5=(cd,w):=by
            by_cases RH:m<mn
            · have nc:w.ok=false:=by
                cases e:w.ok with
                |false=>rfl
                |true=>exact absurd ⟨RH,e⟩ hgo
              rw [OC (j:=m) (by rw [hwc];exact nc) hm,hwc]
            · obtain rfl:m=mn:=by omega
              exact hwc
          have eu:=cf (cl:=j) (i:=i) (by rw [<-hmo1];exact q1) q2 q3 q4 q5 Iu;have hgo2:m<mn->0≤w.bd:=fun RH=>Rs.iS (by
            cases e:w.ok with
            |false=>rfl
            |true=>exact absurd ⟨RH,e⟩ hgo)
          by_cases RH:m<mn
          · have hbw:=hgo2 RH;clear hgo2 hgo
            repeat' (first|apply Cv|refine Ct 0 Cr Aw ?_|refine Ct 1 Cr Ao ?_|refine CO 2 Cr Aj Ab ?_|refine CY 2 Cr Aj Ab ?_|refine Ct 3 Cr AE ?_|refine gk 4 rfl (EH rfl rfl rfl rfl rfl rfl rfl rfl rfl Ad Av Ah Av Ab Ab (fun h' b' c' HS OU=> ?_))|refine Ct 5 Cr Ak ?_|refine CP (fun b=> ?_)|refine CN ?_|refine Cu ?_|apply Cw|refine Cy ?_|refine CF ?_|refine C1 ?_)
            intro hd;obtain⟨d1,d2,d3⟩:=dF (h:=av) (g:=h3) (k:=K2) hd;refine⟨rfl,⟨i+1,w,h',b',c',join av (join h3 K2),ms++ [⟨ps,lo,st,cd⟩],_⟩,Mv (h:=av) (g:=h3) (k:=K2) (by repeat first|exact Sub.nil _|refine Sub.cons rfl ?_),⟨by dsimp only;omega,hwa,?_,by simp [Pr],HS,?_⟩,by dsimp only;omega⟩
            · dsimp only;rw [NS hw Ht,eu]
            · subst hcd;have l1:hle (join h3 K2) (join av (join h3 K2)):=Fl (GV d1 d2);exact(kT.mono ((Fl d3).trans l1)).snoc (osp.sl.mono FW) (by dsimp only;omega) (O3.sl.mono (FW.trans l1)) O3.hle (by dsimp only;omega)
          · clear hgo2 hgo
            repeat' (first|apply Cv|refine Ct 0 Cr Az ?_|refine CG 0 Cs ?_|refine Ct 1 Cr Ao ?_|refine CG 2 Cs ?_|refine CY 2 Cr Aj Ab ?_|refine Ct 3 Cr AE ?_|refine CG 3 Cs ?_|refine gk 4 rfl (EH rfl rfl rfl rfl rfl rfl rfl rfl rfl Ad Av Ah Av Ab Ab (fun h' b' c' HS OU=> ?_))|refine CG 5 Cs ?_|refine CP (fun b=> ?_)|refine CN ?_|refine Cu ?_|apply Cw|refine Cy ?_|refine CF ?_|refine C1 ?_)
            intro hd;obtain⟨d1,d2,d3⟩:=dF (h:=av) (g:=h3) (k:=K2) hd;refine⟨rfl,⟨i+1,w,h',b',c',join av (join h3 K2),ms++ [⟨ps,lo,st,cd⟩],_⟩,Mv (h:=av) (g:=h3) (k:=K2) (by repeat first|exact Sub.nil _|refine Sub.cons rfl ?_),⟨by dsimp only;omega,hwa,?_,by simp [Pr],HS,?_⟩,by dsimp only;omega⟩
            · dsimp only;rw [NS hw Ht,eu]
            · subst hcd;have l1:hle (join h3 K2) (join av (join h3 K2)):=Fl (GV d1 d2);exact(kT.mono ((Fl d3).trans l1)).snoc (osp.sl.mono FW) (by dsimp only;omega) (O3.sl.mono (FW.trans l1)) O3.hle (by dsimp only;omega)
    · obtain rfl:i=k:=by omega
      have Kq:=Ye hp e1 hr e3 hw;cases y with
      | bad a q=>
        have hbd:0≤(Rs.bad a q).bd:=Int.natCast_nonneg _;have ZJ:Jk s=(Ke,(q:Int)):=Kq
        repeat' (first|apply Cv|refine Ct 0 Cr Bf ?_|refine CG 0 Cs ?_|refine CG 2 Cs ?_|refine CO 2 Cr Ar Ab ?_|refine CY 2 Cr Aj Ab ?_|refine Ct 3 Cr Af ?_|refine CG 3 Cs ?_|refine CG 4 Cs ?_|refine Ct 5 Cr Ak ?_|refine CG 5 Cs ?_|refine Cu ?_|apply Cw|refine Cy ?_|refine CH ?_|refine CF ?_|refine C1 ?_|apply CB)
        refine C0 [.q [0],.f [1],.r [2],.f [3],.r [4],.h true 5,.q [6]] [Zj E3 s (.bad a q)] Ac Ac Ac Ac ?_
        repeat' (first|refine Ct 0 Cr Ag ?_|refine Ct 3 Cr Af ?_|refine Ct 5 Cr AX ?_|refine C5 ?_|refine Dd rfl ?_|refine Fq rfl ?_|refine HW rfl ?_|refine Df rfl rfl rfl rfl rfl rfl Aa rfl Aa Aa ?_|apply Cw|refine Cy ?_|apply Cz|refine CQ ?_)
        exact EK [] (CU (CR rfl rfl rfl rfl) (Cx rfl)) (bx ZJ rfl rfl)
      | DZ a=>
        by_cases ha:a<s.length
        · have ZJ:Jk s=(Ke,(a:Int)):=by rw [Kq];exact if_pos ha
          have hbd:(Rs.DZ a).bd= -1:=rfl;have FD:(Rs.DZ a).at<s.length:=ha
          repeat' (first|refine CW rfl rfl rfl (Ek rfl rfl rfl rfl rfl) ?_|apply Cv|refine Ct 0 Cr BR ?_|refine CG 0 Cs ?_|refine CG 2 Cs ?_|refine CO 2 Cr Ar Ab ?_|refine CY 2 Cr Aj Ab ?_|refine Ct 3 Cr Af ?_|refine CG 3 Cs ?_|refine Ct 5 Cr Ak ?_|refine CG 5 Cs ?_|refine CN ?_|refine Cu ?_|apply Cw|refine Cy ?_|refine CH ?_|refine CF ?_|refine C1 ?_)
          refine C0 [.q [0],.f [1],.r [2],.f [3],.r [4],.h true 5,.q [6]] [CV E3 (.cells ⟨[str s,i64 ((Rs.DZ a).at:Int),i64 ((Rs.DZ a).at:Int)]⟩ 215 (0,0))] Ac Ac Ac Ac ?_
          repeat' (first|refine Ct 0 Cr Ag ?_|refine Ct 3 Cr Af ?_|refine Ct 5 Cr AX ?_|refine C5 ?_|refine Dd rfl ?_|refine Fq rfl ?_|refine HW rfl ?_|refine Df rfl rfl rfl rfl rfl rfl Aa rfl Aa Aa ?_|apply Cw|refine Cy ?_|apply Cz|refine CQ ?_)
          exact EK [] (CU (CR rfl rfl rfl rfl) (Cx rfl)) (bx ZJ rfl rfl)
        · have ZJ:Jk s=(⟨cls,ms⟩, -1):=by rw [Kq];exact if_neg ha
          have hbd:(Rs.DZ a).bd= -1:=rfl;have FD:¬(Rs.DZ a).at<s.length:=ha
          repeat' (first|refine CW rfl rfl rfl (Ek rfl rfl rfl rfl rfl) ?_|apply Cv|refine Ct 0 Cr Ay ?_|refine CG 0 Cs ?_|refine CG 2 Cs ?_|refine CO 2 Cr Ar Ab ?_|refine CY 2 Cr Ar Ab ?_|refine Ct 3 Cr AE ?_|refine CG 3 Cs ?_|refine Ct 5 Cr Ak ?_|refine CG 5 Cs ?_|refine CN ?_|refine Cu ?_|apply Cw|refine Cy ?_|refine CF ?_|apply Cz|refine C1 ?_|apply CB)
          exact EK [K,h,K2,h2] (CU (CR rfl rfl rfl rfl) (Cx rfl)) (jg ZJ Jt Pr rfl os hP G3 kT Ab Ab)
end Go.Proofs.YtcnmnmjmpocepaaGreatDoor.Cd
end
section
namespace Go.Proofs.YtcnmnmjmpocepaaGreatDoor.Cd
open Go.SL
def St{α:Type}(p:α×Rs)(e:Except Nat (α×Nat)):Prop:=
  match e with| .ok (x,b)=>p=(x,.DZ b)| .error q=>∃a,p.2= .bad a q
structure aA{α:Type}(f:Rs->α×Rs)(g:Rd α):Prop where
  DZ:∀a,St (f (.DZ a)) (g a)
  bad:∀a q,(f (.bad a q)).2= .bad a q
theorem Hg(s:List UInt8)(many:Nat)(least most:Int):aA (EC s many least most) (num s many (P7 many least most)):=by
  refine⟨fun a=> ?_,fun a q=>rfl⟩;cases h:num s many (P7 many least most) a with
  |ok p=>obtain⟨n,b⟩:=p;simp only [St,EC,h]
  |error q=>simp only [St,EC,h];exact⟨a,rfl⟩
theorem Tj{α:Type}{f:Rs->α×Rs}{g:Rd α}(h:aA f g):∀k,aA (Ha f k) (rep g k):=by
  intro k;induction k with
  |zero=>exact⟨fun a=>rfl,fun a q=>rfl⟩
  | succ k ih=>
    refine⟨fun a=> ?_,fun a q=> ?_⟩
    · have h1:=ih.DZ a;cases e1:rep g k a with
      | error q=>
        rw [e1] at h1
        obtain⟨a',h1⟩:=h1;simp only [rep,e1,St,Ha];exact⟨a',by rw [h1];exact h.bad a' q⟩
      | ok p=>
        obtain⟨l,a1⟩:=p;rw [e1] at h1
        have h1':Ha f k (.DZ a)=(l,.DZ a1):=h1;have h2:=h.DZ a1;cases e2:g a1 with
        |error q=>rw [e2] at h2;obtain⟨a',h2⟩:=h2;simp only [rep,e1,e2,St,Ha,h1'];exact⟨a',h2⟩
        | ok p=>
          obtain⟨x,a2⟩:=p;rw [e2] at h2
          have h2':f (.DZ a1)=(x,.DZ a2):=h2;simp only [rep,e1,e2,St,Ha,h1',h2']
    · simp only [Ha,ih.bad a q];exact h.bad a q
theorem Uz{α:Type}{f:Nat->Rs->α×Rs}{g:Nat->Rd α}(h:∀i,aA (f i) (g i)){R:Nat->Rd (List α)}(h0:∀a,R 0 a= .ok ([],a))
    (h1:∀k a,R (k+1) a=match R k a with| .ok (l,a1)=>(match g k a1 with| .ok (x,a2)=> .ok (l++ [x],a2)| .error e=> .error e)| .error e=> .error e):∀k,aA (EE f k) (R k):=by
  intro k;induction k with
  |zero=>exact⟨fun a=>by rw [h0];rfl,fun a q=>rfl⟩
  | succ k ih=>
    refine⟨fun a=> ?_,fun a q=> ?_⟩
    · have k1:=ih.DZ a;rw [h1];cases e1:R k a with
      | error q=>
        rw [e1] at k1
        obtain⟨a',k1⟩:=k1;simp only [St,EE,k1,Rs.ok,Bool.false_eq_true,if_false];exact⟨a',rfl⟩
      | ok p=>
        obtain⟨l,a1⟩:=p;rw [e1] at k1
        have Xq:EE f k (.DZ a)=(l,.DZ a1):=k1;have k2:=(h k).DZ a1;cases e2:g k a1 with
        |error q=>rw [e2] at k2;obtain⟨a',k2⟩:=k2;simp only [St,EE,Xq,e2,Rs.ok,if_true];exact⟨a',k2⟩
        | ok p=>
          obtain⟨x,a2⟩:=p;rw [e2] at k2
          have eg:f k (.DZ a1)=(x,.DZ a2):=k2;simp only [St,EE,Xq,e2,eg,Rs.ok,if_true]
    · simp only [EE,ih.bad a q,Rs.ok,Bool.false_eq_true,if_false]
theorem Zw(b:UInt8):DK [b]=b.toNat:=by simp [DK]
theorem jh{s:List UInt8}{a:Nat}{n:Int}(h:rd s a 1=some n):0≤n/\n≤255:=by
  unfold rd at h
  split at h
  · rename_i hl
    obtain⟨b,hb⟩:∃b,s[a]?=some b:=⟨_,List.getElem?_eq_getElem Ab⟩;have e:(s.drop a).take 1= [b]:=by
      rw [List.take_one,List.head?_drop,hb];rfl
    rw [e,Zw] at h
    have OU:=b.toNat_lt;rw [Dz Ab Ab] at h
    cases h
    omega
  · cases h
theorem b7(s:List UInt8)(a:Nat):num s 1 (P7 1 0 255) a=num s 1 (fun _=>true) a:=by
  unfold num Je;cases h:rd s a 1 with
  |none=>rfl
  | some n=>
    have:=jh h;have:P7 1 0 255 n=true:=by rw [W9];simpa [wi] using this
    simp only [this]
theorem iZ(s:List UInt8):aA (L7 s) (J4 s):=by
  have b1:=Hg s 1 0 255;have b8:=Hg s 8 0 0;refine⟨fun a=> ?_,fun a q=>rfl⟩;have k1:=b1.DZ a;rw [b7] at k1
  unfold J4 L7;cases e1:num s 1 (fun _=>true) a with
  | error q=>
    rw [e1] at k1;obtain⟨a',k1⟩:=k1
    simp only [St,k1,b8.bad];exact⟨a',rfl⟩
  | ok p=>
    obtain⟨o,a1⟩:=p;rw [e1] at k1
    have Xq:EC s 1 0 255 (.DZ a)=(o,.DZ a1):=k1;have k2:=b8.DZ a1;rw [lz] at k2
    cases e2:num s 8 (fun _=>true) a1 with
    | error q=>
      rw [e2] at k2;obtain⟨a',k2⟩:=k2
      simp only [St,Xq,e2,k2,b8.bad];exact⟨a',rfl⟩
    | ok p=>
      obtain⟨x,a2⟩:=p;rw [e2] at k2
      have eg:EC s 8 0 0 (.DZ a1)=(x,.DZ a2):=k2;have k3:=b8.DZ a2;rw [lz] at k3
      cases e3:num s 8 (fun _=>true) a2 with
      | error q=>
        rw [e3] at k3;obtain⟨a',k3⟩:=k3
        simp only [St,Xq,e2,eg,e3,k3];exact⟨a',rfl⟩
      | ok p=>
        obtain⟨y,a3⟩:=p;rw [e3] at k3
        have jB:EC s 8 0 0 (.DZ a2)=(y,.DZ a3):=k3;simp only [St,Xq,e2,eg,e3,jB]
theorem MY(s:List UInt8)(n:Nat)(cl:Int):aA (Hj s n cl) (rep (num s 1 fun z=>wi z 0 cl) n):=by
  have:=Tj (Hg s 1 0 cl) n;rw [W9] at this
  exact this
theorem Ti(s:List UInt8)(most cl:Int):aA (fun r=>Hj s (EC s 1 0 most r).1.toNat cl (EC s 1 0 most r).2) (E5 s most cl):=by
  refine⟨fun a=> ?_,fun a q=> ?_⟩
  · have k1:=(Hg s 1 0 most).DZ a;rw [W9] at k1
    unfold E5;cases e1:num s 1 (fun z=>wi z 0 most) a with
    | error q=>
      rw [e1] at k1;obtain⟨a',k1⟩:=k1
      rw [k1];exact⟨a',(MY s _ cl).bad a' q⟩
    | ok p=>
      obtain⟨n,a1⟩:=p;rw [e1] at k1
      have Xq:EC s 1 0 most (.DZ a)=(n,.DZ a1):=k1;rw [Xq];exact(MY s n.toNat cl).DZ a1
  · exact(MY s _ cl).bad a q
theorem eT (s :List UInt8)(cl:Int)(i:Nat):aA (L4 s cl i) (FC s (if i=0 then 0 else 16) cl):=by
  have hi:∀n,aA (EE (fun _=>L7 s) n) (rep (J4 s) n):=Uz (fun _=>iZ s) (fun a=>rfl) (fun k a=>rfl);refine⟨fun a=> ?_,fun a q=> ?_⟩
  · have k1 :=(Ti s (if i=0 then 0 else 16) cl).DZ a;unfold FC L4;dsimp only at k1 ⊢
    cases e1:E5 s (if i=0 then 0 else 16) cl a with
    | error q=>
      rw [e1] at k1;obtain⟨a',k1⟩:=k1
      simp only [St];rw [k1];simp only [(Hg ..).bad,(hi _).bad];exact⟨a',rfl⟩
    | ok p=>
      obtain⟨ps,a1⟩:=p;rw [e1] at k1
      have Xq:=show _=(ps,Rs.DZ a1) from k1
      rw [Xq];dsimp only;have k2:=(Hg s 1 (ps.length:Int) 16).DZ a1;rw [W9] at k2
      cases e2:num s 1 (fun z=>wi z ps.length 16) a1 with
      | error q=>
        rw [e2] at k2;obtain⟨a',k2⟩:=k2
        simp only [St,k2,(Hg ..).bad,(hi _).bad];exact⟨a',rfl⟩
      | ok p=>
        obtain⟨lo,a2⟩:=p;rw [e2] at k2
        have eg:EC s 1 (ps.length:Int) 16 (.DZ a1)=(lo,.DZ a2):=k2;rw [eg];dsimp only;have k3:=(Hg s 1 0 32).DZ a2;rw [W9] at k3
        cases e3:num s 1 (fun z=>wi z 0 32) a2 with
        | error q=>
          rw [e3] at k3;obtain⟨a',k3⟩:=k3
          simp only [St,k3,(Hg ..).bad,(hi _).bad];exact⟨a',rfl⟩
        | ok p=>
          obtain⟨st,a3⟩:=p;rw [e3] at k3
          have jB:EC s 1 0 32 (.DZ a2)=(st,.DZ a3):=k3;rw [jB];dsimp only;have k4:=(Hg s 2 1 256).DZ a3;rw [nS] at k4
          cases e4:num s 2 (fun z=>wi z 1 256) a3 with
          | error q=>
            rw [e4] at k4;obtain⟨a',k4⟩:=k4
            simp only [St,k4,(hi _).bad];exact⟨a',rfl⟩
          | ok p=>
            obtain⟨n,a4⟩:=p;rw [e4] at k4
            have lJ:EC s 2 1 256 (.DZ a3)=(n,.DZ a4):=k4;rw [lJ];dsimp only;have k5:=(hi n.toNat).DZ a4;cases e5:rep (J4 s) n.toNat a4 with
            |error q=>rw [e5] at k5;obtain⟨a',k5⟩:=k5;exact⟨a',k5⟩
            | ok p=>
              obtain⟨code,a5⟩:=p;rw [e5] at k5
              have k5':EE (fun _=>L7 s) n.toNat (.DZ a4)=(code,.DZ a5):=k5;simp only [St,k5']
  · unfold L4;dsimp only;simp only [(Hg ..).bad,(MY ..).bad,(hi _).bad]
theorem Ya(s:List UInt8)(cl:Int)(k:Nat):aA (EE (L4 s cl) k) (Ob s cl k):=
  Uz (eT s cl) (R:=Ob s cl) (fun a=>rfl) (fun k a=>by
    simp only [Ob];cases Ob s cl k a with
    |error e=>rfl
    | ok q=>
      obtain⟨l,a1⟩:=q;dsimp only;cases FC s (if k=0 then 0 else 16) cl a1 with
      |error e=>rfl
      |ok q=>rfl) k
theorem Yd{α:Type}{s:List UInt8}{r:Rd α}(h:∀a x b,a≤s.length->r a= .ok (x,b)->b≤s.length):∀k a l b,a≤s.length->rep r k a= .ok (l,b)->b≤s.length
  |0,a,l,b,ha,e=>by cases e;exact ha
  | k + 1,a,l,b,ha,e=>by
    simp only [rep] at e
    split at e
    · rename_i l1 a1 h1
      have h2:=Yd h k a _ _ ha h1
      split at e
      · rename_i x a2 h3
        cases e
        exact h _ _ _ h2 h3
      · cases e
    · cases e
theorem fX{s:List UInt8}(a:Nat)(x:Ins)(b:Nat)(_:a≤s.length)(e:J4 s a= .ok (x,b)):b≤s.length:=by
  unfold J4 at e
  split at e
  · split at e
    · split at e
      · rename_i h;cases e;exact(GF h).2.2
      · cases e
    · cases e
  · cases e
theorem Xe {s:List UInt8}{most cl:Int}(a:Nat)(x:Me)(b:Nat)(e:FC s most cl a= .ok (x,b)):b≤s.length:=by
  unfold FC at e
  split at e
  · cases e
  · split at e
    · cases e
    · split at e
      · cases e
      · split at e
        · cases e
        · rename_i h4
          split at e
          · cases e
          · rename_i h5
            cases e
            exact Yd fX _ _ _ _ (GF h4).2.2 h5
theorem ju{s:List UInt8}{cl:Int}{k a:Nat}{l:List Me}{b:Nat}(ha:a≤s.length)(e:Ob s cl k a= .ok (l,b)):b≤s.length:=by
  cases k with
  |zero=>cases e;exact ha
  | succ k=>
    simp only [Ob] at e
    split at e
    · split at e
      · rename_i h;cases e;exact Xe _ _ _ h
      · cases e
    · cases e
theorem ja(s:List UInt8)(cl:Int)(k:Nat):aA (Ha (KB s cl) k) (rep (E5 s 8 cl) k):=Tj (Ti s 8 cl) k
theorem Zm (s:List UInt8):Jk s=match JN s with| .ok x=>(x, -1)| .error q=>(Ke,(q:Int)):=by
  unfold Jk JN;by_cases hp:s.take 3= [68,75,1]
  · rw [if_pos hp,if_pos hp];dsimp only;have k1:=(Hg s 1 0 16).DZ 3;rw [W9] at k1
    have fin:∀ {p:List Me×Rs} {a q:Nat} {C:List (List Int)},p.2= .bad a q->(match p.2 with| .bad _ q=>(Ke,(q:Int))| .DZ a=>if a<s.length then(Ke,(a:Int)) else((⟨C,p.1⟩:Im),(-1:Int)))=(Ke,(q:Int)):=by
      intro p a q C h;rw [h]
    cases e1:num s 1 (fun z=>wi z 0 16) 3 with
    | error q=>
      rw [e1] at k1;obtain⟨a',k1⟩:=k1
      refine fin (a:=a') ?_;rw [k1,(ja ..).bad,(Hg ..).bad,(Ya ..).bad]
    | ok p=>
      obtain⟨n,a1⟩:=p;rw [e1] at k1
      have Xq:EC s 1 0 16 (.DZ 3)=(n,.DZ a1):=k1;rw [Xq];dsimp only;have k2:=(Tj (Ti s 8 n) n.toNat).DZ a1;cases e2:rep (E5 s 8 n) n.toNat a1 with
      | error q=>
        rw [e2] at k2;obtain⟨a',k2⟩:=k2
        refine fin (a:=a') ?_;rw [show(Ha (KB s n) n.toNat (.DZ a1)).2= .bad a' q from k2,(Hg ..).bad,(Ya ..).bad]
      | ok p=>
        obtain⟨cls,a2⟩:=p;rw [e2] at k2
        have eg:Ha (KB s n) n.toNat (.DZ a1)=(cls,.DZ a2):=k2;rw [eg];dsimp only;have k3:=(Hg s 1 1 32).DZ a2;rw [W9] at k3
        cases e3:num s 1 (fun z=>wi z 1 32) a2 with
        | error q=>
          rw [e3] at k3;obtain⟨a',k3⟩:=k3
          refine fin (a:=a') ?_;rw [k3,(Ya ..).bad]
        | ok p=>
          obtain⟨k,a3⟩:=p;rw [e3] at k3
          have jB:EC s 1 1 32 (.DZ a2)=(k,.DZ a3):=k3;rw [jB];dsimp only;have k4:=(Ya s n k.toNat).DZ a3;cases e4:Ob s n k.toNat a3 with
          |error q=>rw [e4] at k4;obtain⟨a',k4⟩:=k4;exact fin (a:=a') k4
          | ok p=>
            obtain⟨ms,a4⟩:=p;rw [e4] at k4
            have lJ:EE (L4 s n) k.toNat (.DZ a3)=(ms,.DZ a4):=k4;rw [lJ];dsimp only;have:=ju (GF e3).2.2 e4;by_cases h:a4=s.length
            · rw [if_pos h,if_neg Ab]
            · rw [if_neg h,if_pos Ab]
  · rw [if_neg hp,if_neg hp];rfl
end Go.Proofs.YtcnmnmjmpocepaaGreatDoor.Cd
end
section
namespace Go.Proofs.YtcnmnmjmpocepaaGreatDoor.Cd
open Go.SL
theorem TM(l:List UInt8)(b:UInt8):DK (l++ [b])=DK l+256^l.length*b.toNat:=by
  induction l with
  |nil=>simp [DK]
  | cons a l ih=>
    simp only [List.cons_append,DK,ih,List.length_cons,Nat.pow_succ];rw [Nat.mul_add,Nat.add_assoc,Nat.mul_comm (256^l.length) 256,Nat.mul_assoc]
theorem N9:∀l:List UInt8,DK l<256^l.length
  | []=>by simp [DK]
  | a::l=>by
    have h1:=a.toNat_lt;have h2:=N9 l;simp only [DK,List.length_cons,Nat.pow_succ];omega
theorem Oa(w:Nat):∀k,DK (G9 w k)=w%256^k
  |0=>by simp [G9,DK,Nat.mod_one]
  | k+1=>by
    rw [G9,TM,Oa w k,Em,Nat.pow_succ,Nat.mod_mul,Nat.shiftRight_eq_div_pow,Nat.pow_mul];simp
theorem Sa:∀ {l l':List UInt8},l.length=l'.length->DK l=DK l'->l=l'
  | [],[],_,_=>rfl
  | [],_::_,h,_=>by cases h
  |_::_,[],h,_=>by cases h
  | a::l,b::l',h,e=>by
    simp only [DK] at e
    have h1:=a.toNat_lt;have h2:=b.toNat_lt;have e1:a.toNat=b.toNat:=by omega
    have e2:DK l=DK l':=by omega
    rw [Sa (by simpa using h) e2,UInt8.toNat_inj.1 e1]
theorem ZD(l:List UInt8):G9 (DK l) l.length=l:=
  Sa (Em ..) (by rw [Oa,Nat.mod_eq_of_lt (N9 l)])
def NR(many:Nat)(n:Int):Prop:=(many=1/\0≤n/\n≤255)∨(many=2/\0≤n/\n≤65535)∨(many=8/\ -9223372036854775808≤n/\n≤9223372036854775807)
theorem X6(n:Int):(G1 n:Int)=n%18446744073709551616:=by
  rw [<-WG];simp [IntKind.wrap,IntKind.bits,IntKind.signed]
theorem PC(n:Int):IntKind.i64.wrap n=if 9223372036854775808≤n%18446744073709551616 then n%18446744073709551616 - 18446744073709551616 else n%18446744073709551616:=by
  simp [IntKind.wrap,IntKind.bits,IntKind.signed]
theorem aC{many:Nat}{n:Int}(h:NR many n):IntKind.i64.wrap ((DK (G9 (G1 n) many):Nat):Int)=n:=by
  rw [Oa];have e:=X6 n;rcases h with ⟨rfl,h1,h2⟩|⟨rfl,h1,h2⟩|⟨rfl,h1,h2⟩
  · have:G1 n%256^1=G1 n:=Nat.mod_eq_of_lt Ab;rw [this,Dz Ab Ab];omega
  · have:G1 n%256^2=G1 n:=Nat.mod_eq_of_lt Ab;rw [this,Dz Ab Ab];omega
  · have:G1 n%256^8=G1 n:=Nat.mod_eq_of_lt Ab;rw [this,PC]
    split <;>omega
theorem cx{many:Nat}{l:List UInt8}(hl:l.length=many)(hm:many=1∨many=2∨many=8):G9 (G1 (IntKind.i64.wrap ((DK l:Nat):Int))) many=l/\NR many (IntKind.i64.wrap ((DK l:Nat):Int)):=by
  have h1:=N9 l;have e:=X6 (IntKind.i64.wrap ((DK l:Nat):Int));have e2:=PC ((DK l:Nat):Int);rw [hl] at h1
  have e3:G1 (IntKind.i64.wrap ((DK l:Nat):Int))=DK l:=by
    rcases hm with rfl|rfl|rfl <;>(split at e2 <;>omega)
  refine⟨by rw [e3,<-hl];exact ZD l,?_⟩;unfold NR;rcases hm with rfl|rfl|rfl <;>(split at e2 <;>omega)
structure LR{α:Type}(R:List UInt8->Rd α)(B:α->List UInt8)(p:α->Prop):Prop where
  wr:∀(u v:List UInt8) (x:α),p x->R (u++(B x++v)) u.length= .ok (x,u.length+(B x).length)
  un:∀(s:List UInt8) (a b:Nat) (x:α),a≤s.length->R s a= .ok (x,b)->p x/\∃u v,s=u++(B x++v)/\a=u.length/\b=u.length+(B x).length
  er:∀(s:List UInt8) (a q:Nat),a≤s.length->R s a= .error q->q≤s.length
theorem ji(u l v:List UInt8):rd (u++(l++v)) u.length l.length=some (IntKind.i64.wrap ((DK l:Nat):Int)):=by
  unfold rd;rw [if_pos Am];simp
theorem bu{s:List UInt8}{a many:Nat}{n:Int}(h:rd s a many=some n):∃u l v,s=u++(l++v)/\a=u.length/\l.length=many/\n=IntKind.i64.wrap ((DK l:Nat):Int):=by
  unfold rd at h
  split at h
  · cases h
    refine⟨s.take a,(s.drop a).take many,(s.drop a).drop many,?_,?_,?_,rfl⟩
    · rw [List.take_append_drop,List.take_append_drop]
    · simp;omega
    · simp;omega
  · cases h
theorem Kh(many:Nat)(f:Int->Bool)(hm:many=1∨many=2∨many=8):LR (fun s=>num s many f) (fun n=>G9 (G1 n) many) (fun n=>NR many n/\f n=true):=by
  refine⟨fun u v x h=> ?_,fun s a b x ha h=> ?_,fun s a q ha h=> ?_⟩
  · have:=ji u (G9 (G1 x) many) v;rw [Em] at this
    simp only [num,Je,this,aC h.1,h.2,if_true,Em]
  · unfold num Je at h
    cases h1:rd s a many with
    |none=>rw [h1] at h;cases h
    | some n=>
      rw [h1] at h
      dsimp only at h
      cases hf:f n with
      |false=>rw [hf] at h;simp at h
      | true=>
        rw [hf] at h
        simp only [if_true] at h
        cases h
        obtain⟨u,l,v,e1,e2,e3,e4⟩:=bu h1;have:=cx e3 hm;rw [<-e4] at this
        exact⟨⟨this.2,hf⟩,u,v,by rw [this.1];exact e1,e2,by rw [Em,e2]⟩
  · unfold num Je at h
    cases h1:rd s a many with
    |none=>rw [h1] at h;cases h;exact ha
    | some n=>
      rw [h1] at h
      dsimp only at h
      cases hf:f n with
      |false=>rw [hf] at h;simp at h;omega
      |true=>rw [hf] at h;simp at h
theorem LR.bind{α β γ:Type}{R1:List UInt8->Rd α}{B1:α->List UInt8}{p1:α->Prop}{R2:α->List UInt8->Rd β}{B2:β->List UInt8}{p2:α->β->Prop}(h1:LR R1 B1 p1)(h2:∀x,p1 x->LR (R2 x) B2 (p2 x))
    {mk:α->β->γ} {fs:γ->α} {sn:γ->β} (hf:∀x y,p1 x->p2 x y->fs (mk x y)=x) (hs:∀x y,sn (mk x y)=y) (hm:∀z,mk (fs z) (sn z)=z) {R:List UInt8->Rd γ}
    (hR:∀s a,R s a=match R1 s a with| .error e=> .error e| .ok (x,a1)=>(match R2 x s a1 with| .error e=> .error e| .ok (y,a2)=> .ok (mk x y,a2))):
    LR R (fun z=>B1 (fs z)++B2 (sn z)) (fun z=>p1 (fs z)/\p2 (fs z) (sn z)):=by
  refine⟨fun u v z h=> ?_,fun s a b z ha h=> ?_,fun s a q ha h=> ?_⟩
  · have k1:=h1.wr u (B2 (sn z)++v) (fs z) h.1;have k2:=(h2 _ h.1).wr (u++B1 (fs z)) v (sn z) h.2;rw [hR];rw [show u++(B1 (fs z)++B2 (sn z)++v)=u++(B1 (fs z)++(B2 (sn z)++v)) by simp,k1];rw [show u++B1 (fs z)++(B2 (sn z)++v)=u++(B1 (fs z)++(B2 (sn z)++v)) by simp,List.length_append] at k2
    dsimp only;rw [k2];simp only [hm,List.length_append,Nat.add_assoc]
  · rw [hR] at h
    cases e1:R1 s a with
    |error e=>rw [e1] at h;cases h
    | ok p=>
      obtain⟨x,a1⟩:=p;rw [e1] at h
      dsimp only at h
      obtain⟨g1,u,v,g2,g3,g4⟩:=h1.un s a a1 x ha e1;cases e2:R2 x s a1 with
      |error e=>rw [e2] at h;cases h
      | ok p=>
        obtain⟨y,a2⟩:=p;rw [e2] at h
        cases h
        have ha1:a1≤s.length:=by rw [g4,g2];simp
        obtain⟨f1,u2,v2,f2,f3,f4⟩:=(h2 x g1).un s a1 _ y ha1 e2;have hu:u2=u++B1 x:=by
          have:s=(u++B1 x)++v:=by rw [g2];simp
          rw [this] at f2
          exact(List.append_inj f2 (by rw [<-f3,g4];simp)).1.symm
        rw [hf x y g1 f1,hs];refine⟨⟨g1,f1⟩,u,v2,by rw [f2,hu];simp,g3,by rw [f4,hu];simp;omega⟩
  · rw [hR] at h
    cases e1:R1 s a with
    |error e=>rw [e1] at h;cases h;exact h1.er s a _ ha e1
    | ok p=>
      obtain⟨x,a1⟩:=p;rw [e1] at h
      dsimp only at h
      obtain⟨g1,u,v,g2,g3,g4⟩:=h1.un s a a1 x ha e1;have ha1:a1≤s.length:=by rw [g4,g2];simp
      cases e2:R2 x s a1 with
      |error e=>rw [e2] at h;cases h;exact(h2 x g1).er s a1 _ ha1 e2
      |ok p=>rw [e2] at h;cases h
theorem LR.of{α:Type}{R R':List UInt8->Rd α}{B B':α->List UInt8}{p p':α->Prop}(h:LR R B p)(hR:∀s a,R' s a=R s a)(hB:∀x,B' x=B x)(hp:∀x,p' x↔p x):LR R' B' p':=
  ⟨fun u v x hx=>by rw [hB,hR];exact h.wr u v x ((hp x).1 hx),fun s a b x ha hx=>by
    rw [hR] at hx;rw [hB,hp];exact h.un s a b x ha hx,fun s a q ha hx=>by rw [hR] at hx;exact h.er s a q ha hx⟩
theorem cj {α :Type}{R:Nat->List UInt8->Rd α}{B:α->List UInt8}{p:Nat->α->Prop}(h:∀i,LR (R i) B (p i)){RR:Nat->List UInt8->Rd (List α)}(h0:∀s a,RR 0 s a= .ok ([],a))
    (h1:∀k s a,RR (k+1) s a=match RR k s a with| .ok (l,a1)=>(match R k s a1 with| .ok (x,a2)=> .ok (l++ [x],a2)| .error e=> .error e)| .error e=> .error e):
    ∀k,LR (RR k) (fun l=>(l.map B).flatten) (fun l=>l.length=k/\∀i x,l[i]?=some x->p i x):=by
  intro k;induction k with
  | zero=>
    refine⟨fun u v x hx=> ?_,fun s a b x ha hx=> ?_,fun s a q ha hx=>by rw [h0] at hx;cases hx⟩
    · obtain rfl:=List.length_eq_zero_iff.1 hx.1;rw [h0];simp
    · rw [h0] at hx
      cases hx
      refine⟨⟨rfl,fun i x h=>by simp at h⟩,s.take a,s.drop a,by simp,by simp;omega,by simp;omega⟩
  | succ k ih =>
    refine⟨fun u v l hx=> ?_,fun s a b l ha hx=> ?_,fun s a q ha hx=> ?_⟩
    · obtain⟨l',x,rfl⟩:∃l' x,l=l'++ [x]:=by
        rcases List.eq_nil_or_concat l with rfl|⟨l',x,rfl⟩
        · cases hx.1
        · exact⟨l',x,by simp⟩
      have hl':l'.length=k:=by have:=hx.1;simp at this;exact this
      have k1:=ih.wr u (B x++v) l' ⟨hl',fun i y hy=>hx.2 i y (by rw [List.getElem?_append_left (List.getElem?_eq_some_iff.1 hy).1];exact hy)⟩;have k2:=(h k).wr (u++(l'.map B).flatten) v x (hx.2 k x (by rw [<-hl'];simp));rw [h1];rw [show u++(((l'++ [x]).map B).flatten++v)=u++((l'.map B).flatten++(B x++v)) by simp];rw [show u++(l'.map B).flatten++(B x++v)=u++((l'.map B).flatten++(B x++v)) by simp,List.length_append] at k2
      simp only [k1,k2];simp only [List.map_append,List.map_cons,List.map_nil,List.flatten_append,List.flatten_cons,List.flatten_nil,List.append_nil,List.length_append,Nat.add_assoc]
    · rw [h1] at hx
      cases e1:RR k s a with
      |error e=>rw [e1] at hx;cases hx
      | ok q=>
        obtain⟨l1,a1⟩:=q;rw [e1] at hx
        dsimp only at hx
        obtain⟨g1,u,v,g2,g3,g4⟩:=ih.un s a a1 l1 ha e1;cases e2:R k s a1 with
        |error e=>rw [e2] at hx;cases hx
        | ok q=>
          obtain⟨y,a2⟩:=q;rw [e2] at hx
          cases hx
          have ha1:a1≤s.length:=by rw [g4,g2];simp
          obtain⟨f1,u2,v2,f2,f3,f4⟩:=(h k).un s a1 _ y ha1 e2;have hu:u2=u++(l1.map B).flatten:=by
            have:s=(u++(l1.map B).flatten)++v:=by rw [g2];simp
            rw [this] at f2
            exact(List.append_inj f2 (by rw [<-f3,g4];simp)).1.symm
          refine⟨⟨by simp [g1.1],fun i z hz=> ?_⟩,u,v2,by rw [f2,hu];simp,g3,by rw [f4,hu];simp;omega⟩;by_cases hi:i<l1.length
          · rw [List.getElem?_append_left hi] at hz;exact g1.2 i z hz
          · have LW:i=l1.length:=by
              have:=(List.getElem?_eq_some_iff.1 hz).1;simp at this;omega
            subst LW;simp at hz;subst hz
            rw [g1.1];exact f1
    · rw [h1] at hx
      cases e1:RR k s a with
      |error e=>rw [e1] at hx;cases hx;exact ih.er s a _ ha e1
      | ok q=>
        obtain⟨l1,a1⟩:=q;rw [e1] at hx
        dsimp only at hx
        obtain⟨g1,u,v,g2,g3,g4⟩:=ih.un s a a1 l1 ha e1;have ha1:a1≤s.length:=by rw [g4,g2];simp
        cases e2:R k s a1 with
        |error e=>rw [e2] at hx;cases hx;exact(h k).er s a1 _ ha1 e2
        |ok q=>rw [e2] at hx;cases hx
theorem Yr{α:Type}{R:List UInt8->Rd α}{B:α->List UInt8}{p:α->Prop}(h:LR R B p)(k:Nat):LR (fun s=>rep (R s) k) (fun l=>(l.map B).flatten) (fun l=>l.length=k/\∀x∈l,p x):=
  (cj (RR:=fun k s=>rep (R s) k) (fun _=>h) (fun _ _=>rfl) (fun _ _ _=>rfl) k).of (fun _ _=>rfl) (fun _=>rfl) fun l=>
    ⟨fun⟨g1,g2⟩=>⟨g1,fun i x hx=>g2 x (List.mem_of_getElem? hx)⟩,fun⟨g1,g2⟩=>⟨g1,fun x hx=>by obtain⟨i,hi⟩:=List.mem_iff_getElem?.1 hx;exact g2 i x hi⟩⟩
theorem Ys{α:Type}{R:List UInt8->Rd α}{B:α->List UInt8}{p:α->Prop}(h:LR R B p){many:Nat}{least most:Int}(hm:many=1∨many=2∨many=8)(hl:0≤least){R':List UInt8->Rd (List α)}
    (hR:∀s a,R' s a=match num s many (fun z=>wi z least most) a with| .error e=> .error e| .ok (n,a1)=>rep (R s) n.toNat a1):
    LR R' (fun l=>G9 (G1 l.length) many++(l.map B).flatten) (fun l=>(NR many l.length/\wi l.length least most=true)/\∀x∈l,p x):=by
  have hn:=Kh many (fun z=>wi z least most) hm;have:=LR.bind hn (R2:=fun n s=>rep (R s) n.toNat) (p2:=fun n l=>l.length=n.toNat/\∀x∈l,p x) (fun n _=>Yr h n.toNat) (mk:=fun _ l=>l) (fs:=fun l:List α=>(l.length:Int)) (sn:=fun l=>l) (R:=R')
    (fun n l h1 h2=>by have:=h1.2;simp only [wi,decide_eq_true_eq] at this;have:=h2.1;omega) (fun _ _=>rfl) (fun _=>rfl) (fun s a=>by
      rw [hR];cases e1:num s many (fun z=>wi z least most) a with
      |error e=>rfl
      | ok q=>
        obtain⟨n,a1⟩:=q;dsimp only;cases rep (R s) n.toNat a1 <;>rfl)
  exact this.of (fun _ _=>rfl) (fun _=>rfl) fun l=>⟨fun⟨g1,g2⟩=>⟨g1,by simp,g2⟩,fun⟨g1,g2⟩=>⟨g1,g2.2⟩⟩
end Go.Proofs.YtcnmnmjmpocepaaGreatDoor.Cd
end
