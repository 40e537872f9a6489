
import Derived.Test.YtcnmnmjmpocepaaGreatDoorV00
import Derived.Test.YtcnmnmjmpocepaaGreatDoorV09
import Derived.Test.YtcnmnmjmpocepaaGreatDoorV12
set_option linter.unusedVariables false
set_option linter.unusedSimpArgs false
set_option linter.unusedSectionVars false
set_option maxRecDepth 100000
set_option maxHeartbeats 16000000
section
namespace Go.Proofs.YtcnmnmjmpocepaaGreatDoor.Cd
open Go.SL
attribute [local irreducible] SL.T Dw DG DE DI Et D0
def La{α:Type}(p:α->α->Bool):List α->List α->Bool
  | [],[]=>true
  |a::l,b::m=>p a b && La p l m
  |_,_=>false
theorem Mz{α:Type}{p:α->α->Bool}(hp:∀a b,p a b=true↔a=b):∀ {l m:List α},La p l m=true↔l=m
  | [],[]=>by simp [La]
  | [],_::_=>by simp [La]
  |_::_,[]=>by simp [La]
  |a::l,b::m=>by simp [La,hp,Mz hp]
theorem gO{b:Bool}{p:Prop}(h:b=true↔p)(hn:¬p):b=false:=by
  cases b with
  |false=>rfl
  |true=>exact absurd (h.1 rfl) hn
def oI(x y:Ins):Bool:=decide (x.op=y.op) && (decide (x.a=y.a) && decide (x.b=y.b))
theorem gA(x y:Ins):oI x y=true↔x=y:=by
  cases x;cases y;simp [oI]
def oH(m n:Me):Bool:=decide (m.params=n.params) && (decide (m.lo=n.lo) && (decide (m.st=n.st) && La oI m.code n.code))
theorem gz(m n:Me):oH m n=true↔m=n:=by
  cases m;cases n;simp [oH,Mz gA]
def XM(x y:Im):Bool:=decide (x.cls=y.cls) && La oH x.ms y.ms
theorem QE{x y:Im}:XM x y=true↔x=y:=by
  cases x;cases y;simp [XM,Mz gz]
theorem Ym{α:Type}{l m:List α}{j:Nat}{x y:α}(hx:l[j]?=some x)(hy:m[j]?=some y)(h:x≠y):l≠m:=fun e=>by
  rw [e,hy] at hx;cases hx;exact h rfl
theorem Pf{α:Type}{l m:List α}{j:Nat}{x:α}(h:l.take j=m.take j)(hx:l[j]?=some x)(hy:m[j]?=some x):l.take (j+1)=m.take (j+1):=by
  rw [List.take_add_one,List.take_add_one,hx,hy,h]
end Go.Proofs.YtcnmnmjmpocepaaGreatDoor.Cd
end
section
namespace Go.Proofs.YtcnmnmjmpocepaaGreatDoor.Cd
open Go.SL
attribute [local irreducible] SL.T Dw DG DE DI Et D0
theorem KK(J:CA)(b1 b2:Option Addr)(n1 n2 c1 c2:Nat)(l1 l2:List Int) [Sl J b1 (l1.map i64)] [Sl J b2 (l2.map i64)](h1:l1.length=n1)(h2:l2.length=n2)(Kp:n1≤9223372036854775807)(MS:n2≤9223372036854775807):
    Dw Tryz.prog 72 [.slice b1 n1 c1,.slice b2 n2 c2] [J] (.bool (decide (l1=l2))):=by
  refine CL Tryz.func72 rfl (Nat.le_of_ble_eq_true rfl) fun F=> ?_
  by_cases hn:n1=n2
  · obtain rfl:=hn
    repeat' (first|apply Cv|refine Ct 0 Cr Ag ?_|refine CY 2 Cr Ax Ab ?_|refine Ct 4 Cr Ae ?_|refine Cu ?_|apply Cw|refine Cy ?_|refine CF ?_|refine CC ?_|apply CB)
    refine C4 (fun j:Nat=> [(0,.slice b1 n1 c1),(1,.slice b2 n1 c2),(5,i64 (j:Int))]) (fun _=> [J]) (fun j=>j≤n1/\l1.take j=l2.take j) (fun j=>n1 - j) 0 (by repeat first|exact Sub.nil _|refine Sub.cons rfl ?_) ⟨Nat.zero_le _,by simp⟩ ?_;rintro j ⟨LV,FF⟩;by_cases hj:j<n1
    · obtain⟨x,hx⟩:∃z,l1[j]?=some z:=⟨_,List.getElem?_eq_getElem Ab⟩;obtain⟨y,hy⟩:∃z,l2[j]?=some z:=⟨_,List.getElem?_eq_getElem Ab⟩;have Sz:((j:Nat):Int).toNat*1<(l1.map i64).length:=by simp;omega
      have MU:((j:Nat):Int).toNat*1<(l2.map i64).length:=by simp;omega
      have hcx:(l1.map i64)[((j:Nat):Int).toNat*1]?=some (i64 x):=by simp [hx]
      have hcy:(l2.map i64)[((j:Nat):Int).toNat*1]?=some (i64 y):=by simp [hy]
      by_cases Jb:x=y
      · subst Jb
        repeat' (first|apply Cv|refine Ct 0 Cr Ag ?_|refine Ct 1 Cr Ao ?_|refine CO 2 Cr A5 Ab ?_|refine CY 2 Cr Ax Ab ?_|refine Ct 3 Cr Bu ?_|refine Ct 4 Cr Ae ?_|refine Cu ?_|refine De Ac Ac rfl ?_|apply Cw|refine Cy ?_|refine CH ?_|refine CF ?_|refine CC ?_|apply CB)
        exact⟨rfl,j+1,CX (by repeat first|exact Sub.nil _|refine Sub.cons rfl ?_),⟨by omega,Pf FF hx hy⟩,by omega⟩
      · repeat' (first|apply Cv|refine Ct 0 Cr Ag ?_|refine CO 2 Cr A5 Ab ?_|refine Ct 3 Cr Bu ?_|refine Ct 4 Cr Ae ?_|refine Cu ?_|refine De Ac Ac rfl ?_|apply Cw|refine Cy ?_|refine CH ?_|refine CC ?_|apply Cz|apply CB|refine CQ ?_|refine C3 ?_)
        refine CS (CD (Cx rfl)) ?_;rw [decide_eq_false (Ym hx hy Jb)]
    · rw [List.take_of_length_le Ab,List.take_of_length_le Ab] at FF
      repeat' (first|apply Cv|refine Ct 0 Cr Ag ?_|refine CY 2 Cr Aj Ab ?_|refine Ct 4 Cr Ae ?_|refine Cu ?_|apply Cw|refine Cy ?_|refine CF ?_|apply Cz|refine C1 ?_)
      refine CS (CD (Cx rfl)) ?_;rw [decide_eq_true FF]
  · repeat' (first|apply Cv|refine Ct 0 Cr Ag ?_|refine CO 2 Cr Ax Ab ?_|refine Ct 4 Cr Ae ?_|refine Cu ?_|apply Cw|refine Cy ?_|refine CH ?_|apply Cz|refine CQ ?_)
    refine CS (CD (Cx rfl)) ?_;rw [decide_eq_false fun e=>hn (by rw [<-h1,<-h2,e])]
theorem Hn (J : CA) (x y:Im)(v w:Value)(hx:IU J x v)(hy:IU J y w):Dw Tryz.prog 39 [v,w] [J] (.bool (XM x y)):=by
  obtain⟨b1,n1,c1,m1,k1,ny,rfl,L9,Wv, -, -⟩:=hx;obtain⟨b2,n2,c2,m2,k2,nv,rfl,L8,RH, -, -⟩:=hy;obtain⟨v1,qT,nZ,h1,Kp,f1⟩:=L9;obtain⟨v2,qS,pU,h2,MS,f2⟩:=L8;obtain⟨u1,qV,sX,g1,td,q1⟩:=Wv;obtain⟨u2,qU,sW,g2,s9,q2⟩:=RH;haveI:=qT;haveI:=qS;haveI:=qV;haveI:=qU;have Sx:x≠y->XM x y=false:=fun h=>gO QE h
  refine CL Tryz.func39 rfl (Nat.le_of_ble_eq_true rfl) fun F=> ?_
  by_cases hn:n1=n2
  · obtain rfl := hn;by_cases hk:k1=k2
    · obtain rfl := hk
      repeat' (first|apply Cv|refine Ct 0 Cr Az ?_|refine CY 2 Cr Ax Ab ?_|refine Ct 3 Cr Af ?_|refine Ct 4 Cr Ae ?_|refine C2 (fun β=> ?_)|refine Cu ?_|apply Cw|refine Cy ?_|refine CF ?_|refine CC ?_|apply CB)
      rename_i ah
      rename Nat=>KJ
      refine C4 (fun j:Nat=> [(2,ptr ah),(3,ptr KJ),(5,i64 (j:Int))]) (fun _=> [CV KJ (.cells ⟨[.slice b2 n1 c2,.slice m2 k1 nv]⟩ 32 (0,0)),CV ah (.cells ⟨[.slice b1 n1 c1,.slice m1 k1 ny]⟩ 32 (0,0)),J]) (fun j=>j≤n1/\x.cls.take j=y.cls.take j) (fun j=>n1 - j) 0 (by repeat first|exact Sub.nil _|refine Sub.cons rfl ?_) ⟨Nat.zero_le _,by simp⟩ ?_;rintro j ⟨LV,FF⟩;by_cases hj:j<n1
      · obtain⟨z,hz⟩:∃z,x.cls[j]?=some z:=⟨_,List.getElem?_eq_getElem Ab⟩;obtain⟨t,ht⟩:∃z,y.cls[j]?=some z:=⟨_,List.getElem?_eq_getElem Ab⟩;obtain⟨xb,xn,xc,ma,nt,oF,rZ⟩:=f1 j z hz;obtain⟨yb,yn,yc,Xq,eg,jB,lJ⟩:=f2 j t ht;haveI:=nt;haveI:=eg;have Sz:((j:Nat):Int).toNat*1<v1.length:=by simp;omega
        have MU:((j:Nat):Int).toNat*1<v2.length:=by simp;omega
        have hcx:v1[((j:Nat):Int).toNat*1]?=some (.slice xb xn xc):=by simpa using ma
        have hcy:v2[((j:Nat):Int).toNat*1]?=some (.slice yb yn yc):=by simpa using Xq
        have hcx0:v1[((j:Nat):Int).toNat*1+0]?=some (.slice xb xn xc):=by simpa using ma
        have hcy0:v2[((j:Nat):Int).toNat*1+0]?=some (.slice yb yn yc):=by simpa using Xq
        have hr:=KK J xb yb xn yn xc yc z t oF jB rZ lJ;by_cases Jb:z=t
        · rw [decide_eq_true Jb] at hr
          subst Jb
          repeat' (first|apply Cv|refine Ct 0 Cr Ap ?_|refine CO 2 Cr Aj Ab ?_|refine Ct 3 Cr Af ?_|refine Ct 4 Cr Ae ?_|refine Cu ?_|apply Cw|refine Cy ?_|refine CH ?_|refine CC ?_|apply CB)
          refine De Ac Ac rfl ?_
          repeat' (first|refine Ct 0 Cr AS ?_|refine Ct 1 Cr Ao ?_|refine Ct 3 Cr AL ?_|refine Ct 4 Cr (CE rfl rfl rfl rfl rfl (hr)) ?_|refine Cu ?_|apply Cw|refine Cy ?_|refine CF ?_|apply CB)
          exact⟨rfl,j+1,CX (by repeat first|exact Sub.nil _|refine Sub.cons rfl ?_),⟨by omega,Pf FF hz ht⟩,by omega⟩
        · rw [decide_eq_false Jb] at hr
          repeat' (first|apply Cv|refine Ct 0 Cr Ap ?_|refine CO 2 Cr Aj Ab ?_|refine Ct 3 Cr Af ?_|refine Ct 4 Cr Ae ?_|refine Cu ?_|apply Cw|refine Cy ?_|refine CH ?_|refine CC ?_|apply CB)
          refine De Ac Ac rfl ?_
          repeat' (first|apply Cv|refine Ct 0 Cr A3 ?_|refine Ct 3 Cr AL ?_|refine Ct 4 Cr (CE rfl rfl rfl rfl rfl (hr)) ?_|refine Cu ?_|apply Cw|refine Cy ?_|refine CH ?_|apply Cz|refine CQ ?_|refine C3 ?_)
          refine CS (CD (Cx rfl)) ?_;rw [Sx fun e=>Ym hz ht Jb (by rw [e])]
      · rw [List.take_of_length_le Ab,List.take_of_length_le Ab] at FF
        repeat' (first|apply Cv|refine Ct 0 Cr Ag ?_|refine CY 2 Cr Aj Ab ?_|refine Ct 3 Cr Af ?_|refine Ct 4 Cr Ae ?_|refine Cu ?_|apply Cw|refine Cy ?_|refine CF ?_|refine CC ?_|refine C1 ?_)
        refine C4 (fun j:Nat=> [(2,ptr ah),(3,ptr KJ),(6,i64 (j:Int))]) (fun _=> [CV KJ (.cells ⟨[.slice b2 n1 c2,.slice m2 k1 nv]⟩ 32 (0,0)),CV ah (.cells ⟨[.slice b1 n1 c1,.slice m1 k1 ny]⟩ 32 (0,0)),J]) (fun j=>j≤k1/\x.ms.take j=y.ms.take j) (fun j=>k1 - j) 0 (by repeat first|exact Sub.nil _|refine Sub.cons rfl ?_) ⟨Nat.zero_le _,by simp⟩ ?_;rintro i ⟨NQ,LW⟩;by_cases hi:i<k1
        · obtain ⟨m,hm⟩:∃z,x.ms[i]?=some z:=⟨_,List.getElem?_eq_getElem Ab⟩;obtain⟨n,hn⟩:∃z,y.ms[i]?=some z:=⟨_,List.getElem?_eq_getElem Ab⟩;obtain⟨pb,pn,pc,cb,cn,cc,a1,a2,a3,a4,a5,a6,a7,a8,a9,th,tg⟩:=q1 i m hm;obtain⟨qb,qn,qc,db,dn,dc,d1,d2,d3,d4,d5,d6,d7,d8,d9,d10,d11⟩:=q2 i n hn;haveI:=a5;haveI:=a8;haveI:=d5;haveI:=d8;have Sz:((i:Nat):Int).toNat*4<u1.length:=by simp;omega
          have MU:((i:Nat):Int).toNat*4<u2.length:=by simp;omega
          have O4:u1[((i:Nat):Int).toNat*4]?=some (.slice pb pn pc):=by simpa using a1
          have jE:u1[((i:Nat):Int).toNat*4+1]?=some (i64 m.lo):=by simpa using a2
          have hx2:u1[((i:Nat):Int).toNat*4+2]?=some (i64 m.st):=by simpa using a3
          have kK:u1[((i:Nat):Int).toNat*4+3]?=some (.slice cb cn cc):=by simpa using a4
          have nX:u2[((i:Nat):Int).toNat*4]?=some (.slice qb qn qc):=by simpa using d1
          have lO:u2[((i:Nat):Int).toNat*4+1]?=some (i64 n.lo):=by simpa using d2
          have ar:u2[((i:Nat):Int).toNat*4+2]?=some (i64 n.st):=by simpa using d3
          have hy3:u2[((i:Nat):Int).toNat*4+3]?=some (.slice db dn dc):=by simpa using d4
          have hr:=KK J pb qb pn qn pc qc m.params n.params a6 d6 a7 d7;have hbad:m≠n->XM x y=false:=fun h=>Sx fun e=>Ym hm hn h (by rw [e])
          repeat' (first|apply Cv|refine Ct 0 Cr Ap ?_|refine CO 2 Cr Aj Ab ?_|refine Ct 3 Cr Af ?_|refine Ct 4 Cr Ae ?_|refine Cu ?_|apply Cw|refine Cy ?_|refine CH ?_|refine CC ?_|apply CB)
          refine C0 [.q [0,1,2,3,4],.f [5],.r [6],.f [7],.r [8,9],.an 10,.an 11,.rv 10,.rv 11,.h true 12,.h true 13] [J,CV KJ (.cells ⟨[.slice b2 n1 c2,.slice m2 k1 nv]⟩ 32 (0,0)),CV ah (.cells ⟨[.slice b1 n1 c1,.slice m1 k1 ny]⟩ 32 (0,0))] Ac Ac Ac Ac ?_
          repeat' (first|apply Cv|refine Ct 0 Cr Ap ?_|refine Ct 3 Cr AZ ?_|refine Cu ?_|refine C5 ?_|refine Dd rfl ?_|refine Fq rfl ?_|refine HW rfl ?_|refine Dn rfl rfl AR ?_|refine DN rfl rfl rfl (fun β=> ?_)|refine Df rfl rfl rfl rfl rfl rfl Aa rfl Aa Aa ?_|apply Cw)
          rename_i FT
          rename Nat=>LY
          by_cases e1:m.params=n.params
          · rw [decide_eq_true e1] at hr
            by_cases e2:m.lo=n.lo
            · by_cases e3:m.st=n.st
              · by_cases e4:cn=dn
                · obtain rfl:=e4
                  repeat' (first|apply Cv|refine Ct 0 Cr AO ?_|refine CY 2 Cr Ax Ab ?_|refine Ct 3 Cr Af ?_|refine Ct 4 Cr Ae ?_|refine Ct 4 Cr (CE rfl rfl rfl rfl rfl (hr)) ?_|refine Cu ?_|apply Cw|refine Cy ?_|refine CF ?_|refine CC ?_|apply CB)
                  refine C4 (fun k:Nat=> [(2,ptr ah),(3,ptr KJ),(6,i64 (i:Int)),(7,ptr FT),(8,ptr LY),(9,i64 (k:Int))])
                    (fun _=> [CV LY (.cells ⟨[.slice qb qn qc,i64 n.lo,i64 n.st,.slice db cn dc]⟩ 66 (0,0)),CV FT (.cells ⟨[.slice pb pn pc,i64 m.lo,i64 m.st,.slice cb cn cc]⟩ 66 (0,0)),CV KJ (.cells ⟨[.slice b2 n1 c2,.slice m2 k1 nv]⟩ 32 (0,0)),CV ah (.cells ⟨[.slice b1 n1 c1,.slice m1 k1 ny]⟩ 32 (0,0)),J])
                    (fun k=>k≤cn/\m.code.take k=n.code.take k) (fun k=>cn - k) 0 (by repeat first|exact Sub.nil _|refine Sub.cons rfl ?_) ⟨Nat.zero_le _,by simp⟩ ?_
                  rintro k ⟨hkk1,hkk2⟩;by_cases hkk:k<cn
                  · obtain⟨z,hz⟩:∃z,m.code[k]?=some z:=⟨_,List.getElem?_eq_getElem Ab⟩;obtain⟨t,ht⟩:∃z,n.code[k]?=some z:=⟨_,List.getElem?_eq_getElem Ab⟩;have VD:((k:Nat):Int).toNat*3<(CZ m.code).length:=by rw [Dc];omega
                    have LK:((k:Nat):Int).toNat*3<(CZ n.code).length:=by rw [Dc];omega
                    obtain⟨y0,y1,y2⟩:=D9 hz;obtain⟨z0,z1,z2⟩:=D9 ht;have r0:(CZ m.code)[((k:Nat):Int).toNat*3]?=some (i64 z.op):=by simpa using y0
                    have r1:(CZ m.code)[((k:Nat):Int).toNat*3+1]?=some (i64 z.a):=by simpa using y1
                    have r2:(CZ m.code)[((k:Nat):Int).toNat*3+2]?=some (i64 z.b):=by simpa using y2
                    have s0:(CZ n.code)[((k:Nat):Int).toNat*3]?=some (i64 t.op):=by simpa using z0
                    have s1:(CZ n.code)[((k:Nat):Int).toNat*3+1]?=some (i64 t.a):=by simpa using z1
                    have s2:(CZ n.code)[((k:Nat):Int).toNat*3+2]?=some (i64 t.b):=by simpa using z2
                    by_cases hzt:z=t
                    · subst hzt
                      repeat' (first|refine M0 rfl rfl rfl (Ip rfl rfl rfl rfl) Am ?_|apply Cv|refine Ct 0 Cr Ag ?_|refine Ct 1 Cr Ao ?_|refine CO 2 Cr Aj Ab ?_|refine Ct 3 Cr Bi ?_|refine Ct 4 Cr Ae ?_|refine Cu ?_|refine De Ac Ac rfl ?_|apply Cw|refine Cy ?_|refine CH ?_|refine CF ?_|refine CC ?_|apply CB)
                      exact⟨rfl,k+1,CX (by repeat first|exact Sub.nil _|refine Sub.cons rfl ?_),⟨by omega,Pf hkk2 hz ht⟩,by omega⟩
                    · have Ns:¬(z.op=t.op/\z.a=t.a/\z.b=t.b):=fun⟨e1,e2,e3⟩=>hzt (by cases z;cases t;simp_all)
                      have hb:(!(decide (z.op=t.op) && (decide (z.a=t.a) && (decide (z.b=t.b) && true))))=true:=by
                        simp only [Bool.and_true,Bool.not_eq_true',Bool.and_eq_false_imp,decide_eq_true_eq,decide_eq_false_iff_not];exact fun e1 e2 e3=>Ns ⟨e1,e2,e3⟩
                      have e:=hbad fun e=>Ym hz ht hzt (by rw [e])
                      repeat' (first|apply Cv|refine Ct 0 Cr Ag ?_|refine CO 2 Cr Aj Ab ?_|refine gk 2 rfl (JU rfl rfl rfl (by exact Ip rfl rfl rfl rfl) Ad ?_)|refine Ct 3 Cr Bi ?_|refine Ct 4 Cr Ae ?_|refine Cu ?_|refine De Ac Ac rfl ?_|apply Cw|refine Cy ?_|refine CH ?_|refine CC ?_|apply Cz|apply CB|refine CQ ?_|refine C3 ?_)
                      refine CS (CD (Cx rfl)) ?_;rw [e]
                  · rw [List.take_of_length_le Ab,List.take_of_length_le Ab] at hkk2
                    have e:m=n:=by cases m;cases n;simp only at e1 e2 e3 hkk2;rw [e1,e2,e3,hkk2]
                    subst e
                    repeat' (first|apply Cv|refine Ct 0 Cr Ag ?_|refine Ct 1 Cr Ao ?_|refine CY 2 Cr Aj Ab ?_|refine Ct 3 Cr Af ?_|refine Ct 4 Cr Ae ?_|refine Cu ?_|apply Cw|refine Cy ?_|refine CF ?_|refine C1 ?_)
                    exact⟨rfl,i+1,CX (by repeat first|exact Sub.nil _|refine Sub.cons rfl ?_),⟨by omega,Pf LW hm hn⟩,by omega⟩
                · have e:=hbad fun e=>e4 (by rw [<-a9,<-d9,e])
                  repeat' (first|apply Cv|refine Ct 0 Cr AO ?_|refine CO 2 Cr Ax Ab ?_|refine CY 2 Cr Ax Ab ?_|refine Ct 3 Cr Af ?_|refine Ct 4 Cr Ae ?_|refine Ct 4 Cr (CE rfl rfl rfl rfl rfl (hr)) ?_|refine Cu ?_|apply Cw|refine Cy ?_|refine CH ?_|apply Cz|refine CQ ?_|refine C3 ?_)
                  refine CS (CD (Cx rfl)) ?_;rw [e]
              · have e:=hbad fun e=>e3 (by rw [e])
                repeat' (first|apply Cv|refine Ct 0 Cr A9 ?_|refine CG 2 Cs ?_|refine CO 2 Cr Ax Ab ?_|refine CY 2 Cr Ax Ab ?_|refine Ct 3 Cr Af ?_|refine CG 3 Cs ?_|refine CG 4 Cs ?_|refine Ct 4 Cr (CE rfl rfl rfl rfl rfl (hr)) ?_|refine Cu ?_|apply Cw|refine Cy ?_|refine CH ?_|apply Cz|refine CQ ?_|refine C3 ?_)
                refine CS (CD (Cx rfl)) ?_;rw [e]
            · have e:=hbad fun e=>e2 (by rw [e])
              repeat' (first|apply Cv|refine Ct 0 Cr A9 ?_|refine CG 2 Cs ?_|refine CO 2 Cr Ax Ab ?_|refine Ct 3 Cr Af ?_|refine CG 3 Cs ?_|refine CG 4 Cs ?_|refine Ct 4 Cr (CE rfl rfl rfl rfl rfl (hr)) ?_|refine Cu ?_|apply Cw|refine Cy ?_|refine CH ?_|apply Cz|refine CQ ?_|refine C3 ?_)
              refine CS (CD (Cx rfl)) ?_;rw [e]
          · rw [decide_eq_false e1] at hr
            have e:=hbad fun e=>e1 (by rw [e])
            repeat' (first|apply Cv|refine Ct 0 Cr Bz ?_|refine CG 2 Cs ?_|refine CG 3 Cs ?_|refine CG 4 Cs ?_|refine Ct 4 Cr (CE rfl rfl rfl rfl rfl (hr)) ?_|refine Cu ?_|apply Cw|refine Cy ?_|refine CH ?_|apply Cz|refine CQ ?_|refine C3 ?_)
            refine CS (CD (Cx rfl)) ?_;rw [e]
        · rw [List.take_of_length_le Ab,List.take_of_length_le Ab] at LW
          repeat' (first|apply Cv|refine Ct 0 Cr Ag ?_|refine CY 2 Cr Aj Ab ?_|refine Ct 3 Cr Af ?_|refine Ct 4 Cr Ae ?_|refine Cu ?_|apply Cw|refine Cy ?_|refine CF ?_|apply Cz|refine C1 ?_)
          refine CS (CD (Cx rfl)) ?_;rw [QE.2 (show x=y by cases x;cases y;simp only at FF LW;rw [FF,LW])]
    · repeat' (first|apply Cv|refine Ct 0 Cr Az ?_|refine CO 2 Cr Ax Ab ?_|refine CY 2 Cr Ax Ab ?_|refine Ct 3 Cr Af ?_|refine Ct 4 Cr Ae ?_|refine C2 (fun β=> ?_)|refine Cu ?_|apply Cw|refine Cy ?_|refine CH ?_|apply Cz|refine CQ ?_)
      refine CS (CD (Cx rfl)) ?_;rw [Sx fun e=>hk (by rw [<-g1,<-g2,e])]
  · repeat' (first|apply Cv|refine Ct 0 Cr Aw ?_|refine CG 2 Cs ?_|refine CO 2 Cr Ax Ab ?_|refine Ct 3 Cr Af ?_|refine CG 3 Cs ?_|refine CG 4 Cs ?_|refine Ct 4 Cr Ae ?_|refine C2 (fun β=> ?_)|refine Cu ?_|apply Cw|refine Cy ?_|refine CH ?_|apply Cz|refine CQ ?_)
    refine CS (CD (Cx rfl)) ?_;rw [Sx fun e=>hn (by rw [<-h1,<-h2,e])]
end Go.Proofs.YtcnmnmjmpocepaaGreatDoor.Cd
end
section
namespace Go.Proofs.YtcnmnmjmpocepaaGreatDoor.Cd
open Go.SL
attribute [local irreducible] SL.T Dw DG DE DI Et D0
def iB(y:Ins):List UInt8:=G9 (G1 y.op) 1++(G9 (G1 y.a) 8++G9 (G1 y.b) 8)
def mB(m:Me):List UInt8:=kB m.params++(G9 (G1 m.lo) 1++(G9 (G1 m.st) 1++(G9 (G1 m.code.length) 2++(m.code.map iB).flatten)))
def Sp(x:Im):List UInt8:= [68,75,1]++(G9 (G1 x.cls.length) 1++((x.cls.map kB).flatten++(G9 (G1 x.ms.length) 1++(x.ms.map mB).flatten)))
theorem ZH(y:Ins):(iB y).length=17:=by simp [iB,Em]
theorem Sj(l:List Int):(kB l).length=1+l.length:=by
  have:∀l:List Int,(l.map fun k=>G9 (G1 k) 1).flatten.length=l.length:=by
    intro l;induction l with
    |nil=>rfl
    |cons a l ih=>simp [Em] at ih ⊢;omega
  simp [kB,Em,this]
theorem NB:∀l:List Ins,(l.map iB).flatten.length=l.length*17
  | []=>rfl
  |y::l=>by simp [ZH,NB l];omega
structure Small(x:Im):Prop where
  cls:x.cls.length≤16
  cl:∀f∈x.cls,f.length≤8
  sR:1≤x.ms.length
  ms:x.ms.length≤32
  me:∀m∈x.ms,m.params.length≤16/\1≤m.code.length/\m.code.length≤256
theorem MZ{x:Im}(h:JK x=true):Small x:=by
  unfold JK at h
  simp only [Bool.and_eq_true,decide_eq_true_eq,Bool.not_eq_true'] at h
  obtain⟨h1,h2,h3,h4,h5⟩:=h;unfold wi at h2
  simp only [decide_eq_true_eq] at h2
  refine⟨by omega,fun f hf=> ?_,by omega,by omega,fun m hm=> ?_⟩
  · have:=List.any_eq_false.1 h4 f hf;simp [Ou,Hh] at this
    omega
  · have:=List.any_eq_false.1 h5 m hm;simp [Nl,GP,Hh,wi] at this
    omega
theorem Small.gJ{x:Im}(h:Small x):∀j,((x.cls.take j).map kB).flatten.length≤j*9:=by
  have:∀l:List (List Int),(∀f∈l,f.length≤8)->(l.map kB).flatten.length≤l.length*9:=by
    intro l;induction l with
    |nil=>intro _;simp
    | cons a l ih=>
      intro hl;have:=ih fun f hf=>hl f (List.mem_cons_of_mem _ hf)
      have:=hl a (List.mem_cons_self ..);simp [Sj] at*
      omega
  intro j;have h1:=this (x.cls.take j) fun f hf=>h.cl f (List.mem_of_mem_take hf)
  have:(x.cls.take j).length*9≤j*9:=Nat.mul_le_mul_right _ As;omega
theorem Small.na{x:Im}(h:Small x):∀j,((x.ms.take j).map mB).flatten.length≤j*5000:=by
  have:∀l:List Me,(∀m∈l,m.params.length≤16/\1≤m.code.length/\m.code.length≤256)->(l.map mB).flatten.length≤l.length*5000:=by
    intro l;induction l with
    |nil=>intro _;simp
    | cons a l ih=>
      intro hl;have:=ih fun f hf=>hl f (List.mem_cons_of_mem _ hf)
      obtain⟨q1,q2,q3⟩:=hl a (List.mem_cons_self ..);have:=NB a.code;simp [Sj,mB,Em] at*
      omega
  intro j;have h1:=this (x.ms.take j) fun f hf=>h.me f (List.mem_of_mem_take hf)
  have:(x.ms.take j).length*5000≤j*5000:=Nat.mul_le_mul_right _ As;omega
structure SQ where
  j:Nat
  len:Nat
  h:CA
  b:Option Addr
  c:Nat
theorem Ul(J:CA)(x:Im)(v:Value)(h:IU J x v):Dw Tryz.prog 30 [v] [J] (if JK x then .tuple ⟨[str (Sp x),i64 0]⟩ else .tuple ⟨[str [],i64 12]⟩):=by
  have hmay:=Zz J x v h;obtain⟨Du,Dr,DP,mb,mn,mc,rfl,hc,hm, -, -⟩:=h;cases hb:JK x with
  | false=>
    rw [hb] at hmay
    refine CL Tryz.func30 rfl (Nat.le_of_ble_eq_true rfl) fun F=> ?_
    repeat' (first|apply Cv|refine Ct 0 Cr B7 ?_|refine Ct 3 Cr AA ?_|refine Ct 4 Cr (CE rfl rfl rfl rfl rfl (hmay)) ?_|refine C2 (fun β=> ?_)|refine Cu ?_|apply Cw|refine Cy ?_|refine CH ?_|apply Cz|refine CQ ?_)
    refine CS (CU (Cx rfl) (Cx rfl)) ?_
    rfl
  | true=>
    rw [hb] at hmay
    have sm:=MZ hb;obtain⟨cv,sc,jU,Jt,l5,iL⟩:=hc;obtain⟨mv,lg,gl,Pr,lW,gm⟩:=hm;haveI:=sc;haveI:=lg;refine CL Tryz.func30 rfl (Nat.le_of_ble_eq_true rfl) fun F=> ?_
    repeat' ((fail_if_success (refine Ep 4 ?_));(first|refine Tn rfl rfl rfl rfl rfl Aa Aa Aa Aa rfl rfl rfl rfl rfl (fun bM=> ?_)|apply Cv|refine Ct 0 Cr B8 ?_|refine Ct 3 Cr AA ?_|refine Ct 4 Cr (CE rfl rfl rfl rfl rfl (hmay)) ?_|refine Ct 5 Cr Aq ?_|refine C2 (fun β=> ?_)|refine Cu ?_|apply Cw|refine Cy ?_|refine CF ?_|apply CB))
    rename_i KJ
    revert β
    intro Ed;have sl0:Sl (CV bM (.cells ⟨[.int .u8 68,.int .u8 75,.int .u8 1]⟩ 5 (3,4))) (some ⟨bM,0,none⟩) (IB [68,75,1]):=Sl.CV;have lb0:LB (CV bM (.cells ⟨[.int .u8 68,.int .u8 75,.int .u8 1]⟩ 5 (3,4))) (some ⟨bM,0,none⟩) 3 3 5 1 (IB [68,75,1]):= .full sl0 rfl rfl Ah;have hp:=Fa Ed Dr 1 lb0 Ah Ah
    repeat' (first|apply Cv|refine Ct 0 Cr Ap ?_|refine Ct 3 Cr Af ?_|refine Ct 4 Cr Ae ?_|(refine gk 4 rfl ?_;(refine CK rfl rfl rfl rfl rfl rfl rfl rfl (hp) ?_;rintro _ _ ⟨h1,b1,c1,rfl,rfl,lb1⟩;refine⟨_,_,rfl,rfl,?_⟩))|refine Cu ?_|apply Cw|refine Cy ?_|refine CC ?_)
    clear hp sl0 lb0;refine C4 (fun s:SQ=> [(1,ptr KJ),(4,ptr Ed),(24,.slice Du Dr DP),(25,i64 (Dr:Int)),(26,i64 (s.j:Int))])
      (fun s=> [J,CV KJ (.cells ⟨[.slice Du Dr DP,.slice mb mn mc]⟩ 32 (0,0)),CV Ed (.cells ⟨[.slice s.b s.len s.c]⟩ 142 (0,0)),s.h])
      (fun s=>s.j≤Dr/\LB s.h s.b s.len s.c 5 1 (IB ([68,75,1]++(G9 (G1 Dr) 1++((x.cls.take s.j).map kB).flatten))))
      (fun s=>Dr - s.j) ⟨0,4,h1,b1,c1⟩ (by repeat first|exact Sub.nil _|refine Sub.cons rfl ?_) ⟨Nat.zero_le _,by simpa using lb1⟩ ?_
    clear lb1 h1 b1 c1;rintro⟨j,len,h,b,cap⟩ ⟨hj,lb⟩;dsimp only at hj lb ⊢
    have hll:=lb.hlen;have hjb:=sm.gJ j;have hc16:=sm.cls;have hlen:len≤1000:=by
      simp only [Mj,List.length_append,Em,List.length_cons,List.length_nil] at hll;omega
    clear hll hjb;by_cases FF:j<Dr
    · obtain⟨f,hf⟩:∃z,x.cls[j]?=some z:=⟨_,List.getElem?_eq_getElem Ab⟩;obtain⟨fb,fn,fc,g1,g2,g3,g4⟩:=iL j f hf;haveI:=g2;have hfl:=sm.cl f (List.mem_of_getElem? hf);have hk:((j:Nat):Int).toNat*1<cv.length:=by simp;omega
      have hcx:cv[((j:Nat):Int).toNat*1]?=some (.slice fb fn fc):=by simpa using g1
      have hp:=OQ J Ed fb fn fc f g3 Ab lb Ab
      repeat' (first|apply Cv|refine Ct 0 Cr Ap ?_|refine Ct 1 Cr Ao ?_|refine CO 2 Cr Aj Ab ?_|refine Ct 3 Cr (by first|exact DU rfl Aa rfl Aa|exact Dg rfl rfl|exact C7 rfl rfl rfl Ab Ab Ab|exact R6 rfl Aa Ai Ad) ?_|(refine gk 4 rfl ?_;(refine CK rfl rfl rfl rfl rfl rfl rfl rfl (hp) ?_;rintro _ _ ⟨h1,b1,c1,rfl,rfl,lb1⟩;refine⟨_,_,rfl,rfl,?_⟩))|refine CT (fun β=> ?_)|refine CN ?_|refine Cu ?_|apply Cw|refine Cy ?_|refine CH ?_|refine CC ?_|apply CB)
      refine⟨rfl,⟨j+1,len+(1+fn),h1,b1,c1⟩,CX (by repeat first|exact Sub.nil _|refine Sub.cons rfl ?_),⟨by dsimp only;omega,?_⟩,by dsimp only;omega⟩;dsimp only;rw [D8 _ hf];simpa only [List.append_assoc] using lb1
    · have e:j=Dr:=by omega
      subst e;rw [List.take_of_length_le Ab] at lb
      obtain⟨pre,ga,OR⟩:∃pre:List UInt8,[68,75,1]++(G9 (G1 (j:Int)) 1++(x.cls.map kB).flatten)=pre/\pre.length≤1000:=⟨_,rfl,by have:=lb.hlen;simp only [Mj] at this;omega⟩;rw [ga] at lb
      have hp:=Fa Ed mn 1 lb Ab Ab;have hm32:=sm.ms
      repeat' (first|apply Cv|refine Ct 0 Cr Ap ?_|refine CY 2 Cr Aj Ab ?_|refine Ct 3 Cr Af ?_|refine Ct 4 Cr Ae ?_|(refine gk 4 rfl ?_;(refine CK rfl rfl rfl rfl rfl rfl rfl rfl (hp) ?_;rintro _ _ ⟨h1,b1,c1,rfl,rfl,lb1⟩;refine⟨_,_,rfl,rfl,?_⟩))|refine Cu ?_|apply Cw|refine Cy ?_|refine CF ?_|refine CC ?_|refine C1 ?_)
      clear hp lb h b cap;refine C4 (fun s:SQ=> [(4,ptr Ed),(41,.slice mb mn mc),(42,i64 (mn:Int)),(43,i64 (s.j:Int))])
        (fun s=> [J,CV Ed (.cells ⟨[.slice s.b s.len s.c]⟩ 142 (0,0)),s.h])
        (fun s=>s.j≤mn/\LB s.h s.b s.len s.c 5 1 (IB (pre++(G9 (G1 mn) 1++((x.ms.take s.j).map mB).flatten))))
        (fun s=>mn - s.j) ⟨0,len+1,h1,b1,c1⟩ (by repeat first|exact Sub.nil _|refine Sub.cons rfl ?_) ⟨Nat.zero_le _,by simpa using lb1⟩ ?_
      clear lb1 h1 b1 c1 hlen len;rintro⟨i,len,h,b,cap⟩ ⟨hi,lb⟩;dsimp only at hi lb ⊢
      have hll:=lb.hlen;have hjb:=sm.na i;have hlen:len≤200000:=by
        simp only [Mj,List.length_append,Em] at hll;omega
      clear hll hjb;by_cases LW:i<mn
      · obtain⟨m,hm⟩:∃z,x.ms[i]?=some z:=⟨_,List.getElem?_eq_getElem Ab⟩;obtain⟨pb,pn,pc,cb,cn,cc,g1,g2,g3,g4,g5,g6,g7,g8,g9,g10,g11⟩:=gm i m hm;haveI:=g5;haveI:=g8;obtain⟨q1,q2,q3⟩:=sm.me m (List.mem_of_getElem? hm);have hk:((i:Nat):Int).toNat*4<mv.length:=by simp;omega
        have hc0:mv[((i:Nat):Int).toNat*4]?=some (.slice pb pn pc):=by simpa using g1
        have L9:mv[((i:Nat):Int).toNat*4+1]?=some (i64 m.lo):=by simpa using g2
        have L8:mv[((i:Nat):Int).toNat*4+2]?=some (i64 m.st):=by simpa using g3
        have jZ:mv[((i:Nat):Int).toNat*4+3]?=some (.slice cb cn cc):=by simpa using g4
        obtain⟨jj,iF⟩:∃jj:List UInt8,pre++(G9 (G1 mn) 1++((x.ms.take i).map mB).flatten)=jj:=⟨_,rfl⟩;rw [iF] at lb
        have hfc:=Dc m.code;have hp:=OQ J Ed pb pn pc m.params g6 Ab lb Ab
        repeat' ((fail_if_success (refine Ep 15 ?_));(first|apply Cv|refine Ct 0 Cr Ap ?_|refine CO 2 Cr Aj Ab ?_|refine Ct 3 Cr AZ ?_|(refine gk 4 rfl ?_;(refine CK rfl rfl rfl rfl rfl rfl rfl rfl (hp) ?_;rintro _ _ ⟨h1,b1,c1,rfl,rfl,lb1⟩;refine⟨_,_,rfl,rfl,?_⟩))|refine CT (fun β=> ?_)|refine CN ?_|refine Cu ?_|apply Cw|refine CH ?_|refine CC ?_|apply CB))
        clear hp lb h b cap;have hp:=Fa Ed m.lo 1 lb1 Ab Ab
        repeat' ((fail_if_success (refine Ep 16 ?_));(first|apply Cv|refine Ct 0 Cr Ap ?_|refine Ct 3 Cr Af ?_|(refine gk 4 rfl ?_;(refine CK rfl rfl rfl rfl rfl rfl rfl rfl (hp) ?_;rintro _ _ ⟨h2,b2,c2,rfl,rfl,lb2⟩;refine⟨_,_,rfl,rfl,?_⟩))|refine Cu ?_|apply Cw))
        clear hp lb1 h1 b1 c1;have hp:=Fa Ed m.st 1 lb2 Ab Ab
        repeat' ((fail_if_success (refine Ep 17 ?_));(first|apply Cv|refine Ct 0 Cr Ap ?_|refine Ct 3 Cr Af ?_|(refine gk 4 rfl ?_;(refine CK rfl rfl rfl rfl rfl rfl rfl rfl (hp) ?_;rintro _ _ ⟨h1,b1,c1,rfl,rfl,lb1⟩;refine⟨_,_,rfl,rfl,?_⟩))|refine Cu ?_|apply Cw))
        clear hp lb2 h2 b2 c2;have hp:=Fa Ed cn 2 lb1 Ab Ab
        repeat' (first|apply Cv|refine Ct 0 Cr Ap ?_|refine Ct 3 Cr Af ?_|refine Ct 4 Cr Ae ?_|(refine gk 4 rfl ?_;(refine CK rfl rfl rfl rfl rfl rfl rfl rfl (hp) ?_;rintro _ _ ⟨h2,b2,c2,rfl,rfl,lb2⟩;refine⟨_,_,rfl,rfl,?_⟩))|refine Cu ?_|apply Cw|refine Cy ?_|refine CC ?_)
        clear hp lb1 h1 b1 c1;refine C4 (fun s:SQ=> [(4,ptr Ed),(41,.slice mb mn mc),(42,i64 (mn:Int)),(43,i64 (i:Int)),(65,.slice cb cn cc),(66,i64 (cn:Int)),(67,i64 (s.j:Int))])
          (fun s=> [J,CV Ed (.cells ⟨[.slice s.b s.len s.c]⟩ 142 (0,0)),s.h])
          (fun s=>s.j≤cn/\s.len≤200100+17*s.j/\LB s.h s.b s.len s.c 5 1 (IB (jj++(kB m.params++(G9 (G1 m.lo) 1++(G9 (G1 m.st) 1++(G9 (G1 cn) 2++((m.code.take s.j).map iB).flatten)))))))
          (fun s=>cn - s.j) ⟨0,len+(1+pn)+1+1+2,h2,b2,c2⟩ (by repeat first|exact Sub.nil _|refine Sub.cons rfl ?_) ⟨Nat.zero_le _,by dsimp only;omega,by simpa [List.append_assoc] using lb2⟩ ?_
        clear lb2 h2 b2 c2 hlen len;rintro⟨k,len,h,b,cap⟩ ⟨hkc,hlen,lb⟩;dsimp only at hkc hlen lb ⊢
        by_cases hkc2:k<cn
        · obtain⟨y,hy⟩:∃z,m.code[k]?=some z:=⟨_,List.getElem?_eq_getElem Ab⟩;obtain⟨w0,w1,w2⟩:=D9 hy;have MU:((k:Nat):Int).toNat*3<(CZ m.code).length:=by simp;omega
          have hw0:(CZ m.code)[((k:Nat):Int).toNat*3]?=some (i64 y.op):=by simpa using w0
          have eh:(CZ m.code)[((k:Nat):Int).toNat*3+1]?=some (i64 y.a):=by simpa using w1
          have iz:(CZ m.code)[((k:Nat):Int).toNat*3+2]?=some (i64 y.b):=by simpa using w2
          have hp:=Fa Ed y.op 1 lb Ab Ab
          repeat' ((fail_if_success (refine Ep 22 ?_));(first|apply Cv|refine Ct 0 Cr Ap ?_|refine CO 2 Cr Aj Ab ?_|refine Ct 3 Cr Bi ?_|(refine gk 4 rfl ?_;(refine CK rfl rfl rfl rfl rfl rfl rfl rfl (hp) ?_;rintro _ _ ⟨h1,b1,c1,rfl,rfl,lb1⟩;refine⟨_,_,rfl,rfl,?_⟩))|refine CT (fun β=> ?_)|refine CN ?_|refine Cu ?_|apply Cw|refine CH ?_|refine CC ?_|apply CB))
          clear hp lb h b cap;have hp:=Fa Ed y.a 8 lb1 Ab Ab
          repeat' ((fail_if_success (refine Ep 23 ?_));(first|apply Cv|refine Ct 0 Cr Ap ?_|refine Ct 3 Cr Af ?_|(refine gk 4 rfl ?_;(refine CK rfl rfl rfl rfl rfl rfl rfl rfl (hp) ?_;rintro _ _ ⟨h2,b2,c2,rfl,rfl,lb2⟩;refine⟨_,_,rfl,rfl,?_⟩))|refine Cu ?_|apply Cw))
          clear hp lb1 h1 b1 c1;have hp:=Fa Ed y.b 8 lb2 Ab Ab
          repeat' (first|refine Ct 0 Cr Ap ?_|refine Ct 1 Cr Ao ?_|(refine gk 4 rfl ?_;(refine CK rfl rfl rfl rfl rfl rfl rfl rfl (hp) ?_;rintro _ _ ⟨h1,b1,c1,rfl,rfl,lb1⟩;refine⟨_,_,rfl,rfl,?_⟩))|refine Cu ?_|apply Cw|refine Cy ?_)
          clear hp lb2 h2 b2 c2;refine⟨rfl,⟨k+1,len+1+8+8,h1,b1,c1⟩,CX (by repeat first|exact Sub.nil _|refine Sub.cons rfl ?_),⟨by dsimp only;omega,by dsimp only;omega,?_⟩,by dsimp only;omega⟩;dsimp only;rw [D8 _ hy,iB];simpa only [List.append_assoc] using lb1
        · rw [List.take_of_length_le Ab] at lb
          repeat' (first|apply Cv|refine Ct 0 Cr Ap ?_|refine Ct 1 Cr Ao ?_|refine CY 2 Cr Aj Ab ?_|refine Cu ?_|apply Cw|refine Cy ?_|refine CF ?_|refine C1 ?_)
          refine⟨rfl,⟨i+1,len,h,b,cap⟩,CX (by repeat first|exact Sub.nil _|refine Sub.cons rfl ?_),⟨by dsimp only;omega,?_⟩,by dsimp only;omega⟩;dsimp only;rw [D8 _ hm,<-List.append_assoc,<-List.append_assoc,List.append_assoc pre,iF,mB,g9];exact lb
      · rw [List.take_of_length_le Ab] at lb
        have ak:=lb.sl;have hlB:(pre++(G9 (G1 mn) 1++(x.ms.map mB).flatten)).length=len:=by have:=lb.hlen;simpa using this
        repeat' (first|refine CW rfl rfl rfl (LC (e:=5) rfl rfl Ai hlB) ?_|apply Cv|refine Ct 0 Cr Ag ?_|refine CY 2 Cr Aj Ab ?_|refine Ct 3 Cr Af ?_|refine Ct 5 Cr Ak ?_|refine Cu ?_|apply Cw|refine Cy ?_|refine CF ?_|apply Cz|refine C1 ?_)
        refine CS (CU (Cx rfl) (Cx rfl)) ?_;rw [if_pos rfl,Sp,Jt,Pr,<-ga];simp [List.append_assoc]
end Go.Proofs.YtcnmnmjmpocepaaGreatDoor.Cd
end
