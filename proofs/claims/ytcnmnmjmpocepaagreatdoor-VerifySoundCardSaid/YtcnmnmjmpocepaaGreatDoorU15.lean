
import Derived.Test.YtcnmnmjmpocepaaGreatDoorU00
import Derived.Test.YtcnmnmjmpocepaaGreatDoorU11
import Derived.Test.YtcnmnmjmpocepaaGreatDoorU14
set_option linter.unusedVariables false
set_option linter.unusedSimpArgs false
set_option linter.unusedSectionVars false
set_option maxRecDepth 100000
set_option maxHeartbeats 16000000
section
namespace Go.Proofs.YtcnmnmjmpocepaaGreatDoor.Cd
open Go.SL
attribute [local irreducible] SL.T C7 Dc C6 Db DS Du
end Go.Proofs.YtcnmnmjmpocepaaGreatDoor.Cd
end
section
namespace Go.Proofs.YtcnmnmjmpocepaaGreatDoor.Cd
open Go.SL
attribute [local irreducible] SL.T C7 Dc C6 Db DS Du
end Go.Proofs.YtcnmnmjmpocepaaGreatDoor.Cd
end
section
namespace Go.Proofs.YtcnmnmjmpocepaaGreatDoor.Cd
open Go.SL
attribute [local irreducible] SL.T C7 Dc C6 Db DS Du
def iB(y:Ins):List UInt8:=Ij (HS y.op) 1++(Ij (HS y.a) 8++Ij (HS y.b) 8)
def mB(m:Me):List UInt8:=kB m.params++(Ij (HS m.lo) 1++(Ij (HS m.st) 1++(Ij (HS m.code.length) 2++(m.code.map iB).flatten)))
def Vq(x:Im):List UInt8:= [68,75,1]++(Ij (HS x.cls.length) 1++((x.cls.map kB).flatten++(Ij (HS x.ms.length) 1++(x.ms.map mB).flatten)))
theorem WC(y:Ins):(iB y).length=17:=by simp [iB,Ed]
theorem PV(l:List Int):(kB l).length=1+l.length:=by
  have:∀l:List Int,(l.map fun k=>Ij (HS k) 1).flatten.length=l.length:=by
    intro l;induction l with
    |nil=>rfl
    |cons a l ih=>simp [Ed] at ih ⊢;omega
  simp [kB,Ed,this]
theorem LO:∀l:List Ins,(l.map iB).flatten.length=l.length*17
  | []=>rfl
  |y::l=>by simp [WC,LO l];omega
structure Small(x:Im):Prop where
  cls:x.cls.length≤16
  cl:∀f∈x.cls,f.length≤8
  nr:1≤x.ms.length
  ms:x.ms.length≤32
  me:∀m∈x.ms,m.params.length≤16/\1≤m.code.length/\m.code.length≤256
theorem RC{x:Im}(h:Pf x=true):Small x:=by
  unfold Pf at h
  simp only [Bool.and_eq_true,decide_eq_true_eq,Bool.not_eq_true'] at h
  obtain⟨h1,h2,h3,h4,h5⟩:=h;unfold wi at h2
  simp only [decide_eq_true_eq] at h2
  refine⟨by omega,fun f hf=> ?_,by omega,by omega,fun m hm=> ?_⟩
  · have:=List.any_eq_false.1 h4 f hf;simp [Pr,HG] at this
    omega
  · have:=List.any_eq_false.1 h5 m hm;simp [Pe,Hp,HG,wi] at this
    omega
theorem Small.fF{x:Im}(h:Small x):∀j,((x.cls.take j).map kB).flatten.length≤j*9:=by
  have:∀l:List (List Int),(∀f∈l,f.length≤8)->(l.map kB).flatten.length≤l.length*9:=by
    intro l;induction l with
    |nil=>intro _;simp
    | cons a l ih=>
      intro hl;have:=ih fun f hf=>hl f (List.mem_cons_of_mem _ hf)
      have:=hl a (List.mem_cons_self ..);simp [PV] at*
      omega
  intro j;have h1:=this (x.cls.take j) fun f hf=>h.cl f (List.mem_of_mem_take hf)
  have:(x.cls.take j).length*9≤j*9:=Nat.mul_le_mul_right _ Aq;omega
theorem Small.jT{x:Im}(h:Small x):∀j,((x.ms.take j).map mB).flatten.length≤j*5000:=by
  have:∀l:List Me,(∀m∈l,m.params.length≤16/\1≤m.code.length/\m.code.length≤256)->(l.map mB).flatten.length≤l.length*5000:=by
    intro l;induction l with
    |nil=>intro _;simp
    | cons a l ih=>
      intro hl;have:=ih fun f hf=>hl f (List.mem_cons_of_mem _ hf)
      obtain⟨q1,q2,q3⟩:=hl a (List.mem_cons_self ..);have:=LO a.code;simp [PV,mB,Ed] at*
      omega
  intro j;have h1:=this (x.ms.take j) fun f hf=>h.me f (List.mem_of_mem_take hf)
  have:(x.ms.take j).length*5000≤j*5000:=Nat.mul_le_mul_right _ Aq;omega
structure SQ where
  j:Nat
  len:Nat
  h:B6
  b:Option Addr
  c:Nat
theorem Rj(J:B6)(x:Im)(v:Value)(h:OQ J x v):C7 Tryz.prog 30 [v] [J] (if Pf x then .tuple ⟨[str (Vq x),i64 0]⟩ else .tuple ⟨[str [],i64 12]⟩):=by
  have hmay:=Wu J x v h;obtain⟨DF,DW,EG,mb,mn,mc,rfl,hc,hm, -, -⟩:=h;cases hb:Pf x with
  | false=>
    rw [hb] at hmay
    refine Ci Tryz.func30 rfl (Nat.le_of_ble_eq_true rfl) fun F=> ?_
    repeat' (first|apply B4|refine B3 0 BY (by first|exact CG rfl rfl|exact El rfl rfl) ?_|refine B3 3 BY Az ?_|refine B3 4 BY (Ca rfl rfl rfl rfl rfl (hmay)) ?_|refine CF (fun β=> ?_)|refine B0 ?_|apply B5|refine B8 ?_|refine Cl ?_|apply Cb|refine Cx ?_)
    refine Cr (Ct (B7 rfl) (B7 rfl)) ?_
    rfl
  | true=>
    rw [hb] at hmay
    have sm:=RC hb;obtain⟨cv,sc,ma,Kl,mf,mg⟩:=hc;obtain⟨mv,lp,lY,SF,lZ,l4⟩:=hm;haveI:=sc;haveI:=lp;refine Ci Tryz.func30 rfl (Nat.le_of_ble_eq_true rfl) fun F=> ?_
    repeat' ((fail_if_success (refine Ea 4 ?_));(first|refine Qr rfl rfl rfl rfl rfl Aa Aa Aa Aa rfl rfl rfl rfl rfl (fun bM=> ?_)|apply B4|refine B3 0 BY BL ?_|refine B3 3 BY Az ?_|refine B3 4 BY (Ca rfl rfl rfl rfl rfl (hmay)) ?_|refine B3 5 BY Ar ?_|refine CF (fun β=> ?_)|refine B0 ?_|apply B5|refine B8 ?_|refine Cg ?_|apply Cc))
    rename_i βx
    revert β
    intro DD;have ca:Sl (Co bM (.cells ⟨[.int .u8 68,.int .u8 75,.int .u8 1]⟩ 5 (3,4))) (some ⟨bM,0,none⟩) (O0 [68,75,1]):=Sl.Co;have lb0:LB (Co bM (.cells ⟨[.int .u8 68,.int .u8 75,.int .u8 1]⟩ 5 (3,4))) (some ⟨bM,0,none⟩) 3 3 5 1 (O0 [68,75,1]):= .full ca rfl rfl Ae;have hp:=Ej DD DW 1 lb0 Ae Ae
    repeat' (first|apply B4|refine B3 0 BY Am ?_|refine B3 3 BY Ah ?_|refine B3 4 BY Ag ?_|(refine gk 4 rfl ?_;(refine B9 rfl rfl rfl rfl rfl rfl rfl rfl (hp) ?_;rintro _ _ ⟨h1,b1,c1,rfl,rfl,lb1⟩;refine⟨_,_,rfl,rfl,?_⟩))|refine B0 ?_|apply B5|refine B8 ?_|refine Cf ?_)
    clear hp ca lb0;refine CH (fun s:SQ=> [(1,ptr βx),(4,ptr DD),(24,.slice DF DW EG),(25,i64 (DW:Int)),(26,i64 (s.j:Int))])
      (fun s=> [J,Co βx (.cells ⟨[.slice DF DW EG,.slice mb mn mc]⟩ 32 (0,0)),Co DD (.cells ⟨[.slice s.b s.len s.c]⟩ 142 (0,0)),s.h])
      (fun s=>s.j≤DW/\LB s.h s.b s.len s.c 5 1 (O0 ([68,75,1]++(Ij (HS DW) 1++((x.cls.take s.j).map kB).flatten))))
      (fun s=>DW - s.j) ⟨0,4,h1,b1,c1⟩ (by repeat first|exact Sub.nil _|refine Sub.cons rfl ?_) ⟨Nat.zero_le _,by simpa using lb1⟩ ?_
    clear lb1 h1 b1 c1;rintro⟨j,len,h,b,cap⟩ ⟨hj,lb⟩;dsimp only at hj lb ⊢
    have hll:=lb.hlen;have hjb:=sm.fF j;have hc16:=sm.cls;have hlen:len≤1000:=by
      simp only [Kv,List.length_append,Ed,List.length_cons,List.length_nil] at hll;omega
    clear hll hjb;by_cases Gs:j<DW
    · obtain⟨f,hf⟩:∃z,x.cls[j]?=some z:=⟨_,List.getElem?_eq_getElem Ab⟩;obtain⟨fb,fn,fc,g1,g2,g3,g4⟩:=mg j f hf;haveI:=g2;have hfl:=sm.cl f (List.mem_of_getElem? hf);have hk:((j:Nat):Int).toNat*1<cv.length:=by simp;omega
      have hcx:cv[((j:Nat):Int).toNat*1]?=some (.slice fb fn fc):=by simpa using g1
      have hp:=MN J DD fb fn fc f g3 Ab lb Ab
      repeat' (first|apply B4|refine B3 0 BY Am ?_|refine B3 1 BY Ap ?_|refine Cs 2 BY Aj Ab ?_|refine B3 3 BY (by first|exact DI rfl Aa rfl Aa|exact CV rfl rfl|exact CD rfl rfl rfl Ab Ab Ab|exact PJ rfl Aa Ai Ad) ?_|(refine gk 4 rfl ?_;(refine B9 rfl rfl rfl rfl rfl rfl rfl rfl (hp) ?_;rintro _ _ ⟨h1,b1,c1,rfl,rfl,lb1⟩;refine⟨_,_,rfl,rfl,?_⟩))|refine Cn (fun β=> ?_)|refine Ck ?_|refine B0 ?_|apply B5|refine B8 ?_|refine Cl ?_|refine Cf ?_|apply Cc)
      refine⟨rfl,⟨j+1,len+(1+fn),h1,b1,c1⟩,CA (by repeat first|exact Sub.nil _|refine Sub.cons rfl ?_),⟨by dsimp only;omega,?_⟩,by dsimp only;omega⟩;dsimp only;rw [FC _ hf];simpa only [List.append_assoc] using lb1
    · have e:j=DW:=by omega
      subst e;rw [List.take_of_length_le Ab] at lb
      obtain⟨pre,ae,OW⟩:∃pre:List UInt8,[68,75,1]++(Ij (HS (j:Int)) 1++(x.cls.map kB).flatten)=pre/\pre.length≤1000:=⟨_,rfl,by have:=lb.hlen;simp only [Kv] at this;omega⟩;rw [ae] at lb
      have hp:=Ej DD mn 1 lb Ab Ab;have hm32:=sm.ms
      repeat' (first|apply B4|refine B3 0 BY Am ?_|refine CE 2 BY Aj Ab ?_|refine B3 3 BY Ah ?_|refine B3 4 BY Ag ?_|(refine gk 4 rfl ?_;(refine B9 rfl rfl rfl rfl rfl rfl rfl rfl (hp) ?_;rintro _ _ ⟨h1,b1,c1,rfl,rfl,lb1⟩;refine⟨_,_,rfl,rfl,?_⟩))|refine B0 ?_|apply B5|refine B8 ?_|refine Cg ?_|refine Cf ?_|refine CC ?_)
      clear hp lb h b cap;refine CH (fun s:SQ=> [(4,ptr DD),(41,.slice mb mn mc),(42,i64 (mn:Int)),(43,i64 (s.j:Int))])
        (fun s=> [J,Co DD (.cells ⟨[.slice s.b s.len s.c]⟩ 142 (0,0)),s.h])
        (fun s=>s.j≤mn/\LB s.h s.b s.len s.c 5 1 (O0 (pre++(Ij (HS mn) 1++((x.ms.take s.j).map mB).flatten))))
        (fun s=>mn - s.j) ⟨0,len+1,h1,b1,c1⟩ (by repeat first|exact Sub.nil _|refine Sub.cons rfl ?_) ⟨Nat.zero_le _,by simpa using lb1⟩ ?_
      clear lb1 h1 b1 c1 hlen len;rintro⟨i,len,h,b,cap⟩ ⟨hi,lb⟩;dsimp only at hi lb ⊢
      have hll:=lb.hlen;have hjb:=sm.jT i;have hlen:len≤200000:=by
        simp only [Kv,List.length_append,Ed] at hll;omega
      clear hll hjb;by_cases TC:i<mn
      · obtain⟨m,hm⟩:∃z,x.ms[i]?=some z:=⟨_,List.getElem?_eq_getElem Ab⟩;obtain⟨pb,pn,pc,cb,cn,cc,g1,g2,g3,g4,g5,g6,g7,g8,g9,g10,g11⟩:=l4 i m hm;haveI:=g5;haveI:=g8;obtain⟨q1,q2,q3⟩:=sm.me m (List.mem_of_getElem? hm);have hk:((i:Nat):Int).toNat*4<mv.length:=by simp;omega
        have hc0:mv[((i:Nat):Int).toNat*4]?=some (.slice pb pn pc):=by simpa using g1
        have P5:mv[((i:Nat):Int).toNat*4+1]?=some (i64 m.lo):=by simpa using g2
        have LD:mv[((i:Nat):Int).toNat*4+2]?=some (i64 m.st):=by simpa using g3
        have dU:mv[((i:Nat):Int).toNat*4+3]?=some (.slice cb cn cc):=by simpa using g4
        obtain⟨ck,bh⟩:∃ck:List UInt8,pre++(Ij (HS mn) 1++((x.ms.take i).map mB).flatten)=ck:=⟨_,rfl⟩;rw [bh] at lb
        have hfc:=CW m.code;have hp:=MN J DD pb pn pc m.params g6 Ab lb Ab
        repeat' ((fail_if_success (refine Ea 15 ?_));(first|apply B4|refine B3 0 BY Am ?_|refine Cs 2 BY Aj Ab ?_|refine B3 3 BY A0 ?_|(refine gk 4 rfl ?_;(refine B9 rfl rfl rfl rfl rfl rfl rfl rfl (hp) ?_;rintro _ _ ⟨h1,b1,c1,rfl,rfl,lb1⟩;refine⟨_,_,rfl,rfl,?_⟩))|refine Cn (fun β=> ?_)|refine Ck ?_|refine B0 ?_|apply B5|refine Cl ?_|refine Cf ?_|apply Cc))
        clear hp lb h b cap;have hp:=Ej DD m.lo 1 lb1 Ab Ab
        repeat' ((fail_if_success (refine Ea 16 ?_));(first|apply B4|refine B3 0 BY Am ?_|refine B3 3 BY Ah ?_|(refine gk 4 rfl ?_;(refine B9 rfl rfl rfl rfl rfl rfl rfl rfl (hp) ?_;rintro _ _ ⟨h2,b2,c2,rfl,rfl,lb2⟩;refine⟨_,_,rfl,rfl,?_⟩))|refine B0 ?_|apply B5))
        clear hp lb1 h1 b1 c1;have hp:=Ej DD m.st 1 lb2 Ab Ab
        repeat' ((fail_if_success (refine Ea 17 ?_));(first|apply B4|refine B3 0 BY Am ?_|refine B3 3 BY Ah ?_|(refine gk 4 rfl ?_;(refine B9 rfl rfl rfl rfl rfl rfl rfl rfl (hp) ?_;rintro _ _ ⟨h1,b1,c1,rfl,rfl,lb1⟩;refine⟨_,_,rfl,rfl,?_⟩))|refine B0 ?_|apply B5))
        clear hp lb2 h2 b2 c2;have hp:=Ej DD cn 2 lb1 Ab Ab
        repeat' (first|apply B4|refine B3 0 BY Am ?_|refine B3 3 BY Ah ?_|refine B3 4 BY Ag ?_|(refine gk 4 rfl ?_;(refine B9 rfl rfl rfl rfl rfl rfl rfl rfl (hp) ?_;rintro _ _ ⟨h2,b2,c2,rfl,rfl,lb2⟩;refine⟨_,_,rfl,rfl,?_⟩))|refine B0 ?_|apply B5|refine B8 ?_|refine Cf ?_)
        clear hp lb1 h1 b1 c1;refine CH (fun s:SQ=> [(4,ptr DD),(41,.slice mb mn mc),(42,i64 (mn:Int)),(43,i64 (i:Int)),(65,.slice cb cn cc),(66,i64 (cn:Int)),(67,i64 (s.j:Int))])
          (fun s=> [J,Co DD (.cells ⟨[.slice s.b s.len s.c]⟩ 142 (0,0)),s.h])
          (fun s=>s.j≤cn/\s.len≤200100+17*s.j/\LB s.h s.b s.len s.c 5 1 (O0 (ck++(kB m.params++(Ij (HS m.lo) 1++(Ij (HS m.st) 1++(Ij (HS cn) 2++((m.code.take s.j).map iB).flatten)))))))
          (fun s=>cn - s.j) ⟨0,len+(1+pn)+1+1+2,h2,b2,c2⟩ (by repeat first|exact Sub.nil _|refine Sub.cons rfl ?_) ⟨Nat.zero_le _,by dsimp only;omega,by simpa [List.append_assoc] using lb2⟩ ?_
        clear lb2 h2 b2 c2 hlen len;rintro⟨k,len,h,b,cap⟩ ⟨hkc,hlen,lb⟩;dsimp only at hkc hlen lb ⊢
        by_cases hkc2:k<cn
        · obtain⟨y,hy⟩:∃z,m.code[k]?=some z:=⟨_,List.getElem?_eq_getElem Ab⟩;obtain⟨w0,w1,w2⟩:=E3 hy;have TB:((k:Nat):Int).toNat*3<(Cp m.code).length:=by simp;omega
          have hw0:(Cp m.code)[((k:Nat):Int).toNat*3]?=some (i64 y.op):=by simpa using w0
          have hw1:(Cp m.code)[((k:Nat):Int).toNat*3+1]?=some (i64 y.a):=by simpa using w1
          have hw2:(Cp m.code)[((k:Nat):Int).toNat*3+2]?=some (i64 y.b):=by simpa using w2
          have hp:=Ej DD y.op 1 lb Ab Ab
          repeat' ((fail_if_success (refine Ea 22 ?_));(first|apply B4|refine B3 0 BY Am ?_|refine Cs 2 BY Aj Ab ?_|refine B3 3 BY (by first|exact DI rfl Aa rfl Aa|exact CV rfl rfl|exact CD rfl rfl rfl Ab Ab Ab|exact Iv rfl Aa Ai Ad Ad Ad) ?_|(refine gk 4 rfl ?_;(refine B9 rfl rfl rfl rfl rfl rfl rfl rfl (hp) ?_;rintro _ _ ⟨h1,b1,c1,rfl,rfl,lb1⟩;refine⟨_,_,rfl,rfl,?_⟩))|refine Cn (fun β=> ?_)|refine Ck ?_|refine B0 ?_|apply B5|refine Cl ?_|refine Cf ?_|apply Cc))
          clear hp lb h b cap;have hp:=Ej DD y.a 8 lb1 Ab Ab
          repeat' ((fail_if_success (refine Ea 23 ?_));(first|apply B4|refine B3 0 BY Am ?_|refine B3 3 BY Ah ?_|(refine gk 4 rfl ?_;(refine B9 rfl rfl rfl rfl rfl rfl rfl rfl (hp) ?_;rintro _ _ ⟨h2,b2,c2,rfl,rfl,lb2⟩;refine⟨_,_,rfl,rfl,?_⟩))|refine B0 ?_|apply B5))
          clear hp lb1 h1 b1 c1;have hp:=Ej DD y.b 8 lb2 Ab Ab
          repeat' (first|refine B3 0 BY Am ?_|refine B3 1 BY Ap ?_|(refine gk 4 rfl ?_;(refine B9 rfl rfl rfl rfl rfl rfl rfl rfl (hp) ?_;rintro _ _ ⟨h1,b1,c1,rfl,rfl,lb1⟩;refine⟨_,_,rfl,rfl,?_⟩))|refine B0 ?_|apply B5|refine B8 ?_)
          clear hp lb2 h2 b2 c2;refine⟨rfl,⟨k+1,len+1+8+8,h1,b1,c1⟩,CA (by repeat first|exact Sub.nil _|refine Sub.cons rfl ?_),⟨by dsimp only;omega,by dsimp only;omega,?_⟩,by dsimp only;omega⟩;dsimp only;rw [FC _ hy,iB];simpa only [List.append_assoc] using lb1
        · rw [List.take_of_length_le Ab] at lb
          repeat' (first|apply B4|refine B3 0 BY Am ?_|refine B3 1 BY Ap ?_|refine CE 2 BY Aj Ab ?_|refine B0 ?_|apply B5|refine B8 ?_|refine Cg ?_|refine CC ?_)
          refine⟨rfl,⟨i+1,len,h,b,cap⟩,CA (by repeat first|exact Sub.nil _|refine Sub.cons rfl ?_),⟨by dsimp only;omega,?_⟩,by dsimp only;omega⟩;dsimp only;rw [FC _ hm,<-List.append_assoc,<-List.append_assoc,List.append_assoc pre,bh,mB,g9];exact lb
      · rw [List.take_of_length_le Ab] at lb
        have dM:=lb.sl;have hlB:(pre++(Ij (HS mn) 1++(x.ms.map mB).flatten)).length=len:=by have:=lb.hlen;simpa using this
        repeat' (first|refine Cq rfl rfl rfl (Wk (e:=5) rfl rfl Ai hlB) ?_|apply B4|refine B3 0 BY Af ?_|refine CE 2 BY Aj Ab ?_|refine B3 3 BY Ah ?_|refine B3 5 BY Al ?_|refine B0 ?_|apply B5|refine B8 ?_|refine Cg ?_|apply Cb|refine CC ?_)
        refine Cr (Ct (B7 rfl) (B7 rfl)) ?_;rw [if_pos rfl,Vq,Kl,SF,<-ae];simp [List.append_assoc]
end Go.Proofs.YtcnmnmjmpocepaaGreatDoor.Cd
end
