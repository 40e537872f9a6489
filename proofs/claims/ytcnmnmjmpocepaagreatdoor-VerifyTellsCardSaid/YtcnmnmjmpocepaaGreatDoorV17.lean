
import Derived.Test.YtcnmnmjmpocepaaGreatDoorV00
import Derived.Test.YtcnmnmjmpocepaaGreatDoorV09
import Derived.Test.YtcnmnmjmpocepaaGreatDoorV16
set_option linter.unusedVariables false
set_option linter.unusedSimpArgs false
set_option linter.unusedSectionVars false
set_option maxRecDepth 100000
set_option maxHeartbeats 16000000
section
namespace Go.Proofs.YtcnmnmjmpocepaaGreatDoor
open Go.SL
open Kd
attribute [local irreducible] SL.T Dw DG DE DI Et D0
theorem JA(own:List CA)(b1 b2:Option Addr)(n1 n2 c1 c2:Nat)(xs ys:List Int) [s1:Ds own b1 (xs.map i64)] [s2:Ds own b2 (ys.map i64)](h1:xs.length=n1)(h2:ys.length=n2)(DO:n1≤9223372036854775807):
    Dw Tryz.prog 75 [.slice b1 n1 c1,.slice b2 n2 c2] own (.bool (decide (xs=ys))):=by
  refine JB fun J hJ=> ?_
  haveI:=s1.all hJ;haveI:=s2.all hJ;by_cases hn:n1=n2
  · subst hn;refine CL Tryz.func75 rfl (Nat.le_of_ble_eq_true rfl) fun F=> ?_
    repeat' (first|apply Cv|refine Ct 0 Cr Ag ?_|refine CY 2 Cr Ax Ab ?_|refine Ct 4 Cr Ae ?_|refine Cu ?_|apply Cw|refine Cy ?_|refine CF ?_|refine CC ?_|apply CB)
    refine C4 (fun j:Nat=> [(0,.slice b1 n1 c1),(1,.slice b2 n1 c2),(5,i64 (j:Int))])
      (fun _=> [J]) (fun j=>j≤n1/\xs.take j=ys.take j) (fun j=>n1 - j) 0 (by repeat first|exact Sub.nil _|refine Sub.cons rfl ?_) ⟨Nat.zero_le _,rfl⟩ ?_
    rintro j ⟨LV,FF⟩;by_cases hj:j<n1
    · obtain⟨x,hx⟩:∃z,xs[j]?=some z:=⟨_,List.getElem?_eq_getElem Ab⟩;obtain⟨y,hy⟩:∃z,ys[j]?=some z:=⟨_,List.getElem?_eq_getElem Ab⟩;have hcx:(xs.map i64)[((j:Nat):Int).toNat*1]?=some (i64 x):=by simp [hx]
      have hcy:(ys.map i64)[((j:Nat):Int).toNat*1]?=some (i64 y):=by simp [hy]
      by_cases Jb:x=y
      · subst Jb
        repeat' (first|apply Cv|refine Ct 0 Cr Ag ?_|refine Ct 1 Cr Ao ?_|refine CO 2 Cr A5 Ab ?_|refine CY 2 Cr Ax Ab ?_|refine Ct 3 Cr AK ?_|refine Ct 4 Cr Ae ?_|refine Cu ?_|refine De Ac Ac rfl ?_|apply Cw|refine Cy ?_|refine CH ?_|refine CF ?_|refine CC ?_|apply CB)
        refine⟨rfl,j+1,CX (by repeat first|exact Sub.nil _|refine Sub.cons rfl ?_),⟨by omega,?_⟩,by omega⟩;rw [List.take_add_one,List.take_add_one,hx,hy,FF]
      · repeat' (first|apply Cv|refine Ct 0 Cr Ag ?_|refine CO 2 Cr A5 Ab ?_|refine Ct 3 Cr AK ?_|refine Ct 4 Cr Ae ?_|refine Cu ?_|refine De Ac Ac rfl ?_|apply Cw|refine Cy ?_|refine CH ?_|refine CC ?_|apply Cz|apply CB|refine CQ ?_|refine C3 ?_)
        refine CJ [J] (CD (Cx rfl)) ⟨?_,rfl⟩;refine congrArg _ (congrArg Value.bool (decide_eq_false fun e=>Jb ?_).symm);rw [e,hy] at hx;cases hx;rfl
    · repeat' (first|apply Cv|refine Ct 0 Cr Ag ?_|refine CY 2 Cr Aj Ab ?_|refine Ct 4 Cr Ae ?_|refine Cu ?_|apply Cw|refine Cy ?_|refine CF ?_|apply Cz|refine C1 ?_)
      rw [List.take_of_length_le Ab,List.take_of_length_le Ab] at FF
      rw [decide_eq_true FF];exact CJ [J] (CD (Cx rfl)) ⟨rfl,rfl⟩
  · have e:decide (xs=ys)=false:=decide_eq_false fun e=>hn (by rw [<-h1,<-h2,e])
    rw [e];refine CL Tryz.func75 rfl (Nat.le_of_ble_eq_true rfl) fun F=> ?_
    repeat' (first|apply Cv|refine Ct 0 Cr Ag ?_|refine CO 2 Cr Ax Ab ?_|refine Ct 4 Cr Ae ?_|refine Cu ?_|apply Cw|refine Cy ?_|refine CH ?_|apply Cz|refine CQ ?_)
    exact CJ [J] (CD (Cx rfl)) ⟨rfl,rfl⟩
theorem Hn(own:List CA)(a b a' b':Option Addr)(n m n' m' c d c' d':Nat)(xs ys Jj LP:List Int) [Ds own a (xs.map i64)] [Ds own b (ys.map i64)] [Ds own a' (Jj.map i64)] [Ds own b' (LP.map i64)]
    (h1:xs.length=n) (h2:ys.length=m) (h3:Jj.length=n') (h4:LP.length=m') (DO:n≤4000000) (RF:m≤4000000):
    Dw Tryz.prog 43 [fr a b n m c d,fr a' b' n' m' c' d'] own (.bool (decide (xs=Jj/\ys=LP))):=by
  refine JB fun J hJ=> ?_
  haveI:=Ds.all ‹Ds own a _› hJ;haveI:=Ds.all ‹Ds own b _› hJ;haveI:=Ds.all ‹Ds own a' _› hJ;haveI:=Ds.all ‹Ds own b' _› hJ;refine CL Tryz.func43 rfl (Nat.le_of_ble_eq_true rfl) fun F=> ?_
  repeat' (first|apply Cv|refine Ct 0 Cr Ay ?_|refine Ct 3 Cr Af ?_|refine CG 3 Cs ?_|refine CG 4 Cs ?_|refine G5 4 Cr (CE rfl rfl rfl rfl rfl (JA [J] _ _ _ _ _ _ xs Jj h1 h3 Ab)) (fun h=> ?_) (fun h=> ?_)|refine G5 4 Cr (CE rfl rfl rfl rfl rfl (JA [J] _ _ _ _ _ _ ys LP h2 h4 Ab)) (fun h=> ?_) (fun h=> ?_)|refine C2 (fun β=> ?_)|refine Cu ?_|apply Cw|refine Cy ?_|apply Cz)
  all_goals
    refine CS (CD (Cx rfl)) ?_;refine congrArg Value.bool ?_
    symm
    first|exact decide_eq_true ⟨by assumption,by assumption⟩|(refine decide_eq_false ?_;rintro⟨rfl,rfl⟩;contradiction)
theorem OJ(own:List CA)(a b:Int):Dw Tryz.prog 128 [i64 a,i64 b] own (.bool (decide (II a b))):=by
  by_cases h1:b= -2
  · rw [decide_eq_true (.inr (.inl h1))];refine CL Tryz.func128 rfl (Nat.le_of_ble_eq_true rfl) fun F=> ?_
    repeat' (first|apply Cv|refine Ct 0 Cr Aw ?_|refine CG 0 Cs ?_|refine CG 2 Cs ?_|refine CO 2 Cr Al Ab ?_|refine Cu ?_|apply Cw|refine Cy ?_|apply Cz)
    refine CS (CD (Cx rfl)) ?_
    rfl
  · by_cases h2:a=b
    · rw [decide_eq_true (.inl h2)];by_cases h3:b= -3
      · by_cases h4:0<a
        · refine CL Tryz.func128 rfl (Nat.le_of_ble_eq_true rfl) fun F=> ?_
          repeat' (first|apply Cv|refine Ct 0 Cr Aw ?_|refine CG 0 Cs ?_|refine CG 2 Cs ?_|refine CO 2 Cr Al Ab ?_|refine Cu ?_|apply Cw|refine Cy ?_|apply Cz)
          refine CS (CD (Cx rfl)) ?_
          rfl
        · refine CL Tryz.func128 rfl (Nat.le_of_ble_eq_true rfl) fun F=> ?_
          repeat' (first|apply Cv|refine Ct 0 Cr Ay ?_|refine CO 2 Cr Ba Ab ?_|refine CY 2 Cr Ba Ab ?_|refine Cu ?_|apply Cw|refine Cy ?_|apply Cz)
          refine CS (CD (Cx rfl)) ?_
          rfl
      · refine CL Tryz.func128 rfl (Nat.le_of_ble_eq_true rfl) fun F=> ?_
        repeat' (first|apply Cv|refine Ct 0 Cr Az ?_|refine CG 0 Cs ?_|refine CG 2 Cs ?_|refine CO 2 Cr Al Ab ?_|refine CY 2 Cr Al Ab ?_|refine Cu ?_|apply Cw|refine Cy ?_|apply Cz)
        refine CS (CD (Cx rfl)) ?_
        rfl
    · by_cases h3:b= -3
      · by_cases h4:0<a
        · rw [decide_eq_true (.inr (.inr ⟨h3,h4⟩))];refine CL Tryz.func128 rfl (Nat.le_of_ble_eq_true rfl) fun F=> ?_
          repeat' (first|apply Cv|refine Ct 0 Cr Ay ?_|refine CG 0 Cs ?_|refine CG 2 Cs ?_|refine CO 2 Cr Ba Ab ?_|refine CY 2 Cr Al Ab ?_|refine Cu ?_|apply Cw|refine Cy ?_|apply Cz)
          refine CS (CD (Cx rfl)) ?_
          rfl
        · rw [decide_eq_false (show ¬II a b by unfold II;omega)];refine CL Tryz.func128 rfl (Nat.le_of_ble_eq_true rfl) fun F=> ?_
          repeat' (first|apply Cv|refine Ct 0 Cr Ay ?_|refine CO 2 Cr Ba Ab ?_|refine CY 2 Cr Ba Ab ?_|refine Cu ?_|apply Cw|refine Cy ?_|apply Cz)
          refine CS (CD (Cx rfl)) ?_
          rfl
      · rw [decide_eq_false (show ¬II a b by unfold II;omega)];refine CL Tryz.func128 rfl (Nat.le_of_ble_eq_true rfl) fun F=> ?_
        repeat' (first|apply Cv|refine Ct 0 Cr Az ?_|refine CG 0 Cs ?_|refine CG 2 Cs ?_|refine CY 2 Cr Al Ab ?_|refine Cu ?_|apply Cw|refine Cy ?_|apply Cz)
        refine CS (CD (Cx rfl)) ?_
        rfl
end Go.Proofs.YtcnmnmjmpocepaaGreatDoor
end
section
namespace Go.Proofs.YtcnmnmjmpocepaaGreatDoor
open Go.SL
open Kd
def N3(im:Im)(m:Me)(loc:List Int)(op a b:Int):Row:=(rowOf im m loc op a b).getD ⟨false,[],[]⟩
def XW(r:Row)(K:CA)(e:Ending)(o:List CA):Prop:=
  ∃N is tb tn tc pb pn pc,o=K::N/\e= .returned (WY is tb tn tc pb pn pc)/\is=r.is/\(is=true->Ds (K::N) tb (r.take.map i64)/\Ds (K::N) pb (r.put.map i64)/\r.take.length=tn/\r.put.length=pn)
abbrev Gi(Du:Option Addr)(Dr DP:Nat)(mb:Option Addr)(mn mc:Nat):Value:= .agg ⟨[.slice Du Dr DP,.slice mb mn mc]⟩
abbrev Zx(pb:Option Addr)(pn pc:Nat)(lo st:Int)(cb:Option Addr)(cn cc:Nat):Value:= .agg ⟨[.slice pb pn pc,i64 lo,i64 st,.slice cb cn cc]⟩
attribute [local irreducible] SL.T Dw DG DE DI Et D0
theorem HE(own:List CA)(Du:Option Addr)(Dr DP:Nat)(mv:Value)(cls:List (List Int))(c:Int)(hl:cls.length=Dr):Dw Tryz.prog 165 [.agg ⟨[.slice Du Dr DP,mv]⟩,i64 c] own (.bool (EZ cls c)):=by
  by_cases h0:0≤c
  · by_cases h1:c<Dr
    · rw [show EZ cls c=true from decide_eq_true Ab];refine CL Tryz.func165 rfl (Nat.le_of_ble_eq_true rfl) fun F=> ?_
      repeat' (first|apply Cv|refine Ct 0 Cr Aw ?_|refine CO 2 Cr Ar Ab ?_|refine Ct 3 Cr Af ?_|refine Ct 4 Cr Ae ?_|refine C2 (fun β=> ?_)|refine Cu ?_|apply Cw|refine Cy ?_|apply Cz)
      refine CS (CD (Cx rfl)) ?_
      rfl
    · rw [show EZ cls c=false from decide_eq_false Ab];refine CL Tryz.func165 rfl (Nat.le_of_ble_eq_true rfl) fun F=> ?_
      repeat' (first|apply Cv|refine Ct 0 Cr Aw ?_|refine CO 2 Cr Ar Ab ?_|refine CY 2 Cr Aj Ab ?_|refine Ct 3 Cr Af ?_|refine Ct 4 Cr Ae ?_|refine C2 (fun β=> ?_)|refine Cu ?_|apply Cw|refine Cy ?_|apply Cz)
      refine CS (CD (Cx rfl)) ?_
      rfl
  · rw [show EZ cls c=false from decide_eq_false Ab];refine CL Tryz.func165 rfl (Nat.le_of_ble_eq_true rfl) fun F=> ?_
    repeat' (first|apply Cv|refine Ct 0 Cr Az ?_|refine CG 0 Cs ?_|refine CG 2 Cs ?_|refine CY 2 Cr AB Ab ?_|refine CG 3 Cs ?_|refine CG 4 Cs ?_|refine C2 (fun β=> ?_)|refine Cu ?_|apply Cw|refine Cy ?_|apply Cz)
    refine CS (CD (Cx rfl)) ?_
    rfl
theorem IM(K:CA)(im:Im)(Du:Option Addr)(Dr DP:Nat)(mb:Option Addr)(mn mc:Nat)(c n:Int)(EP:FY K im.cls Du Dr):
    Dw Tryz.prog 164 [Gi Du Dr DP mb mn mc,i64 c,i64 n] [K] (.tuple #[i64 ((DJ im n c).getD 0),.bool (DJ im n c).isSome]):=by
  obtain⟨C9,h1,h2,h3,h4,h5⟩:=EP;have hc:=HE [K] Du Dr DP (.slice mb mn mc) im.cls c h3;by_cases ES:0≤c/\c<Dr
  · have hin2:EZ im.cls c=true:=decide_eq_true Ab;rw [hin2] at hc
    obtain⟨f,hf⟩:∃f,im.cls[c.toNat]?=some f:=⟨_,List.getElem?_eq_getElem Ab⟩;obtain⟨fb,fn,fc,g1,g2,g3,g4⟩:=h5 _ _ hf;have hk:c.toNat*1<C9.length:=by omega
    have hcv:C9[c.toNat*1]?=some (.slice fb fn fc):=by rw [Nat.mul_one];exact g1
    haveI:=h1;haveI:=g2;by_cases h0:0≤n
    · by_cases hn:n<fn
      · obtain⟨z,hz⟩:∃z,f[n.toNat]?=some z:=⟨_,List.getElem?_eq_getElem Ab⟩;have hr:DJ im n c=some z:=by
          unfold DJ;rw [if_pos hin2,hf];dsimp only;rw [if_pos (show EZ f n=true from decide_eq_true Ab),hz]
        rw [hr];have hcz:(f.map i64)[n.toNat*1]?=some (i64 z):=by simp [hz]
        have Yz:n.toNat*1<(f.map i64).length:=by simp;omega
        refine CL Tryz.func164 rfl (Nat.le_of_ble_eq_true rfl) fun F=> ?_
        repeat' (first|apply Cv|refine Ct 0 Cr AO ?_|refine CY 2 Cr Ar Ab ?_|refine Ct 3 Cr AM ?_|refine Ct 4 Cr Ae ?_|refine Ct 4 Cr (CE rfl rfl rfl rfl rfl (hc)) ?_|refine C2 (fun β=> ?_)|refine Cu ?_|apply Cw|refine Cy ?_|refine CF ?_|apply Cz|apply CB)
        refine CS (CU (Cx rfl) (Cx rfl)) ?_
        rfl
      · have hr:DJ im n c=none:=by
          unfold DJ;rw [if_pos hin2,hf];dsimp only;rw [if_neg (by rw [show EZ f n=false from decide_eq_false Ab];decide)]
        rw [hr];refine CL Tryz.func164 rfl (Nat.le_of_ble_eq_true rfl) fun F=> ?_
        repeat' (first|apply Cv|refine Ct 0 Cr AO ?_|refine CO 2 Cr Ar Ab ?_|refine CY 2 Cr Aj Ab ?_|refine Ct 3 Cr AM ?_|refine Ct 4 Cr Ae ?_|refine Ct 4 Cr (CE rfl rfl rfl rfl rfl (hc)) ?_|refine C2 (fun β=> ?_)|refine Cu ?_|apply Cw|refine Cy ?_|refine CH ?_|apply Cz|refine CQ ?_)
        refine CS (CU (Cx rfl) (Cx rfl)) ?_
        rfl
    · have hr:DJ im n c=none:=by
        unfold DJ;rw [if_pos hin2,hf];dsimp only;rw [if_neg (by rw [show EZ f n=false from decide_eq_false Ab];decide)]
      rw [hr];refine CL Tryz.func164 rfl (Nat.le_of_ble_eq_true rfl) fun F=> ?_
      repeat' (first|apply Cv|refine Ct 0 Cr A9 ?_|refine CG 0 Cs ?_|refine CG 2 Cs ?_|refine CO 2 Cr Aj Ab ?_|refine Ct 3 Cr AW ?_|refine CG 3 Cs ?_|refine CG 4 Cs ?_|refine Ct 4 Cr (CE rfl rfl rfl rfl rfl (hc)) ?_|refine C2 (fun β=> ?_)|refine Cu ?_|apply Cw|refine Cy ?_|refine CH ?_|apply Cz|refine CQ ?_)
      refine CS (CU (Cx rfl) (Cx rfl)) ?_
      rfl
  · have hin2:EZ im.cls c=false:=decide_eq_false Ab;rw [hin2] at hc
    have hr:DJ im n c=none:=by
      unfold DJ;rw [if_neg (by rw [hin2];decide)]
    rw [hr];refine CL Tryz.func164 rfl (Nat.le_of_ble_eq_true rfl) fun F=> ?_
    repeat' (first|apply Cv|refine Ct 0 Cr Bz ?_|refine CG 0 Cs ?_|refine CG 2 Cs ?_|refine Ct 3 Cr AW ?_|refine CG 3 Cs ?_|refine CG 4 Cs ?_|refine Ct 4 Cr (CE rfl rfl rfl rfl rfl (hc)) ?_|refine C2 (fun β=> ?_)|refine Cu ?_|apply Cw|refine Cy ?_|refine CH ?_|apply Cz|refine CQ ?_)
    refine CS (CU (Cx rfl) (Cx rfl)) ?_
    rfl
end Go.Proofs.YtcnmnmjmpocepaaGreatDoor
end
section
namespace Go.Proofs.YtcnmnmjmpocepaaGreatDoor
open Go.SL
open Kd
attribute [local irreducible] SL.T Dw DG DE DI Et D0
theorem gY(K:CA)(im:Im)(m:Me)(loc:List Int)(Du mb pb cb lb sb:Option Addr)(Dr DP mn mc pn pc cn cc ln lc sn sc:Nat)(lo st op a b0:Int)(EP:FY K im.cls Du Dr)(Gq:Hd K im.ms mb mn)(ZR:m.code.length=cn)(NN:Sl K lb (loc.map i64))(hl:loc.length=ln)(RG:op=0∨op=1∨op=2∨op=3∨op=4∨op=5∨op=6∨op=7):
    SL.T Tryz.prog 127 [Gi Du Dr DP mb mn mc,Zx pb pn pc lo st cb cn cc,fr lb sb ln sn lc sc,.agg ⟨[i64 op,i64 a,i64 b0]⟩] [K] (XW (N3 im m loc op a b0) K):=by
  obtain⟨dJ,jY,da,XD,jX,jW⟩:=id EP;obtain⟨U9,XC,jP,jO,jN,cX⟩:=id Gq;haveI:=NN;haveI:=XC;have hclsC:=HE [K] Du Dr DP (.slice mb mn mc) im.cls a XD;have hfld:=IM K im Du Dr DP mb mn mc b0 a EP;have hup:Value.int .i64 (IntKind.i64.wrap (a+1))=i64 (up a):=rfl;refine CM Tryz.func127 rfl (Nat.le_of_ble_eq_true rfl) fun F=> ?_
  repeat' ((fail_if_success (refine Ep 3 ?_));(first|apply Cv|refine Ct 0 Cr Au ?_|refine CP (fun b=> ?_)|refine C2 (fun β=> ?_)|refine CT (fun β=> ?_)|refine Cu ?_|apply Cw))
  obtain⟨bw,rfl⟩:∃x,x=b:=⟨_,rfl⟩;obtain⟨bn,rfl⟩:∃x,x=b:=⟨_,rfl⟩;obtain⟨Pe,rfl⟩:∃x,x=β:=⟨_,rfl⟩;obtain⟨Rg,rfl⟩:∃x,x=β:=⟨_,rfl⟩;obtain⟨JP,rfl⟩:∃x,x=β:=⟨_,rfl⟩;obtain⟨Gr,rfl⟩:∃x,x=β:=⟨_,rfl⟩;obtain⟨EO,rfl⟩:∃x,x=β:=⟨_,rfl⟩;refine Cy ?_;refine Cv ?_;refine Gk (S:=Unit) (fun _=> [(4,.pointer (some ⟨EO,0,none⟩)),(5,.pointer (some ⟨Gr,0,none⟩)),(6,.pointer (some ⟨JP,0,none⟩)),(7,.pointer (some ⟨Rg,0,none⟩)),(8,.pointer (some ⟨Pe,0,none⟩)),(9,.slice (some ⟨bn,0,none⟩) 1 1),(10,.slice (some ⟨bw,0,none⟩) 2 2),(11,.bool (EZ loc a))]) (fun _=> [CV bw (.cells ⟨[i64 0,i64 0]⟩ 79 (0,0)),CV bn (.cells ⟨[i64 0]⟩ 79 (0,0)),CV Pe (.cells ⟨[.bool false,.slice none 0 0,.slice none 0 0]⟩ 219 (0,0)),CV Rg (.cells ⟨[i64 op,i64 a,i64 b0]⟩ 24 (0,0)),CV JP (.cells ⟨[.slice lb ln lc,.slice sb sn sc]⟩ 60 (0,0)),CV Gr (.cells ⟨[.slice pb pn pc,i64 lo,i64 st,.slice cb cn cc]⟩ 66 (0,0)),CV EO (.cells ⟨[.slice Du Dr DP,.slice mb mn mc]⟩ 32 (0,0)),K]) (fun _=>True) ?_ ?_
  · by_cases h0:0≤a
    · by_cases h1:a<ln
      · rw [show EZ loc a=true from decide_eq_true Ab]
        repeat' (first|refine Ct 0 Cr Aw ?_|refine CO 2 Cr Ar Ab ?_|refine Ct 3 Cr Af ?_|refine Ct 4 Cr Ae ?_|refine Cu ?_|apply Cw|refine Cy ?_)
        exact⟨rfl,(),CX (by repeat first|exact Sub.nil _|refine Sub.cons rfl ?_),trivial⟩
      · rw [show EZ loc a=false from decide_eq_false Ab]
        repeat' (first|refine Ct 0 Cr Aw ?_|refine CO 2 Cr Ar Ab ?_|refine CY 2 Cr Aj Ab ?_|refine Ct 3 Cr Af ?_|refine Ct 4 Cr Ae ?_|refine Cu ?_|apply Cw|refine Cy ?_)
        exact⟨rfl,(),CX (by repeat first|exact Sub.nil _|refine Sub.cons rfl ?_),trivial⟩
    · rw [show EZ loc a=false from decide_eq_false Ab]
      repeat' (first|refine Ct 0 Cr Az ?_|refine CG 2 Cs ?_|refine CY 2 Cr AB Ab ?_|refine Ct 3 Cr Af ?_|refine CG 3 Cs ?_|refine CG 4 Cs ?_|refine Cu ?_|apply Cw|refine Cy ?_)
      exact⟨rfl,(),CX (by repeat first|exact Sub.nil _|refine Sub.cons rfl ?_),trivial⟩
  rintro - -;refine Cv ?_;refine Gk (S:=Unit) (fun _=> [(4,.pointer (some ⟨EO,0,none⟩)),(5,.pointer (some ⟨Gr,0,none⟩)),(6,.pointer (some ⟨JP,0,none⟩)),(7,.pointer (some ⟨Rg,0,none⟩)),(8,.pointer (some ⟨Pe,0,none⟩)),(9,.slice (some ⟨bn,0,none⟩) 1 1),(10,.slice (some ⟨bw,0,none⟩) 2 2),(11,.bool (EZ loc a)),(12,.bool (EZ m.code a))]) (fun _=> [CV bw (.cells ⟨[i64 0,i64 0]⟩ 79 (0,0)),CV bn (.cells ⟨[i64 0]⟩ 79 (0,0)),CV Pe (.cells ⟨[.bool false,.slice none 0 0,.slice none 0 0]⟩ 219 (0,0)),CV Rg (.cells ⟨[i64 op,i64 a,i64 b0]⟩ 24 (0,0)),CV JP (.cells ⟨[.slice lb ln lc,.slice sb sn sc]⟩ 60 (0,0)),CV Gr (.cells ⟨[.slice pb pn pc,i64 lo,i64 st,.slice cb cn cc]⟩ 66 (0,0)),CV EO (.cells ⟨[.slice Du Dr DP,.slice mb mn mc]⟩ 32 (0,0)),K]) (fun _=>True) ?_ ?_
  · by_cases h0:0≤a
    · by_cases h1:a<cn
      · rw [show EZ m.code a=true from decide_eq_true Ab]
        repeat' (first|refine Ct 0 Cr Aw ?_|refine CO 2 Cr Ar Ab ?_|refine Ct 3 Cr Af ?_|refine Ct 4 Cr Ae ?_|refine Cu ?_|apply Cw|refine Cy ?_)
        exact⟨rfl,(),CX (by repeat first|exact Sub.nil _|refine Sub.cons rfl ?_),trivial⟩
      · rw [show EZ m.code a=false from decide_eq_false Ab]
        repeat' (first|refine Ct 0 Cr Aw ?_|refine CO 2 Cr Ar Ab ?_|refine CY 2 Cr Aj Ab ?_|refine Ct 3 Cr Af ?_|refine Ct 4 Cr Ae ?_|refine Cu ?_|apply Cw|refine Cy ?_)
        exact⟨rfl,(),CX (by repeat first|exact Sub.nil _|refine Sub.cons rfl ?_),trivial⟩
    · rw [show EZ m.code a=false from decide_eq_false Ab]
      repeat' (first|refine Ct 0 Cr Az ?_|refine CG 2 Cs ?_|refine CY 2 Cr AB Ab ?_|refine Ct 3 Cr Af ?_|refine CG 3 Cs ?_|refine CG 4 Cs ?_|refine Cu ?_|apply Cw|refine Cy ?_)
      exact⟨rfl,(),CX (by repeat first|exact Sub.nil _|refine Sub.cons rfl ?_),trivial⟩
  rintro - -
  repeat' ((fail_if_success (refine Ep 7 ?_));(first|refine CW rfl rfl rfl (Ie rfl rfl rfl) ?_|apply Cv|refine Ct 0 Cr AC ?_|refine Ct 3 Cr AE ?_|refine Ct 4 Cr (CE rfl rfl rfl rfl rfl (hfld)) ?_|refine Cu ?_|apply Cw))
  unfold N3;rcases RG with h|h|h|h|h|h|h|h
  · subst h;have hr:rowOf im m loc 0 a b0=some ⟨true,[],[0]⟩:=rfl;rw [hr]
    repeat' (first|apply Cv|refine Ct 0 Cr Ag ?_|refine CO 2 Cr Al Ab ?_|refine Ct 3 Cr Af ?_|refine Ct 5 Cr Aq ?_|refine CN ?_|refine Cu ?_|apply Cw|refine Cy ?_|refine CH ?_|refine CC ?_|apply Cz|refine CQ ?_|refine C3 ?_)
    exact CJ [K,CV bn (.cells ⟨[i64 0]⟩ 79 (0,0))] (CD (CR rfl rfl rfl rfl)) ⟨[CV bn (.cells ⟨[i64 0]⟩ 79 (0,0))],_,_,_,_,_,_,_,rfl,rfl,rfl,fun _=>⟨EG,⟨CV bn (.cells ⟨[i64 0]⟩ 79 (0,0)),by simp,Sl.CV⟩,rfl,rfl⟩⟩
  · subst h;have hr:rowOf im m loc 1 a b0=some ⟨EZ im.cls a,[],[up a]⟩:=rfl;rw [hr]
    repeat' (first|apply Cv|refine Ct 0 Cr Au ?_|refine CO 2 Cr Al Ab ?_|refine CY 2 Cr Al Ab ?_|refine Ct 3 Cr Af ?_|refine Cu ?_|apply Cw|refine Cy ?_|refine CH ?_|refine CF ?_|refine CC ?_|apply CB)
    refine C0 [.q [0,1,2,3,4,5,6],.an 7,.rv 7,.q [8],.h true 9] [] Ac Ac Ac Ac ?_
    repeat' (first|refine CW rfl rfl rfl (Ie rfl rfl rfl) ?_|refine Ct 3 Cr AE ?_|refine Ct 4 Cr (CE rfl rfl rfl rfl rfl (hclsC)) ?_|refine Ct 5 Cr Aq ?_|refine C5 ?_|refine Dd rfl ?_|refine Dn rfl rfl AU ?_|refine DN rfl rfl rfl (fun β=> ?_)|refine Df rfl rfl rfl rfl rfl rfl Aa rfl Aa Aa ?_|apply Cw|refine Cy ?_|apply Cz|refine CQ ?_|refine C3 ?_)
    exact CJ [K,CV β (.cells ⟨[i64 (up a)]⟩ 79 (0,0))] (CD (CR rfl rfl rfl rfl)) ⟨[CV β (.cells ⟨[i64 (up a)]⟩ 79 (0,0))],_,_,_,_,_,_,_,rfl,rfl,rfl,fun _=>⟨EG,⟨CV β (.cells ⟨[i64 (up a)]⟩ 79 (0,0)),by simp,Sl.CV⟩,rfl,rfl⟩⟩
  · subst h;by_cases ht:0≤a/\a<ln
    · have ES:EZ loc a=true:=decide_eq_true Ab;obtain⟨z,hz⟩:∃z,loc[a.toNat]?=some z:=⟨_,List.getElem?_eq_getElem Ab⟩;have hr:rowOf im m loc 2 a b0=some ⟨true,[],[z]⟩:=by
        show some (Row.mk (EZ loc a) [] [if EZ loc a then loc.getD a.toNat 0 else 0])=_;rw [ES,if_pos rfl,List.getD_eq_getElem?_getD,hz];rfl
      rw [hr];rw [ES] at*
      have hcz:(loc.map i64)[a.toNat*1]?=some (i64 z):=by simp [hz]
      have hk:a.toNat*1<(loc.map i64).length:=by simp;omega
      repeat' (first|apply Cv|refine Ct 0 Cr Ag ?_|refine CO 2 Cr Al Ab ?_|refine CY 2 Cr Al Ab ?_|refine Ct 3 Cr AG ?_|refine Ct 5 Cr Aq ?_|refine CP (fun b=> ?_)|refine CN ?_|refine Cu ?_|apply Cw|refine Cy ?_|refine CH ?_|refine CF ?_|refine CC ?_|apply Cz|refine CQ ?_|refine C3 ?_)
      exact CJ [K,CV b (.cells ⟨[i64 z]⟩ 79 (0,0))] (CD (CR rfl rfl rfl rfl)) ⟨[CV b (.cells ⟨[i64 z]⟩ 79 (0,0))],_,_,_,_,_,_,_,rfl,rfl,rfl,fun _=>⟨EG,⟨CV b (.cells ⟨[i64 z]⟩ 79 (0,0)),by simp,Sl.CV⟩,rfl,rfl⟩⟩
    · have ES:EZ loc a=false:=decide_eq_false Ab;have hr:rowOf im m loc 2 a b0=some ⟨false,[],[0]⟩:=by
        show some (Row.mk (EZ loc a) [] [if EZ loc a then loc.getD a.toNat 0 else 0])=_;rw [ES];rfl
      rw [hr];rw [ES] at*
      repeat' (first|apply Cv|refine Ct 0 Cr Ag ?_|refine CO 2 Cr Al Ab ?_|refine CY 2 Cr Al Ab ?_|refine Ct 3 Cr Af ?_|refine Ct 5 Cr Aq ?_|refine CN ?_|refine Cu ?_|apply Cw|refine Cy ?_|refine CH ?_|refine CF ?_|refine CC ?_|apply Cz|apply CB)
      exact CJ [K] (CD (CR rfl rfl rfl rfl)) ⟨[],_,_,_,_,_,_,_,rfl,rfl,rfl,fun h=>by cases h⟩
  · subst h;have hr:rowOf im m loc 3 a b0=some ⟨EZ loc a,[-2],[]⟩:=rfl;rw [hr]
    repeat' (first|apply Cv|refine Ct 0 Cr Ag ?_|refine CO 2 Cr Al Ab ?_|refine CY 2 Cr Al Ab ?_|refine Ct 3 Cr Af ?_|refine Ct 5 Cr Aq ?_|refine CP (fun b=> ?_)|refine CN ?_|refine Cu ?_|apply Cw|refine Cy ?_|refine CH ?_|refine CF ?_|refine CC ?_|apply Cz|refine CQ ?_|refine C3 ?_)
    exact CJ [K,CV b (.cells ⟨[i64 (-2)]⟩ 79 (0,0))] (CD (CR rfl rfl rfl rfl)) ⟨[CV b (.cells ⟨[i64 (-2)]⟩ 79 (0,0))],_,_,_,_,_,_,_,rfl,rfl,rfl,fun _=>⟨⟨CV b (.cells ⟨[i64 (-2)]⟩ 79 (0,0)),by simp,Sl.CV⟩,EG,rfl,rfl⟩⟩
  · subst h;have hr:rowOf im m loc 4 a b0=some ⟨true,[0,0],[0]⟩:=rfl;rw [hr]
    repeat' (first|apply Cv|refine Ct 0 Cr Ag ?_|refine CO 2 Cr Al Ab ?_|refine CY 2 Cr Al Ab ?_|refine Ct 3 Cr Af ?_|refine Ct 5 Cr Aq ?_|refine CN ?_|refine Cu ?_|apply Cw|refine Cy ?_|refine CH ?_|refine CF ?_|refine CC ?_|apply Cz|apply CB|refine CQ ?_|refine C3 ?_)
    exact CJ [K,CV bw (.cells ⟨[i64 0,i64 0]⟩ 79 (0,0)),CV bn (.cells ⟨[i64 0]⟩ 79 (0,0))] (CD (CR rfl rfl rfl rfl)) ⟨[CV bw (.cells ⟨[i64 0,i64 0]⟩ 79 (0,0)),CV bn (.cells ⟨[i64 0]⟩ 79 (0,0))],_,_,_,_,_,_,_,rfl,rfl,rfl,fun _=>⟨⟨CV bw (.cells ⟨[i64 0,i64 0]⟩ 79 (0,0)),by simp,Sl.CV⟩,⟨CV bn (.cells ⟨[i64 0]⟩ 79 (0,0)),by simp,Sl.CV⟩,rfl,rfl⟩⟩
  · subst h;have hr:rowOf im m loc 5 a b0=some ⟨true,[0,0],[0]⟩:=rfl;rw [hr]
    repeat' (first|apply Cv|refine Ct 0 Cr Ag ?_|refine CO 2 Cr Al Ab ?_|refine CY 2 Cr Al Ab ?_|refine Ct 3 Cr Af ?_|refine Ct 5 Cr Aq ?_|refine CN ?_|refine Cu ?_|apply Cw|refine Cy ?_|refine CH ?_|refine CF ?_|refine CC ?_|apply Cz|refine CQ ?_|refine C3 ?_)
    exact CJ [K,CV bw (.cells ⟨[i64 0,i64 0]⟩ 79 (0,0)),CV bn (.cells ⟨[i64 0]⟩ 79 (0,0))] (CD (CR rfl rfl rfl rfl)) ⟨[CV bw (.cells ⟨[i64 0,i64 0]⟩ 79 (0,0)),CV bn (.cells ⟨[i64 0]⟩ 79 (0,0))],_,_,_,_,_,_,_,rfl,rfl,rfl,fun _=>⟨⟨CV bw (.cells ⟨[i64 0,i64 0]⟩ 79 (0,0)),by simp,Sl.CV⟩,⟨CV bn (.cells ⟨[i64 0]⟩ 79 (0,0)),by simp,Sl.CV⟩,rfl,rfl⟩⟩
  · subst h;have hr:rowOf im m loc 6 a b0=some ⟨EZ m.code a,[],[]⟩:=rfl;rw [hr]
    repeat' (first|apply Cv|refine Ct 0 Cr Ag ?_|refine CO 2 Cr Al Ab ?_|refine CY 2 Cr Al Ab ?_|refine Ct 3 Cr Af ?_|refine Ct 5 Cr Aq ?_|refine CN ?_|refine Cu ?_|apply Cw|refine Cy ?_|refine CH ?_|refine CF ?_|refine CC ?_|apply Cz|refine CQ ?_|refine C3 ?_)
    exact CJ [K] (CD (CR rfl rfl rfl rfl)) ⟨[],_,_,_,_,_,_,_,rfl,rfl,rfl,fun _=>⟨EG,EG,rfl,rfl⟩⟩
  · subst h;have hr:rowOf im m loc 7 a b0=some ⟨EZ m.code a,[0],[]⟩:=rfl;rw [hr]
    repeat' (first|apply Cv|refine Ct 0 Cr Ag ?_|refine CO 2 Cr Al Ab ?_|refine CY 2 Cr Al Ab ?_|refine Ct 3 Cr Af ?_|refine Ct 5 Cr Aq ?_|refine CN ?_|refine Cu ?_|apply Cw|refine Cy ?_|refine CH ?_|refine CF ?_|refine CC ?_|apply Cz|refine CQ ?_|refine C3 ?_)
    exact CJ [K,CV bn (.cells ⟨[i64 0]⟩ 79 (0,0))] (CD (CR rfl rfl rfl rfl)) ⟨[CV bn (.cells ⟨[i64 0]⟩ 79 (0,0))],_,_,_,_,_,_,_,rfl,rfl,rfl,fun _=>⟨⟨CV bn (.cells ⟨[i64 0]⟩ 79 (0,0)),by simp,Sl.CV⟩,EG,rfl,rfl⟩⟩
end Go.Proofs.YtcnmnmjmpocepaaGreatDoor
end
section
namespace Go.Proofs.YtcnmnmjmpocepaaGreatDoor
open Go.SL
open Kd
attribute [local irreducible] SL.T Dw DG DE DI Et D0
theorem gX(K:CA)(im:Im)(m:Me)(loc:List Int)(Du mb pb cb lb sb:Option Addr)(Dr DP mn mc pn pc cn cc ln lc sn sc:Nat)(lo st op a b0:Int)(EP:FY K im.cls Du Dr)(Gq:Hd K im.ms mb mn)(ZR:m.code.length=cn)(NN:Sl K lb (loc.map i64))(hl:loc.length=ln)(RG:op=8∨op=9∨op=10∨op=11∨op=12∨op=13):
    SL.T Tryz.prog 127 [Gi Du Dr DP mb mn mc,Zx pb pn pc lo st cb cn cc,fr lb sb ln sn lc sc,.agg ⟨[i64 op,i64 a,i64 b0]⟩] [K] (XW (N3 im m loc op a b0) K):=by
  obtain⟨dJ,jY,da,XD,jX,jW⟩:=id EP;obtain⟨U9,XC,jP,jO,jN,cX⟩:=id Gq;haveI:=NN;haveI:=XC;have hclsC:=HE [K] Du Dr DP (.slice mb mn mc) im.cls a XD;have hfld:=IM K im Du Dr DP mb mn mc b0 a EP;have hup:Value.int .i64 (IntKind.i64.wrap (a+1))=i64 (up a):=rfl;refine CM Tryz.func127 rfl (Nat.le_of_ble_eq_true rfl) fun F=> ?_
  repeat' ((fail_if_success (refine Ep 3 ?_));(first|apply Cv|refine Ct 0 Cr Au ?_|refine CP (fun b=> ?_)|refine C2 (fun β=> ?_)|refine CT (fun β=> ?_)|refine Cu ?_|apply Cw))
  obtain⟨bw,rfl⟩:∃x,x=b:=⟨_,rfl⟩;obtain⟨bn,rfl⟩:∃x,x=b:=⟨_,rfl⟩;obtain⟨Pe,rfl⟩:∃x,x=β:=⟨_,rfl⟩;obtain⟨Rg,rfl⟩:∃x,x=β:=⟨_,rfl⟩;obtain⟨JP,rfl⟩:∃x,x=β:=⟨_,rfl⟩;obtain⟨Gr,rfl⟩:∃x,x=β:=⟨_,rfl⟩;obtain⟨EO,rfl⟩:∃x,x=β:=⟨_,rfl⟩;refine Cy ?_;refine Cv ?_;refine Gk (S:=Unit) (fun _=> [(4,.pointer (some ⟨EO,0,none⟩)),(5,.pointer (some ⟨Gr,0,none⟩)),(6,.pointer (some ⟨JP,0,none⟩)),(7,.pointer (some ⟨Rg,0,none⟩)),(8,.pointer (some ⟨Pe,0,none⟩)),(9,.slice (some ⟨bn,0,none⟩) 1 1),(10,.slice (some ⟨bw,0,none⟩) 2 2),(11,.bool (EZ loc a))]) (fun _=> [CV bw (.cells ⟨[i64 0,i64 0]⟩ 79 (0,0)),CV bn (.cells ⟨[i64 0]⟩ 79 (0,0)),CV Pe (.cells ⟨[.bool false,.slice none 0 0,.slice none 0 0]⟩ 219 (0,0)),CV Rg (.cells ⟨[i64 op,i64 a,i64 b0]⟩ 24 (0,0)),CV JP (.cells ⟨[.slice lb ln lc,.slice sb sn sc]⟩ 60 (0,0)),CV Gr (.cells ⟨[.slice pb pn pc,i64 lo,i64 st,.slice cb cn cc]⟩ 66 (0,0)),CV EO (.cells ⟨[.slice Du Dr DP,.slice mb mn mc]⟩ 32 (0,0)),K]) (fun _=>True) ?_ ?_
  · by_cases h0:0≤a
    · by_cases h1:a<ln
      · rw [show EZ loc a=true from decide_eq_true Ab]
        repeat' (first|refine Ct 0 Cr Aw ?_|refine CO 2 Cr Ar Ab ?_|refine Ct 3 Cr Af ?_|refine Ct 4 Cr Ae ?_|refine Cu ?_|apply Cw|refine Cy ?_)
        exact⟨rfl,(),CX (by repeat first|exact Sub.nil _|refine Sub.cons rfl ?_),trivial⟩
      · rw [show EZ loc a=false from decide_eq_false Ab]
        repeat' (first|refine Ct 0 Cr Aw ?_|refine CO 2 Cr Ar Ab ?_|refine CY 2 Cr Aj Ab ?_|refine Ct 3 Cr Af ?_|refine Ct 4 Cr Ae ?_|refine Cu ?_|apply Cw|refine Cy ?_)
        exact⟨rfl,(),CX (by repeat first|exact Sub.nil _|refine Sub.cons rfl ?_),trivial⟩
    · rw [show EZ loc a=false from decide_eq_false Ab]
      repeat' (first|refine Ct 0 Cr Az ?_|refine CG 2 Cs ?_|refine CY 2 Cr AB Ab ?_|refine Ct 3 Cr Af ?_|refine CG 3 Cs ?_|refine CG 4 Cs ?_|refine Cu ?_|apply Cw|refine Cy ?_)
      exact⟨rfl,(),CX (by repeat first|exact Sub.nil _|refine Sub.cons rfl ?_),trivial⟩
  rintro - -;refine Cv ?_;refine Gk (S:=Unit) (fun _=> [(4,.pointer (some ⟨EO,0,none⟩)),(5,.pointer (some ⟨Gr,0,none⟩)),(6,.pointer (some ⟨JP,0,none⟩)),(7,.pointer (some ⟨Rg,0,none⟩)),(8,.pointer (some ⟨Pe,0,none⟩)),(9,.slice (some ⟨bn,0,none⟩) 1 1),(10,.slice (some ⟨bw,0,none⟩) 2 2),(11,.bool (EZ loc a)),(12,.bool (EZ m.code a))]) (fun _=> [CV bw (.cells ⟨[i64 0,i64 0]⟩ 79 (0,0)),CV bn (.cells ⟨[i64 0]⟩ 79 (0,0)),CV Pe (.cells ⟨[.bool false,.slice none 0 0,.slice none 0 0]⟩ 219 (0,0)),CV Rg (.cells ⟨[i64 op,i64 a,i64 b0]⟩ 24 (0,0)),CV JP (.cells ⟨[.slice lb ln lc,.slice sb sn sc]⟩ 60 (0,0)),CV Gr (.cells ⟨[.slice pb pn pc,i64 lo,i64 st,.slice cb cn cc]⟩ 66 (0,0)),CV EO (.cells ⟨[.slice Du Dr DP,.slice mb mn mc]⟩ 32 (0,0)),K]) (fun _=>True) ?_ ?_
  · by_cases h0:0≤a
    · by_cases h1:a<cn
      · rw [show EZ m.code a=true from decide_eq_true Ab]
        repeat' (first|refine Ct 0 Cr Aw ?_|refine CO 2 Cr Ar Ab ?_|refine Ct 3 Cr Af ?_|refine Ct 4 Cr Ae ?_|refine Cu ?_|apply Cw|refine Cy ?_)
        exact⟨rfl,(),CX (by repeat first|exact Sub.nil _|refine Sub.cons rfl ?_),trivial⟩
      · rw [show EZ m.code a=false from decide_eq_false Ab]
        repeat' (first|refine Ct 0 Cr Aw ?_|refine CO 2 Cr Ar Ab ?_|refine CY 2 Cr Aj Ab ?_|refine Ct 3 Cr Af ?_|refine Ct 4 Cr Ae ?_|refine Cu ?_|apply Cw|refine Cy ?_)
        exact⟨rfl,(),CX (by repeat first|exact Sub.nil _|refine Sub.cons rfl ?_),trivial⟩
    · rw [show EZ m.code a=false from decide_eq_false Ab]
      repeat' (first|refine Ct 0 Cr Az ?_|refine CG 2 Cs ?_|refine CY 2 Cr AB Ab ?_|refine Ct 3 Cr Af ?_|refine CG 3 Cs ?_|refine CG 4 Cs ?_|refine Cu ?_|apply Cw|refine Cy ?_)
      exact⟨rfl,(),CX (by repeat first|exact Sub.nil _|refine Sub.cons rfl ?_),trivial⟩
  rintro - -
  repeat' ((fail_if_success (refine Ep 7 ?_));(first|refine CW rfl rfl rfl (Ie rfl rfl rfl) ?_|apply Cv|refine Ct 0 Cr AC ?_|refine Ct 3 Cr AE ?_|refine Ct 4 Cr (CE rfl rfl rfl rfl rfl (hfld)) ?_|refine Cu ?_|apply Cw))
  unfold N3;rcases RG with h|h|h|h|h|h
  · subst h;have hr:rowOf im m loc 8 a b0=some ⟨EZ m.code a,[0,0],[]⟩:=rfl;rw [hr]
    repeat' (first|apply Cv|refine Ct 0 Cr Ag ?_|refine CO 2 Cr Al Ab ?_|refine CY 2 Cr Al Ab ?_|refine Ct 3 Cr Af ?_|refine Ct 5 Cr Aq ?_|refine CN ?_|refine Cu ?_|apply Cw|refine Cy ?_|refine CH ?_|refine CF ?_|refine CC ?_|apply Cz|refine CQ ?_|refine C3 ?_)
    exact CJ [K,CV bw (.cells ⟨[i64 0,i64 0]⟩ 79 (0,0))] (CD (CR rfl rfl rfl rfl)) ⟨[CV bw (.cells ⟨[i64 0,i64 0]⟩ 79 (0,0))],_,_,_,_,_,_,_,rfl,rfl,rfl,fun _=>⟨⟨CV bw (.cells ⟨[i64 0,i64 0]⟩ 79 (0,0)),by simp,Sl.CV⟩,EG,rfl,rfl⟩⟩
  · subst h;have hr:rowOf im m loc 9 a b0=some ⟨EZ im.cls a,[],[up a]⟩:=rfl;rw [hr]
    repeat' (first|apply Cv|refine Ct 0 Cr Au ?_|refine CO 2 Cr Al Ab ?_|refine CY 2 Cr Al Ab ?_|refine Ct 3 Cr Af ?_|refine Cu ?_|apply Cw|refine Cy ?_|refine CH ?_|refine CF ?_|refine CC ?_)
    refine C0 [.q [0,1,2,3,4,5,6],.an 7,.rv 7,.q [8],.h true 9] [] Ac Ac Ac Ac ?_
    repeat' (first|refine CW rfl rfl rfl (Ie rfl rfl rfl) ?_|refine Ct 3 Cr AE ?_|refine Ct 4 Cr (CE rfl rfl rfl rfl rfl (hclsC)) ?_|refine Ct 5 Cr Aq ?_|refine C5 ?_|refine Dd rfl ?_|refine Dn rfl rfl AU ?_|refine DN rfl rfl rfl (fun β=> ?_)|refine Df rfl rfl rfl rfl rfl rfl Aa rfl Aa Aa ?_|apply Cw|refine Cy ?_|apply Cz|refine CQ ?_|refine C3 ?_)
    exact CJ [K,CV β (.cells ⟨[i64 (up a)]⟩ 79 (0,0))] (CD (CR rfl rfl rfl rfl)) ⟨[CV β (.cells ⟨[i64 (up a)]⟩ 79 (0,0))],_,_,_,_,_,_,_,rfl,rfl,rfl,fun _=>⟨EG,⟨CV β (.cells ⟨[i64 (up a)]⟩ 79 (0,0)),by simp,Sl.CV⟩,rfl,rfl⟩⟩
  · subst h;have hr:rowOf im m loc 10 a b0=some ⟨(DJ im a b0).isSome,[up b0],[(DJ im a b0).getD 0]⟩:=rfl;rw [hr]
    repeat' (first|apply Cv|refine Ct 0 Cr Ag ?_|refine CO 2 Cr Al Ab ?_|refine CY 2 Cr Al Ab ?_|refine Ct 3 Cr Af ?_|refine Ct 5 Cr Aq ?_|refine CP (fun b=> ?_)|refine CN ?_|refine Cu ?_|apply Cw|refine Cy ?_|refine CH ?_|refine CF ?_|refine CC ?_|apply Cz|refine CQ ?_|refine C3 ?_)
    obtain⟨b4,rfl⟩:∃x,x=b:=⟨_,rfl⟩;obtain⟨b3,rfl⟩:∃x,x=b:=⟨_,rfl⟩;exact CJ [K,CV b3 (.cells ⟨[i64 (up b0)]⟩ 79 (0,0)),CV b4 (.cells ⟨[i64 ((DJ im a b0).getD 0)]⟩ 79 (0,0))] (CD (CR rfl rfl rfl rfl)) ⟨[CV b3 (.cells ⟨[i64 (up b0)]⟩ 79 (0,0)),CV b4 (.cells ⟨[i64 ((DJ im a b0).getD 0)]⟩ 79 (0,0))],_,_,_,_,_,_,_,rfl,rfl,rfl,fun _=>⟨⟨CV b3 (.cells ⟨[i64 (up b0)]⟩ 79 (0,0)),by simp,Sl.CV⟩,⟨CV b4 (.cells ⟨[i64 ((DJ im a b0).getD 0)]⟩ 79 (0,0)),by simp,Sl.CV⟩,rfl,rfl⟩⟩
  · subst h;have hr:rowOf im m loc 11 a b0=some ⟨(DJ im a b0).isSome,[up b0,(DJ im a b0).getD 0],[]⟩:=rfl;rw [hr]
    repeat' (first|apply Cv|refine Ct 0 Cr Ag ?_|refine CO 2 Cr Al Ab ?_|refine CY 2 Cr Al Ab ?_|refine Ct 3 Cr Af ?_|refine Ct 5 Cr Aq ?_|refine CP (fun b=> ?_)|refine CN ?_|refine Cu ?_|apply Cw|refine Cy ?_|refine CH ?_|refine CF ?_|refine CC ?_|apply Cz|refine CQ ?_|refine C3 ?_)
    exact CJ [K,CV b (.cells ⟨[i64 (up b0),i64 ((DJ im a b0).getD 0)]⟩ 79 (0,0))] (CD (CR rfl rfl rfl rfl)) ⟨[CV b (.cells ⟨[i64 (up b0),i64 ((DJ im a b0).getD 0)]⟩ 79 (0,0))],_,_,_,_,_,_,_,rfl,rfl,rfl,fun _=>⟨⟨CV b (.cells ⟨[i64 (up b0),i64 ((DJ im a b0).getD 0)]⟩ 79 (0,0)),by simp,Sl.CV⟩,EG,rfl,rfl⟩⟩
  · subst h;have hr:rowOf im m loc 12 a b0=some ⟨true,[-3],[]⟩:=rfl;rw [hr]
    repeat' (first|apply Cv|refine Ct 0 Cr Au ?_|refine CO 2 Cr Al Ab ?_|refine CY 2 Cr Al Ab ?_|refine Ct 3 Cr Af ?_|refine Ct 5 Cr Aq ?_|refine CP (fun b=> ?_)|refine CN ?_|refine Cu ?_|apply Cw|refine Cy ?_|refine CH ?_|refine CF ?_|refine CC ?_|apply Cz|apply CB|refine CQ ?_|refine C3 ?_)
    exact CJ [K,CV b (.cells ⟨[i64 (-3)]⟩ 79 (0,0))] (CD (CR rfl rfl rfl rfl)) ⟨[CV b (.cells ⟨[i64 (-3)]⟩ 79 (0,0))],_,_,_,_,_,_,_,rfl,rfl,rfl,fun _=>⟨⟨CV b (.cells ⟨[i64 (-3)]⟩ 79 (0,0)),by simp,Sl.CV⟩,EG,rfl,rfl⟩⟩
  · subst h;have hr:rowOf im m loc 13 a b0=some ⟨true,[-3],[]⟩:=rfl;rw [hr]
    repeat' (first|apply Cv|refine Ct 0 Cr Au ?_|refine CO 2 Cr Al Ab ?_|refine CY 2 Cr Al Ab ?_|refine Ct 3 Cr Af ?_|refine Ct 5 Cr Aq ?_|refine CP (fun b=> ?_)|refine CN ?_|refine Cu ?_|apply Cw|refine Cy ?_|refine CH ?_|refine CF ?_|refine CC ?_|apply Cz|apply CB|refine CQ ?_|refine C3 ?_)
    exact CJ [K,CV b (.cells ⟨[i64 (-3)]⟩ 79 (0,0))] (CD (CR rfl rfl rfl rfl)) ⟨[CV b (.cells ⟨[i64 (-3)]⟩ 79 (0,0))],_,_,_,_,_,_,_,rfl,rfl,rfl,fun _=>⟨⟨CV b (.cells ⟨[i64 (-3)]⟩ 79 (0,0)),by simp,Sl.CV⟩,EG,rfl,rfl⟩⟩
end Go.Proofs.YtcnmnmjmpocepaaGreatDoor
end
section
namespace Go.Proofs.YtcnmnmjmpocepaaGreatDoor
open Go.SL
open Kd
attribute [local irreducible] SL.T Dw DG DE DI Et D0
theorem gW(K:CA)(im:Im)(m:Me)(loc:List Int)(Du mb pb cb lb sb:Option Addr)(Dr DP mn mc pn pc cn cc ln lc sn sc:Nat)(lo st op a b0:Int)(EP:FY K im.cls Du Dr)(Gq:Hd K im.ms mb mn)(ZR:m.code.length=cn)(NN:Sl K lb (loc.map i64))(hl:loc.length=ln)(RG:op=14∨op=15∨op=16∨op=17):
    SL.T Tryz.prog 127 [Gi Du Dr DP mb mn mc,Zx pb pn pc lo st cb cn cc,fr lb sb ln sn lc sc,.agg ⟨[i64 op,i64 a,i64 b0]⟩] [K] (XW (N3 im m loc op a b0) K):=by
  obtain⟨dJ,jY,da,XD,jX,jW⟩:=id EP;obtain⟨U9,XC,jP,jO,jN,cX⟩:=id Gq;haveI:=NN;haveI:=XC;have hclsC:=HE [K] Du Dr DP (.slice mb mn mc) im.cls a XD;have hfld:=IM K im Du Dr DP mb mn mc b0 a EP;have hup:Value.int .i64 (IntKind.i64.wrap (a+1))=i64 (up a):=rfl;refine CM Tryz.func127 rfl (Nat.le_of_ble_eq_true rfl) fun F=> ?_
  repeat' ((fail_if_success (refine Ep 3 ?_));(first|apply Cv|refine Ct 0 Cr Au ?_|refine CP (fun b=> ?_)|refine C2 (fun β=> ?_)|refine CT (fun β=> ?_)|refine Cu ?_|apply Cw))
  obtain⟨bw,rfl⟩:∃x,x=b:=⟨_,rfl⟩;obtain⟨bn,rfl⟩:∃x,x=b:=⟨_,rfl⟩;obtain⟨Pe,rfl⟩:∃x,x=β:=⟨_,rfl⟩;obtain⟨Rg,rfl⟩:∃x,x=β:=⟨_,rfl⟩;obtain⟨JP,rfl⟩:∃x,x=β:=⟨_,rfl⟩;obtain⟨Gr,rfl⟩:∃x,x=β:=⟨_,rfl⟩;obtain⟨EO,rfl⟩:∃x,x=β:=⟨_,rfl⟩;refine Cy ?_;refine Cv ?_;refine Gk (S:=Unit) (fun _=> [(4,.pointer (some ⟨EO,0,none⟩)),(5,.pointer (some ⟨Gr,0,none⟩)),(6,.pointer (some ⟨JP,0,none⟩)),(7,.pointer (some ⟨Rg,0,none⟩)),(8,.pointer (some ⟨Pe,0,none⟩)),(9,.slice (some ⟨bn,0,none⟩) 1 1),(10,.slice (some ⟨bw,0,none⟩) 2 2),(11,.bool (EZ loc a))]) (fun _=> [CV bw (.cells ⟨[i64 0,i64 0]⟩ 79 (0,0)),CV bn (.cells ⟨[i64 0]⟩ 79 (0,0)),CV Pe (.cells ⟨[.bool false,.slice none 0 0,.slice none 0 0]⟩ 219 (0,0)),CV Rg (.cells ⟨[i64 op,i64 a,i64 b0]⟩ 24 (0,0)),CV JP (.cells ⟨[.slice lb ln lc,.slice sb sn sc]⟩ 60 (0,0)),CV Gr (.cells ⟨[.slice pb pn pc,i64 lo,i64 st,.slice cb cn cc]⟩ 66 (0,0)),CV EO (.cells ⟨[.slice Du Dr DP,.slice mb mn mc]⟩ 32 (0,0)),K]) (fun _=>True) ?_ ?_
  · by_cases h0:0≤a
    · by_cases h1:a<ln
      · rw [show EZ loc a=true from decide_eq_true Ab]
        repeat' (first|refine Ct 0 Cr Aw ?_|refine CO 2 Cr Ar Ab ?_|refine Ct 3 Cr Af ?_|refine Ct 4 Cr Ae ?_|refine Cu ?_|apply Cw|refine Cy ?_)
        exact⟨rfl,(),CX (by repeat first|exact Sub.nil _|refine Sub.cons rfl ?_),trivial⟩
      · rw [show EZ loc a=false from decide_eq_false Ab]
        repeat' (first|refine Ct 0 Cr Aw ?_|refine CO 2 Cr Ar Ab ?_|refine CY 2 Cr Aj Ab ?_|refine Ct 3 Cr Af ?_|refine Ct 4 Cr Ae ?_|refine Cu ?_|apply Cw|refine Cy ?_)
        exact⟨rfl,(),CX (by repeat first|exact Sub.nil _|refine Sub.cons rfl ?_),trivial⟩
    · rw [show EZ loc a=false from decide_eq_false Ab]
      repeat' (first|refine Ct 0 Cr Az ?_|refine CG 2 Cs ?_|refine CY 2 Cr AB Ab ?_|refine Ct 3 Cr Af ?_|refine CG 3 Cs ?_|refine CG 4 Cs ?_|refine Cu ?_|apply Cw|refine Cy ?_)
      exact⟨rfl,(),CX (by repeat first|exact Sub.nil _|refine Sub.cons rfl ?_),trivial⟩
  rintro - -;refine Cv ?_;refine Gk (S:=Unit) (fun _=> [(4,.pointer (some ⟨EO,0,none⟩)),(5,.pointer (some ⟨Gr,0,none⟩)),(6,.pointer (some ⟨JP,0,none⟩)),(7,.pointer (some ⟨Rg,0,none⟩)),(8,.pointer (some ⟨Pe,0,none⟩)),(9,.slice (some ⟨bn,0,none⟩) 1 1),(10,.slice (some ⟨bw,0,none⟩) 2 2),(11,.bool (EZ loc a)),(12,.bool (EZ m.code a))]) (fun _=> [CV bw (.cells ⟨[i64 0,i64 0]⟩ 79 (0,0)),CV bn (.cells ⟨[i64 0]⟩ 79 (0,0)),CV Pe (.cells ⟨[.bool false,.slice none 0 0,.slice none 0 0]⟩ 219 (0,0)),CV Rg (.cells ⟨[i64 op,i64 a,i64 b0]⟩ 24 (0,0)),CV JP (.cells ⟨[.slice lb ln lc,.slice sb sn sc]⟩ 60 (0,0)),CV Gr (.cells ⟨[.slice pb pn pc,i64 lo,i64 st,.slice cb cn cc]⟩ 66 (0,0)),CV EO (.cells ⟨[.slice Du Dr DP,.slice mb mn mc]⟩ 32 (0,0)),K]) (fun _=>True) ?_ ?_
  · by_cases h0:0≤a
    · by_cases h1:a<cn
      · rw [show EZ m.code a=true from decide_eq_true Ab]
        repeat' (first|refine Ct 0 Cr Aw ?_|refine CO 2 Cr Ar Ab ?_|refine Ct 3 Cr Af ?_|refine Ct 4 Cr Ae ?_|refine Cu ?_|apply Cw|refine Cy ?_)
        exact⟨rfl,(),CX (by repeat first|exact Sub.nil _|refine Sub.cons rfl ?_),trivial⟩
      · rw [show EZ m.code a=false from decide_eq_false Ab]
        repeat' (first|refine Ct 0 Cr Aw ?_|refine CO 2 Cr Ar Ab ?_|refine CY 2 Cr Aj Ab ?_|refine Ct 3 Cr Af ?_|refine Ct 4 Cr Ae ?_|refine Cu ?_|apply Cw|refine Cy ?_)
        exact⟨rfl,(),CX (by repeat first|exact Sub.nil _|refine Sub.cons rfl ?_),trivial⟩
    · rw [show EZ m.code a=false from decide_eq_false Ab]
      repeat' (first|refine Ct 0 Cr Az ?_|refine CG 2 Cs ?_|refine CY 2 Cr AB Ab ?_|refine Ct 3 Cr Af ?_|refine CG 3 Cs ?_|refine CG 4 Cs ?_|refine Cu ?_|apply Cw|refine Cy ?_)
      exact⟨rfl,(),CX (by repeat first|exact Sub.nil _|refine Sub.cons rfl ?_),trivial⟩
  rintro - -
  repeat' ((fail_if_success (refine Ep 7 ?_));(first|refine CW rfl rfl rfl (Ie rfl rfl rfl) ?_|apply Cv|refine Ct 0 Cr AC ?_|refine Ct 3 Cr AE ?_|refine Ct 4 Cr (CE rfl rfl rfl rfl rfl (hfld)) ?_|refine Cu ?_|apply Cw))
  unfold N3;rcases RG with h|h|h|h
  · subst h;have hr:rowOf im m loc 14 a b0=some ⟨true,[-3],[0]⟩:=rfl;rw [hr]
    repeat' (first|apply Cv|refine Ct 0 Cr Ag ?_|refine CO 2 Cr Al Ab ?_|refine CY 2 Cr Al Ab ?_|refine Ct 3 Cr Af ?_|refine Ct 5 Cr Aq ?_|refine CP (fun b=> ?_)|refine CN ?_|refine Cu ?_|apply Cw|refine Cy ?_|refine CH ?_|refine CF ?_|refine CC ?_|apply Cz|refine CQ ?_|refine C3 ?_)
    exact CJ [K,CV b (.cells ⟨[i64 (-3)]⟩ 79 (0,0)),CV bn (.cells ⟨[i64 0]⟩ 79 (0,0))] (CD (CR rfl rfl rfl rfl)) ⟨[CV b (.cells ⟨[i64 (-3)]⟩ 79 (0,0)),CV bn (.cells ⟨[i64 0]⟩ 79 (0,0))],_,_,_,_,_,_,_,rfl,rfl,rfl,fun _=>⟨⟨CV b (.cells ⟨[i64 (-3)]⟩ 79 (0,0)),by simp,Sl.CV⟩,⟨CV bn (.cells ⟨[i64 0]⟩ 79 (0,0)),by simp,Sl.CV⟩,rfl,rfl⟩⟩
  · subst h;have hr:rowOf im m loc 15 a b0=some ⟨true,[-3],[]⟩:=rfl;rw [hr]
    repeat' (first|apply Cv|refine Ct 0 Cr Au ?_|refine CO 2 Cr Al Ab ?_|refine CY 2 Cr Al Ab ?_|refine Ct 3 Cr Af ?_|refine Ct 5 Cr Aq ?_|refine CP (fun b=> ?_)|refine CN ?_|refine Cu ?_|apply Cw|refine Cy ?_|refine CH ?_|refine CF ?_|refine CC ?_|apply Cz|apply CB|refine CQ ?_|refine C3 ?_)
    exact CJ [K,CV b (.cells ⟨[i64 (-3)]⟩ 79 (0,0))] (CD (CR rfl rfl rfl rfl)) ⟨[CV b (.cells ⟨[i64 (-3)]⟩ 79 (0,0))],_,_,_,_,_,_,_,rfl,rfl,rfl,fun _=>⟨⟨CV b (.cells ⟨[i64 (-3)]⟩ 79 (0,0)),by simp,Sl.CV⟩,EG,rfl,rfl⟩⟩
  · subst h;have hr:rowOf im m loc 16 a b0=some ⟨true,[-3],[]⟩:=rfl;rw [hr]
    repeat' (first|apply Cv|refine Ct 0 Cr Au ?_|refine CO 2 Cr Al Ab ?_|refine CY 2 Cr Al Ab ?_|refine Ct 3 Cr Af ?_|refine Ct 5 Cr Aq ?_|refine CP (fun b=> ?_)|refine CN ?_|refine Cu ?_|apply Cw|refine Cy ?_|refine CH ?_|refine CF ?_|refine CC ?_|apply Cz|refine CQ ?_|refine C3 ?_)
    exact CJ [K,CV b (.cells ⟨[i64 (-3)]⟩ 79 (0,0))] (CD (CR rfl rfl rfl rfl)) ⟨[CV b (.cells ⟨[i64 (-3)]⟩ 79 (0,0))],_,_,_,_,_,_,_,rfl,rfl,rfl,fun _=>⟨⟨CV b (.cells ⟨[i64 (-3)]⟩ 79 (0,0)),by simp,Sl.CV⟩,EG,rfl,rfl⟩⟩
  · subst h;by_cases ht:0≤a/\a<mn
    · obtain⟨m',O5⟩:∃z,im.ms[a.toNat]?=some z:=⟨_,List.getElem?_eq_getElem Ab⟩;have hr:rowOf im m loc 17 a b0=some ⟨true,m'.params,[0]⟩:=by
        show some (Row.mk (EM im a).isSome ((EM im a).getD []) [0])=_;have:EM im a=some m'.params:=by unfold EM;rw [if_pos (show EZ im.ms a=true from decide_eq_true Ab),O5];rfl
        rw [this];rfl
      rw [hr];obtain⟨qb,qn,qc,eb,en,ec,g1,g2,g3,g4,g5,g6,g7,g8,g9,g10⟩:=cX _ _ O5;have hkm:a.toNat*4<U9.length:=by omega
      have E6:a<((mn:Nat):Int):=by omega
      repeat' (first|apply Cv|refine Ct 0 Cr Aw ?_|refine CO 2 Cr Bb Ab ?_|refine CY 2 Cr Al Ab ?_|refine Ct 3 Cr AL ?_|refine Ct 4 Cr Ae ?_|refine Ct 5 Cr Aq ?_|refine CN ?_|refine Cu ?_|apply Cw|refine Cy ?_|refine CH ?_|refine CF ?_|refine CC ?_|apply Cz|apply CB|refine CQ ?_|refine C3 ?_)
      exact CJ [K,CV bn (.cells ⟨[i64 0]⟩ 79 (0,0))] (CD (CR rfl rfl rfl rfl)) ⟨[CV bn (.cells ⟨[i64 0]⟩ 79 (0,0))],_,_,_,_,_,_,_,rfl,rfl,rfl,fun _=>⟨⟨K,by simp,g5⟩,⟨CV bn (.cells ⟨[i64 0]⟩ 79 (0,0)),by simp,Sl.CV⟩,g6,rfl⟩⟩
    · have hr:rowOf im m loc 17 a b0=some ⟨false,[],[0]⟩:=by
        show some (Row.mk (EM im a).isSome ((EM im a).getD []) [0])=_;have:EM im a=none:=by unfold EM;rw [if_neg (by rw [show EZ im.ms a=false from decide_eq_false Ab];decide)]
        rw [this];rfl
      rw [hr]
      repeat' (first|apply Cv|refine Ct 0 Cr Ay ?_|refine CG 2 Cs ?_|refine CO 2 Cr Bb Ab ?_|refine CY 2 Cr Bb Ab ?_|refine G5 2 Cr AB (fun h=> ?_) (fun h=> ?_)|refine Ct 3 Cr Af ?_|refine CG 3 Cs ?_|refine CG 4 Cs ?_|refine Ct 4 Cr Ae ?_|refine Ct 5 Cr Aq ?_|refine CN ?_|refine Cu ?_|apply Cw|refine Cy ?_|refine CH ?_|refine CF ?_|refine CC ?_|apply Cz|apply CB)
      all_goals exact CJ [K] (CD (CR rfl rfl rfl rfl)) ⟨[],_,_,_,_,_,_,_,rfl,rfl,rfl,fun h=>by cases h⟩
end Go.Proofs.YtcnmnmjmpocepaaGreatDoor
end
