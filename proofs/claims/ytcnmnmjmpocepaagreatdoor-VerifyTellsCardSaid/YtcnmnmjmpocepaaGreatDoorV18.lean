
import Derived.Test.YtcnmnmjmpocepaaGreatDoorV00
import Derived.Test.YtcnmnmjmpocepaaGreatDoorV09
import Derived.Test.YtcnmnmjmpocepaaGreatDoorV17
set_option linter.unusedVariables false
set_option linter.unusedSimpArgs false
set_option linter.unusedSectionVars false
set_option maxRecDepth 100000
set_option maxHeartbeats 16000000
section
namespace Go.Proofs.YtcnmnmjmpocepaaGreatDoor
open Go.SL
open Kd
attribute [local irreducible] SL.T Dw DG DE DI Et D0
theorem gV(K:CA)(im:Im)(m:Me)(loc:List Int)(Du mb pb cb lb sb:Option Addr)(Dr DP mn mc pn pc cn cc ln lc sn sc:Nat)(lo st op a b0:Int)(EP:FY K im.cls Du Dr)(Gq:Hd K im.ms mb mn)(ZR:m.code.length=cn)(NN:Sl K lb (loc.map i64))(hl:loc.length=ln)(RG:op=18∨op=19∨op=20∨op<0∨20<op):
    SL.T Tryz.prog 127 [Gi Du Dr DP mb mn mc,Zx pb pn pc lo st cb cn cc,fr lb sb ln sn lc sc,.agg ⟨[i64 op,i64 a,i64 b0]⟩] [K] (XW (N3 im m loc op a b0) K):=by
  obtain⟨dJ,jY,da,XD,jX,jW⟩:=id EP;obtain⟨U9,XC,jP,jO,jN,cX⟩:=id Gq;haveI:=NN;haveI:=XC;have hclsC:=HE [K] Du Dr DP (.slice mb mn mc) im.cls a XD;have hfld:=IM K im Du Dr DP mb mn mc b0 a EP;have hup:Value.int .i64 (IntKind.i64.wrap (a+1))=i64 (up a):=rfl;refine CM Tryz.func127 rfl (Nat.le_of_ble_eq_true rfl) fun F=> ?_
  repeat' ((fail_if_success (refine Ep 3 ?_));(first|apply Cv|refine Ct 0 Cr Au ?_|refine CP (fun b=> ?_)|refine C2 (fun β=> ?_)|refine CT (fun β=> ?_)|refine Cu ?_|apply Cw))
  obtain⟨bw,rfl⟩:∃x,x=b:=⟨_,rfl⟩;obtain⟨bn,rfl⟩:∃x,x=b:=⟨_,rfl⟩;obtain⟨Pe,rfl⟩:∃x,x=β:=⟨_,rfl⟩;obtain⟨Rg,rfl⟩:∃x,x=β:=⟨_,rfl⟩;obtain⟨JP,rfl⟩:∃x,x=β:=⟨_,rfl⟩;obtain⟨Gr,rfl⟩:∃x,x=β:=⟨_,rfl⟩;obtain⟨EO,rfl⟩:∃x,x=β:=⟨_,rfl⟩;refine Cy ?_;refine Cv ?_;refine Gk (S:=Unit) (fun _=> [(4,.pointer (some ⟨EO,0,none⟩)),(5,.pointer (some ⟨Gr,0,none⟩)),(6,.pointer (some ⟨JP,0,none⟩)),(7,.pointer (some ⟨Rg,0,none⟩)),(8,.pointer (some ⟨Pe,0,none⟩)),(9,.slice (some ⟨bn,0,none⟩) 1 1),(10,.slice (some ⟨bw,0,none⟩) 2 2),(11,.bool (EZ loc a))]) (fun _=> [CV bw (.cells ⟨[i64 0,i64 0]⟩ 79 (0,0)),CV bn (.cells ⟨[i64 0]⟩ 79 (0,0)),CV Pe (.cells ⟨[.bool false,.slice none 0 0,.slice none 0 0]⟩ 219 (0,0)),CV Rg (.cells ⟨[i64 op,i64 a,i64 b0]⟩ 24 (0,0)),CV JP (.cells ⟨[.slice lb ln lc,.slice sb sn sc]⟩ 60 (0,0)),CV Gr (.cells ⟨[.slice pb pn pc,i64 lo,i64 st,.slice cb cn cc]⟩ 66 (0,0)),CV EO (.cells ⟨[.slice Du Dr DP,.slice mb mn mc]⟩ 32 (0,0)),K]) (fun _=>True) ?_ ?_
  · by_cases h0:0≤a
    · by_cases h1:a<ln
      · rw [show EZ loc a=true from decide_eq_true Ab]
        repeat' (first|refine Ct 0 Cr Aw ?_|refine CO 2 Cr Ar Ab ?_|refine Ct 3 Cr Af ?_|refine Ct 4 Cr Ae ?_|refine Cu ?_|apply Cw|refine Cy ?_)
        exact⟨rfl,(),CX (by repeat first|exact Sub.nil _|refine Sub.cons rfl ?_),trivial⟩
      · rw [show EZ loc a=false from decide_eq_false Ab]
        repeat' (first|refine Ct 0 Cr Aw ?_|refine CO 2 Cr Ar Ab ?_|refine CY 2 Cr Aj Ab ?_|refine Ct 3 Cr Af ?_|refine Ct 4 Cr Ae ?_|refine Cu ?_|apply Cw|refine Cy ?_)
        exact⟨rfl,(),CX (by repeat first|exact Sub.nil _|refine Sub.cons rfl ?_),trivial⟩
    · rw [show EZ loc a=false from decide_eq_false Ab]
      repeat' (first|refine Ct 0 Cr Az ?_|refine CG 2 Cs ?_|refine CY 2 Cr AB Ab ?_|refine Ct 3 Cr Af ?_|refine CG 3 Cs ?_|refine CG 4 Cs ?_|refine Cu ?_|apply Cw|refine Cy ?_)
      exact⟨rfl,(),CX (by repeat first|exact Sub.nil _|refine Sub.cons rfl ?_),trivial⟩
  rintro - -;refine Cv ?_;refine Gk (S:=Unit) (fun _=> [(4,.pointer (some ⟨EO,0,none⟩)),(5,.pointer (some ⟨Gr,0,none⟩)),(6,.pointer (some ⟨JP,0,none⟩)),(7,.pointer (some ⟨Rg,0,none⟩)),(8,.pointer (some ⟨Pe,0,none⟩)),(9,.slice (some ⟨bn,0,none⟩) 1 1),(10,.slice (some ⟨bw,0,none⟩) 2 2),(11,.bool (EZ loc a)),(12,.bool (EZ m.code a))]) (fun _=> [CV bw (.cells ⟨[i64 0,i64 0]⟩ 79 (0,0)),CV bn (.cells ⟨[i64 0]⟩ 79 (0,0)),CV Pe (.cells ⟨[.bool false,.slice none 0 0,.slice none 0 0]⟩ 219 (0,0)),CV Rg (.cells ⟨[i64 op,i64 a,i64 b0]⟩ 24 (0,0)),CV JP (.cells ⟨[.slice lb ln lc,.slice sb sn sc]⟩ 60 (0,0)),CV Gr (.cells ⟨[.slice pb pn pc,i64 lo,i64 st,.slice cb cn cc]⟩ 66 (0,0)),CV EO (.cells ⟨[.slice Du Dr DP,.slice mb mn mc]⟩ 32 (0,0)),K]) (fun _=>True) ?_ ?_
  · by_cases h0:0≤a
    · by_cases h1:a<cn
      · rw [show EZ m.code a=true from decide_eq_true Ab]
        repeat' (first|refine Ct 0 Cr Aw ?_|refine CO 2 Cr Ar Ab ?_|refine Ct 3 Cr Af ?_|refine Ct 4 Cr Ae ?_|refine Cu ?_|apply Cw|refine Cy ?_)
        exact⟨rfl,(),CX (by repeat first|exact Sub.nil _|refine Sub.cons rfl ?_),trivial⟩
      · rw [show EZ m.code a=false from decide_eq_false Ab]
        repeat' (first|refine Ct 0 Cr Aw ?_|refine CO 2 Cr Ar Ab ?_|refine CY 2 Cr Aj Ab ?_|refine Ct 3 Cr Af ?_|refine Ct 4 Cr Ae ?_|refine Cu ?_|apply Cw|refine Cy ?_)
        exact⟨rfl,(),CX (by repeat first|exact Sub.nil _|refine Sub.cons rfl ?_),trivial⟩
    · rw [show EZ m.code a=false from decide_eq_false Ab]
      repeat' (first|refine Ct 0 Cr Az ?_|refine CG 2 Cs ?_|refine CY 2 Cr AB Ab ?_|refine Ct 3 Cr Af ?_|refine CG 3 Cs ?_|refine CG 4 Cs ?_|refine Cu ?_|apply Cw|refine Cy ?_)
      exact⟨rfl,(),CX (by repeat first|exact Sub.nil _|refine Sub.cons rfl ?_),trivial⟩
  rintro - -
  repeat' ((fail_if_success (refine Ep 7 ?_));(first|refine CW rfl rfl rfl (Ie rfl rfl rfl) ?_|apply Cv|refine Ct 0 Cr AC ?_|refine Ct 3 Cr AE ?_|refine Ct 4 Cr (CE rfl rfl rfl rfl rfl (hfld)) ?_|refine Cu ?_|apply Cw))
  unfold N3;rcases RG with h|h|h|h|h
  · subst h;by_cases ht:0≤a/\a<mn
    · obtain⟨m',O5⟩:∃z,im.ms[a.toNat]?=some z:=⟨_,List.getElem?_eq_getElem Ab⟩;have hr:rowOf im m loc 18 a b0=some ⟨true,m'.params,[0]⟩:=by
        show some (Row.mk (EM im a).isSome ((EM im a).getD []) [0])=_;have:EM im a=some m'.params:=by unfold EM;rw [if_pos (show EZ im.ms a=true from decide_eq_true Ab),O5];rfl
        rw [this];rfl
      rw [hr];obtain⟨qb,qn,qc,eb,en,ec,g1,g2,g3,g4,g5,g6,g7,g8,g9,g10⟩:=cX _ _ O5;have hkm:a.toNat*4<U9.length:=by omega
      have E6:a<((mn:Nat):Int):=by omega
      repeat' (first|apply Cv|refine Ct 0 Cr Aw ?_|refine CO 2 Cr Bb Ab ?_|refine CY 2 Cr Al Ab ?_|refine Ct 3 Cr AL ?_|refine Ct 4 Cr Ae ?_|refine Ct 5 Cr Aq ?_|refine CN ?_|refine Cu ?_|apply Cw|refine Cy ?_|refine CH ?_|refine CF ?_|refine CC ?_|apply Cz|refine CQ ?_|refine C3 ?_)
      exact CJ [K,CV bn (.cells ⟨[i64 0]⟩ 79 (0,0))] (CD (CR rfl rfl rfl rfl)) ⟨[CV bn (.cells ⟨[i64 0]⟩ 79 (0,0))],_,_,_,_,_,_,_,rfl,rfl,rfl,fun _=>⟨⟨K,by simp,g5⟩,⟨CV bn (.cells ⟨[i64 0]⟩ 79 (0,0)),by simp,Sl.CV⟩,g6,rfl⟩⟩
    · have hr:rowOf im m loc 18 a b0=some ⟨false,[],[0]⟩:=by
        show some (Row.mk (EM im a).isSome ((EM im a).getD []) [0])=_;have:EM im a=none:=by unfold EM;rw [if_neg (by rw [show EZ im.ms a=false from decide_eq_false Ab];decide)]
        rw [this];rfl
      rw [hr]
      repeat' (first|apply Cv|refine Ct 0 Cr Ay ?_|refine CG 2 Cs ?_|refine CO 2 Cr Bb Ab ?_|refine CY 2 Cr Bb Ab ?_|refine G5 2 Cr AB (fun h=> ?_) (fun h=> ?_)|refine Ct 3 Cr Af ?_|refine CG 3 Cs ?_|refine CG 4 Cs ?_|refine Ct 4 Cr Ae ?_|refine Ct 5 Cr Aq ?_|refine CN ?_|refine Cu ?_|apply Cw|refine Cy ?_|refine CH ?_|refine CF ?_|refine CC ?_|apply Cz|apply CB)
      all_goals exact CJ [K] (CD (CR rfl rfl rfl rfl)) ⟨[],_,_,_,_,_,_,_,rfl,rfl,rfl,fun h=>by cases h⟩
  · subst h;have hr:rowOf im m loc 19 a b0=some ⟨true,[0],[]⟩:=rfl;rw [hr]
    repeat' (first|apply Cv|refine Ct 0 Cr Ag ?_|refine CO 2 Cr Al Ab ?_|refine CY 2 Cr Al Ab ?_|refine Ct 3 Cr Af ?_|refine Ct 5 Cr Aq ?_|refine CN ?_|refine Cu ?_|apply Cw|refine Cy ?_|refine CH ?_|refine CF ?_|refine CC ?_|apply Cz|apply CB|refine CQ ?_|refine C3 ?_)
    exact CJ [K,CV bn (.cells ⟨[i64 0]⟩ 79 (0,0))] (CD (CR rfl rfl rfl rfl)) ⟨[CV bn (.cells ⟨[i64 0]⟩ 79 (0,0))],_,_,_,_,_,_,_,rfl,rfl,rfl,fun _=>⟨⟨CV bn (.cells ⟨[i64 0]⟩ 79 (0,0)),by simp,Sl.CV⟩,EG,rfl,rfl⟩⟩
  · subst h;have hr:rowOf im m loc 20 a b0=some ⟨true,[0],[]⟩:=rfl;rw [hr]
    repeat' (first|apply Cv|refine Ct 0 Cr Ag ?_|refine CO 2 Cr Al Ab ?_|refine CY 2 Cr Al Ab ?_|refine Ct 3 Cr Af ?_|refine Ct 5 Cr Aq ?_|refine CN ?_|refine Cu ?_|apply Cw|refine Cy ?_|refine CH ?_|refine CF ?_|refine CC ?_|apply Cz|refine CQ ?_|refine C3 ?_)
    exact CJ [K,CV bn (.cells ⟨[i64 0]⟩ 79 (0,0))] (CD (CR rfl rfl rfl rfl)) ⟨[CV bn (.cells ⟨[i64 0]⟩ 79 (0,0))],_,_,_,_,_,_,_,rfl,rfl,rfl,fun _=>⟨⟨CV bn (.cells ⟨[i64 0]⟩ 79 (0,0)),by simp,Sl.CV⟩,EG,rfl,rfl⟩⟩
  · have hr:rowOf im m loc op a b0=none:=by
      unfold rowOf;simp only [show ¬op=0 by omega,show ¬op=1 by omega,show ¬op=2 by omega,show ¬op=3 by omega,show ¬op=4 by omega,show ¬op=5 by omega,show ¬op=6 by omega,show ¬op=7 by omega,show ¬op=8 by omega,show ¬op=9 by omega,show ¬op=10 by omega,show ¬op=11 by omega,show ¬op=12 by omega,show ¬op=13 by omega,show ¬op=14 by omega,show ¬op=15 by omega,show ¬op=16 by omega,show ¬op=17 by omega,show ¬op=18 by omega,show ¬op=19 by omega,show ¬op=20 by omega,if_false]
    rw [hr]
    repeat' (first|apply Cv|refine Ct 0 Cr Au ?_|refine CY 2 Cr Al Ab ?_|refine Ct 3 Cr Af ?_|refine Ct 5 Cr Aq ?_|refine CN ?_|refine Cu ?_|apply Cw|refine Cy ?_|refine CF ?_|refine CC ?_|apply Cz|apply CB)
    exact CJ [K] (CD (CR rfl rfl rfl rfl)) ⟨[],_,_,_,_,_,_,_,rfl,rfl,rfl,fun h=>by cases h⟩
  · have hr:rowOf im m loc op a b0=none:=by
      unfold rowOf;simp only [show ¬op=0 by omega,show ¬op=1 by omega,show ¬op=2 by omega,show ¬op=3 by omega,show ¬op=4 by omega,show ¬op=5 by omega,show ¬op=6 by omega,show ¬op=7 by omega,show ¬op=8 by omega,show ¬op=9 by omega,show ¬op=10 by omega,show ¬op=11 by omega,show ¬op=12 by omega,show ¬op=13 by omega,show ¬op=14 by omega,show ¬op=15 by omega,show ¬op=16 by omega,show ¬op=17 by omega,show ¬op=18 by omega,show ¬op=19 by omega,show ¬op=20 by omega,if_false]
    rw [hr]
    repeat' (first|apply Cv|refine Ct 0 Cr Au ?_|refine CY 2 Cr Al Ab ?_|refine Ct 3 Cr Af ?_|refine Ct 5 Cr Aq ?_|refine CN ?_|refine Cu ?_|apply Cw|refine Cy ?_|refine CF ?_|refine CC ?_|apply Cz|apply CB)
    exact CJ [K] (CD (CR rfl rfl rfl rfl)) ⟨[],_,_,_,_,_,_,_,rfl,rfl,rfl,fun h=>by cases h⟩
end Go.Proofs.YtcnmnmjmpocepaaGreatDoor
end
section
namespace Go.Proofs.YtcnmnmjmpocepaaGreatDoor
open Go.SL
open Kd
attribute [local irreducible] SL.T Dw DG DE DI Et D0
theorem Wk(K:CA)(im:Im)(m:Me)(loc:List Int)(Du mb pb cb lb sb:Option Addr)(Dr DP mn mc pn pc cn cc ln lc sn sc:Nat)(lo st op a b0:Int)(EP:FY K im.cls Du Dr)(Gq:Hd K im.ms mb mn)(ZR:m.code.length=cn)(NN:Sl K lb (loc.map i64))(hl:loc.length=ln):
    SL.T Tryz.prog 127 [Gi Du Dr DP mb mn mc,Zx pb pn pc lo st cb cn cc,fr lb sb ln sn lc sc,.agg ⟨[i64 op,i64 a,i64 b0]⟩] [K] (XW (N3 im m loc op a b0) K):=by
  have key:(op=0∨op=1∨op=2∨op=3∨op=4∨op=5∨op=6∨op=7)∨(op=8∨op=9∨op=10∨op=11∨op=12∨op=13)∨(op=14∨op=15∨op=16∨op=17)∨(op=18∨op=19∨op=20∨op<0∨20<op):=by omega
  rcases key with h|h|h|h
  · exact gY K im m loc Du mb pb cb lb sb Dr DP mn mc pn pc cn cc ln lc sn sc lo st op a b0 EP Gq ZR NN hl h
  · exact gX K im m loc Du mb pb cb lb sb Dr DP mn mc pn pc cn cc ln lc sn sc lo st op a b0 EP Gq ZR NN hl h
  · exact gW K im m loc Du mb pb cb lb sb Dr DP mn mc pn pc cn cc ln lc sn sc lo st op a b0 EP Gq ZR NN hl h
  · exact gV K im m loc Du mb pb cb lb sb Dr DP mn mc pn pc cn cc ln lc sn sc lo st op a b0 EP Gq ZR NN hl h
end Go.Proofs.YtcnmnmjmpocepaaGreatDoor
end
section
namespace Go.Proofs.YtcnmnmjmpocepaaGreatDoor
open Go.SL
open Kd
def Fi(m:Me)(k:Nat):List Int:=(List.range k).map fun i=>m.params.getD i (-1)
def FL(m:Me):Nat:=(min (max m.lo 0) 65536).toNat
theorem Ia(m:Me)(k:Nat):(Fi m k).length=k:=by simp [Fi]
theorem Uy(m:Me)(k:Nat):Fi m (k+1)=Fi m k++ [m.params.getD k (-1)]:=by simp [Fi,List.range_succ]
theorem NY(m:Me):FL m≤65536:=by unfold FL;omega
structure ST where
  i:Nat
  h:CA
  b:Option Addr
  c:Nat
def Ug(m:Me)(K:CA)(e:Ending)(o:List CA):Prop:=
  ∃h b c,o= [K,h]/\e= .returned (.tuple #[fr b none (FL m) 0 c 0,i64 0])/\OS h b (FL m) c 79 1 ((Fi m (FL m)).map i64)
attribute [local irreducible] SL.T Dw DG DE DI Et D0
theorem Tw(K:CA)(im:Im)(Du mb:Option Addr)(Dr DP mn mc:Nat)(mi:Int)(Gq:Hd K im.ms mb mn)(m:Me)
    (h:0≤mi/\mi<mn) (hm:im.ms[mi.toNat]?=some m):SL.T Tryz.prog 41 [Gi Du Dr DP mb mn mc,i64 mi] [K] (Ug m K):=by
  obtain⟨C9,h1,h2,h3,h4,h5⟩:=Gq;obtain⟨pb,pn,pc,cb,cn,cc,g1,g2,g3,g4,g5,g6,g7,g8,g9,g10⟩:=h5 _ _ hm;haveI:=h1;haveI:=g5;have hkm:mi.toNat*4<C9.length:=by omega
  have hN:=NY m;have hN2:(FL m:Int)=min (max m.lo 0) 65536:=by unfold FL;omega
  generalize hn:FL m=n at hN hN2
  unfold Ug;rw [hn];refine CM Tryz.func41 rfl (Nat.le_of_ble_eq_true rfl) fun F=> ?_
  repeat' (first|apply Cv|refine Ct 0 Cr Az ?_|refine CY 2 Cr Ar Ab ?_|refine Ct 3 Cr Af ?_|refine Ct 4 Cr Ae ?_|refine C2 (fun β=> ?_)|refine CT (fun β=> ?_)|refine Cu ?_|apply Cw|refine Cy ?_|refine CF ?_|refine CC ?_|apply CB)
  obtain⟨JP,rfl⟩:∃x,x=β:=⟨_,rfl⟩;obtain⟨EO,rfl⟩:∃x,x=β:=⟨_,rfl⟩;obtain⟨Ei,rfl⟩:∃x,x=β:=⟨_,rfl⟩;refine DH ?_;refine C4 (fun s:ST=> [(1,i64 mi),(2,.pointer (some ⟨Ei,0,none⟩)),(4,.pointer (some ⟨EO,0,none⟩)),(5,i64 0),(6,.pointer (some ⟨JP,0,none⟩)),(7,i64 (s.i:Int))])
    (fun s=> [s.h,CV JP (.cells ⟨[.slice s.b s.i s.c,.slice none 0 0]⟩ 60 (0,0)),CV EO (.cells ⟨[.slice none 0 0,.slice none 0 0]⟩ 60 (0,0)),CV Ei (.cells ⟨[.slice Du Dr DP,.slice mb mn mc]⟩ 32 (0,0)),K]) (fun s=>s.i≤n/\OS s.h s.b s.i s.c 79 1 ((Fi m s.i).map i64)) (fun s=>n - s.i) ⟨0,emp,none,0⟩ (by repeat first|exact Sub.nil _|refine Sub.cons rfl ?_) ⟨Nat.zero_le _,OS.nil⟩ ?_
  rintro⟨j,H,bH,cH⟩ ⟨LV,os⟩;dsimp only at LV os ⊢
  by_cases hj:j<n
  · have hs:=Uy m j;by_cases hp:j<pn
    · obtain⟨x,hx⟩:∃z,m.params[j]?=some z:=⟨_,List.getElem?_eq_getElem Ab⟩;have hcx:(m.params.map i64)[((j:Nat):Int).toNat*1]?=some (i64 x):=by simp [hx]
      have hkx:((j:Nat):Int).toNat*1<(m.params.map i64).length:=by simp;omega
      rw [show m.params.getD j (-1)=x from by simp [List.getD,hx]] at hs
      repeat' (first|apply Cv|refine Ct 0 Cr Ap ?_|refine CO 2 Cr Aj Ab ?_|refine Ct 3 Cr AL ?_|refine Ct 4 Cr BC ?_|refine Cu ?_|apply Cw|refine Cy ?_|refine CH ?_|refine CC ?_|apply CB)
      refine C0 [.q [0,1,2,3,4,5,6,7,8,9,10],.an 11,.rv 11,.h true 12,.q [13],.h true 14] [CV Ei (.cells ⟨[.slice Du Dr DP,.slice mb mn mc]⟩ 32 (0,0)),K] Ac Ac Ac Ac ?_
      repeat' (first|refine Ct 0 Cr Ag ?_|refine Ct 1 Cr Ao ?_|refine Ct 3 Cr AL ?_|refine Cu ?_|refine C5 ?_|refine Dd rfl ?_|refine Dn rfl rfl AU ?_|refine DN rfl rfl rfl (fun β=> ?_)|refine Df rfl rfl rfl rfl rfl rfl Aa rfl Aa Aa ?_|(refine FP rfl rfl rfl rfl rfl rfl rfl rfl rfl os Ah rfl Ah rfl Ab Ab (fun hA bA cA MO=> ?_))|apply Cw|refine Cy ?_)
      refine⟨rfl,⟨j+1,hA,bA,cA⟩,CX (by repeat first|exact Sub.nil _|refine Sub.cons rfl ?_),⟨hj,?_⟩,by dsimp only;omega⟩;dsimp only;rw [hs,List.map_append];exact MO
    · rw [show m.params.getD j (-1)= -1 from by simp [List.getD,List.getElem?_eq_none (by omega:m.params.length≤j)]] at hs
      repeat' (first|apply Cv|refine Ct 0 Cr Ag ?_|refine Ct 1 Cr Ao ?_|refine CO 2 Cr Aj Ab ?_|refine CY 2 Cr Aj Ab ?_|refine Ct 3 Cr AL ?_|refine Ct 4 Cr BC ?_|(refine gk 4 rfl ?_;(refine Ef rfl rfl rfl rfl rfl rfl rfl rfl rfl os Ah rfl Ah rfl Ab Ab (fun hA bA cA MO=> ?_)))|refine CP (fun b=> ?_)|refine CN ?_|refine Cu ?_|apply Cw|refine Cy ?_|refine CH ?_|refine CF ?_|refine CC ?_|apply CB)
      refine⟨rfl,⟨j+1,hA,bA,cA⟩,CX (by repeat first|exact Sub.nil _|refine Sub.cons rfl ?_),⟨hj,?_⟩,by dsimp only;omega⟩;dsimp only;rw [hs,List.map_append];exact MO
  · obtain rfl:j=n:=by omega
    repeat' (first|apply Cv|refine Ct 0 Cr Ag ?_|refine CY 2 Cr Aj Ab ?_|refine Ct 3 Cr AM ?_|refine Ct 4 Cr (by exact Jp rfl rfl rfl rfl rfl) ?_|refine CN ?_|refine Cu ?_|apply Cw|refine Cy ?_|refine CF ?_|apply Cz|refine C1 ?_)
    exact CJ [K,H] (CU (CR rfl rfl rfl rfl) (Cx rfl)) ⟨H,bH,cH,rfl,rfl,os⟩
end Go.Proofs.YtcnmnmjmpocepaaGreatDoor
end
section
namespace Go.Proofs.YtcnmnmjmpocepaaGreatDoor
open Go.SL
open Kd
def oR(r:Row)(K:CA)(e:Ending)(o:List CA):Prop:=
  ∃K' tb tn tc pb pn pc,o= [K']/\hle K K'/\e= .returned (WY r.is tb tn tc pb pn pc)/\(r.is=true->Sl K' tb (r.take.map i64)/\Sl K' pb (r.put.map i64)/\r.take.length=tn/\r.put.length=pn)
theorem Of(l:List Int):(l.map i64).all (·.oneCell')=true:=by simp [Value.oneCell']
theorem bk{f:FuncId}{args:List Value}{r:Row}{K:CA}(h:SL.T Tryz.prog f args [K] (XW r K)):SL.T Tryz.prog f args [K] (oR r K):=by
  refine(Gw (R:=fun e A N=>A= []/\XW r K e N) (h.mono fun e o hR=>⟨[],o,by simp,rfl,hR⟩)).mono ?_;rintro e o ⟨A,N,K',rfl,hK,rfl,N',is,tb,tn,tc,pb,pn,pc,rfl,h1,rfl,h2⟩;exact⟨K',tb,tn,tc,pb,pn,pc,rfl,hK K Am,h1,fun q=>⟨(h2 q).1.RO hK,(h2 q).2.1.RO hK,(h2 q).2.2⟩⟩
theorem WX{args:List Value}{K:CA}{res:Int ⊕ (List Int×List Int)}(h:SL.T Tryz.prog 73 args [K] (Ta K res)):SL.T Tryz.prog 73 args [K] (QZ K res):=by
  refine(Gw (R:=fun e A N=>A= []/\Ta K res e N) (h.mono fun e o hR=>⟨[],o,by simp,rfl,hR⟩)).mono ?_;rintro e o ⟨A,N,K',rfl,hK,rfl,⟨k,hk,hle0⟩,hR⟩;refine⟨K',rfl,hle0.trans (hK k hk),?_⟩;cases res with
  |inl c=>exact hR
  | inr p=>
    obtain⟨l,s⟩:=p;obtain⟨b1,c1,b2,c2,h1,h2,h3,h4⟩:=hR;exact⟨b1,c1,b2,c2,h1,h2.RO hK,h3.RO hK,h4⟩
attribute [local irreducible] SL.T Dw DG DE DI Et D0
theorem fw(K:CA)(im:Im)(Du mb lb sb:Option Addr)(Dr DP mn mc ln lc sn sc:Nat)(mi at_:Int)(Gq:Hd K im.ms mb mn)
    (h:¬(0≤mi/\mi<mn)):Dw Tryz.prog 73 [Gi Du Dr DP mb mn mc,i64 mi,fr lb sb ln sn lc sc,i64 at_] [K] (.tuple #[JZ,i64 8]):=by
  obtain⟨C9,h1,h2,h3,h4,h5⟩:=Gq;by_cases h0:0≤mi
  · refine CL Tryz.func73 rfl (Nat.le_of_ble_eq_true rfl) fun F=> ?_
    repeat' (first|apply Cv|refine Ct 0 Cr Ay ?_|refine CG 0 Cs ?_|refine CG 2 Cs ?_|refine CO 2 Cr Ar Ab ?_|refine CY 2 Cr Aj Ab ?_|refine Ct 3 Cr Af ?_|refine CG 3 Cs ?_|refine CG 4 Cs ?_|refine Ct 4 Cr Ae ?_|refine Ct 5 Cr Aq ?_|refine C2 (fun β=> ?_)|refine CT (fun β=> ?_)|refine CN ?_|refine Cu ?_|apply Cw|refine Cy ?_|refine CH ?_|apply Cz|refine CQ ?_)
    exact CS (CU (CR rfl rfl rfl rfl) (Cx rfl)) rfl
  · refine CL Tryz.func73 rfl (Nat.le_of_ble_eq_true rfl) fun F=> ?_
    repeat' (first|apply Cv|refine Ct 0 Cr Aw ?_|refine CG 0 Cs ?_|refine CG 2 Cs ?_|refine CO 2 Cr Aj Ab ?_|refine CG 3 Cs ?_|refine CG 4 Cs ?_|refine Ct 5 Cr Aq ?_|refine C2 (fun β=> ?_)|refine CT (fun β=> ?_)|refine CN ?_|refine Cu ?_|apply Cw|refine Cy ?_|refine CH ?_|apply Cz|refine CQ ?_)
    exact CS (CU (CR rfl rfl rfl rfl) (Cx rfl)) rfl
theorem ft(K:CA)(im:Im)(Du mb lb sb:Option Addr)(Dr DP mn mc ln lc sn sc:Nat)(mi at_:Int)(Gq:Hd K im.ms mb mn)(m:Me)
    (h:0≤mi/\mi<mn) (hm:im.ms[mi.toNat]?=some m) (ha:¬(0≤at_/\at_<m.code.length)):Dw Tryz.prog 73 [Gi Du Dr DP mb mn mc,i64 mi,fr lb sb ln sn lc sc,i64 at_] [K] (.tuple #[JZ,i64 8]):=by
  obtain⟨C9,h1,h2,h3,h4,h5⟩:=Gq;obtain⟨pb,pn,pc,cb,cn,cc,g1,g2,g3,g4,g5,g6,g7,g8,g9,g10⟩:=h5 _ _ hm;haveI:=h1;haveI:=g8;rw [g9] at ha
  have hkm:mi.toNat*4<C9.length:=by omega
  by_cases h0:0≤at_
  · refine CL Tryz.func73 rfl (Nat.le_of_ble_eq_true rfl) fun F=> ?_
    repeat' (first|apply Cv|refine Ct 0 Cr Az ?_|refine CO 2 Cr Ar Ab ?_|refine CY 2 Cr Ar Ab ?_|refine Ct 3 Cr AL ?_|refine Ct 4 Cr Ae ?_|refine Ct 5 Cr Aq ?_|refine C2 (fun β=> ?_)|refine CT (fun β=> ?_)|refine CN ?_|refine Cu ?_|apply Cw|refine Cy ?_|refine CH ?_|apply Cz|refine CQ ?_)
    exact CS (CU (CR rfl rfl rfl rfl) (Cx rfl)) rfl
  · refine CL Tryz.func73 rfl (Nat.le_of_ble_eq_true rfl) fun F=> ?_
    repeat' (first|apply Cv|refine Ct 0 Cr Ay ?_|refine CG 0 Cs ?_|refine CG 2 Cs ?_|refine CO 2 Cr Ar Ab ?_|refine CY 2 Cr Ar Ab ?_|refine Ct 3 Cr Af ?_|refine CG 3 Cs ?_|refine CG 4 Cs ?_|refine Ct 4 Cr Ae ?_|refine Ct 5 Cr Aq ?_|refine C2 (fun β=> ?_)|refine CT (fun β=> ?_)|refine CN ?_|refine Cu ?_|apply Cw|refine Cy ?_|refine CH ?_|apply Cz|refine CQ ?_)
    exact CS (CU (CR rfl rfl rfl rfl) (Cx rfl)) rfl
theorem fu (K :CA)(im:Im)(Du mb lb sb:Option Addr)(Dr DP mn mc ln lc sn sc:Nat)(mi at_:Int)(loc Dl:List Int)(EP:FY K im.cls Du Dr)(Gq:Hd K im.ms mb mn) [NN:Sl K lb (loc.map i64)] [Yc:Sl K sb (Dl.map i64)](hl:loc.length=ln)(hs:Dl.length=sn)(Ww:ln≤4000000)(Wr:sn≤2000000)(jF:sn≤sc)(m:Me)(y:Ins)
    (h:0≤mi/\mi<mn) (hm:im.ms[mi.toNat]?=some m) (ha:0≤at_/\at_<m.code.length) (hy:m.code[at_.toNat]?=some y) (r:Row) (hr:N3 im m loc y.op y.a y.b=r) (iD:r.take.length≤4000000/\r.put.length≤1):
    SL.T Tryz.prog 73 [Gi Du Dr DP mb mn mc,i64 mi,fr lb sb ln sn lc sc,i64 at_] [K] (Ta K (FQ m y loc Dl r)):=by
  have LU:=fun pb pn pc cb cn cc ZR=>bk (Wk K im m loc Du mb pb cb lb sb Dr DP mn mc pn pc cn cc ln lc sn sc m.lo m.st y.op y.a y.b EP Gq ZR NN hl)
  rw [hr] at LU
  obtain⟨is,take,put⟩:=r;have hms':=Gq;obtain⟨C9,h1,h2,h3,h4,h5⟩:=Gq;obtain⟨pb,pn,pc,cb,cn,cc,g1,g2,g3,g4,g5,g6,g7,g8,g9,g10⟩:=h5 _ _ hm;have LU:=LU pb pn pc cb cn cc g9;haveI:=h1;haveI:=g8;rw [g9] at ha
  have hkm:mi.toNat*4<C9.length:=by omega
  obtain⟨lY,NQ,LW⟩:=D9 hy;have hki:at_.toNat*3<(CZ m.code).length:=by rw [Dc];omega
  refine CM Tryz.func73 rfl (Nat.le_of_ble_eq_true rfl) fun F=> ?_
  repeat' (first|apply Cv|refine Ct 0 Cr Az ?_|refine CY 2 Cr Ar Ab ?_|refine Ct 3 Cr (by first|exact DU rfl Aa rfl Aa|exact Dg rfl rfl|exact C7 rfl rfl rfl Ab Ab Ab|exact Fx rfl rfl Ad|exact D7 rfl Aa Ai Ad|exact H0 rfl Aa Ai Ad Ad Ad) ?_|refine Ct 4 Cr Ae ?_|refine C2 (fun β=> ?_)|refine CT (fun β=> ?_)|refine CN ?_|refine Cu ?_|apply Cw|refine Cy ?_|refine CF ?_|apply CB)
  refine C0 [.q [0,1,2,3,4,5,6,7],.an 9,.h true 8,.rv 9,.h true 10] [] Ac Ac Ac Ac ?_
  repeat' ((fail_if_success (refine Ep 8 ?_));(first|apply Cv|refine Ct 0 Cr (by first|exact Dh rfl rfl|exact LF rfl rfl) ?_|refine Ct 3 Cr BB ?_|refine Cu ?_|refine C5 ?_|refine Dd rfl ?_|refine Dn rfl rfl AR ?_|refine DN rfl rfl rfl (fun β=> ?_)|refine Df rfl rfl rfl rfl rfl rfl Aa rfl Aa Aa ?_|(refine EL rfl rfl rfl rfl rfl rfl rfl rfl (LU) ?_;rintro _ _ ⟨K3,tb,tn,tc,qb,qn,qc,rfl,lK,rfl,hq⟩;refine⟨_,_,rfl,rfl,?_⟩)|apply Cw|refine Cy ?_))
  cases is with
  | false=>
    rw [show FQ m y loc Dl ⟨false,take,put⟩= .inl 8 from by simp [FQ]]
    repeat' (first|apply Cv|refine Ct 0 Cr Au ?_|refine Ct 5 Cr Aq ?_|refine CN ?_|refine Cu ?_|apply Cw|refine Cy ?_|refine CH ?_|apply Cz|refine CQ ?_)
    exact CJ [K3] (CU (CR rfl rfl rfl rfl) (Cx rfl)) ⟨⟨K3,by simp,lK⟩,rfl⟩
  | true=>
    obtain⟨slt,kH,E6,ew⟩:=hq rfl;haveI:=slt;haveI:=kH;dsimp only at slt kH E6 ew iD
    obtain⟨rB,pV⟩:=iD;haveI slL:=NN.mono lK;haveI slS:=Yc.mono lK
    repeat' ((fail_if_success (refine Ep 8 ?_));(first|apply Cv|refine Ct 0 Cr Au ?_|refine Ct 1 Cr AF ?_|refine Ct 3 Cr Af ?_|refine Ct 4 Cr Ae ?_|refine Cu ?_|apply Cw|refine CF ?_|apply CB))
    by_cases hB:sn<tn
    · rw [Wi Ab]
      repeat' (first|apply Cv|refine Ct 0 Cr Aw ?_|refine CG 0 Cs ?_|refine CG 2 Cs ?_|refine CO 2 Cr Aj Ab ?_|refine CG 3 Cs ?_|refine CG 4 Cs ?_|refine Ct 5 Cr Aq ?_|refine CN ?_|refine Cu ?_|apply Cw|refine Cy ?_|refine CH ?_|apply Cz|refine CQ ?_)
      exact CJ [K3] (CU (CR rfl rfl rfl rfl) (Cx rfl)) ⟨⟨K3,by simp,lK⟩,rfl⟩
    · obtain ⟨lf,kP⟩:∃lf:Nat,(sn:Int) - (tn:Int)=(lf:Int):=⟨sn - tn,by omega⟩;have elf:Dl.length - take.length=lf:=by omega
      rw [kP];by_cases hD: -1∈put
      · rw [Wg hD];obtain rfl:put= [-1]:=by
          match put,pV,hD with
          | [k],_,hD=>simp at hD;rw [hD]
        obtain rfl:qn=1:=by simpa using ew.symm
        have hcq:([-1].map i64)[((0:Nat):Int).toNat*1]?=some (i64 (-1)):=rfl
        repeat' (first|apply Cv|refine Ct 0 Cr Ay ?_|refine CO 2 Cr B9 Ab ?_|refine CY 2 Cr Aj Ab ?_|refine Ct 3 Cr A8 ?_|refine Ct 4 Cr Ae ?_|refine Ct 5 Cr Aq ?_|refine CN ?_|refine Cu ?_|apply Cw|refine Cy ?_|refine CH ?_|apply Cz|refine CQ ?_)
        exact CJ [K3] (CU (CR rfl rfl rfl rfl) (Cx rfl)) ⟨⟨K3,by simp,lK⟩,rfl⟩
      · have hcq:∀h:0<qn,∃k,k≠ -1/\(put.map i64)[((0:Nat):Int).toNat*1]?=some (i64 k):=fun h=>by
          match put,ew,hD with
          |k::l,_,hD=>exact⟨k,fun e=>hD (by simp [e]),rfl⟩
          | [],e,_=>simp at e;omega
        obtain⟨E3,rfl⟩:∃x,x=β:=⟨_,rfl⟩;obtain⟨ah,rfl⟩:∃x,x=β:=⟨_,rfl⟩;obtain⟨Pe,rfl⟩:∃x,x=β:=⟨_,rfl⟩;obtain⟨JP,rfl⟩:∃x,x=β:=⟨_,rfl⟩;obtain⟨EO,rfl⟩:∃x,x=β:=⟨_,rfl⟩;refine Gk (S:=Unit) (fun _=> [(1,i64 mi),(3,i64 at_),(4,.pointer (some ⟨EO,0,none⟩)),(6,.pointer (some ⟨JP,0,none⟩)),(8,.pointer (some ⟨Pe,0,none⟩)),(9,i64 0),(10,.pointer (some ⟨ah,0,none⟩)),(11,.pointer (some ⟨E3,0,none⟩)),(12,i64 (lf:Int))]) (fun _=> [CV E3 (.cells ⟨[.bool true,.slice tb tn tc,.slice qb qn qc]⟩ 219 (0,0)),K3,CV ah (.cells ⟨[i64 y.op,i64 y.a,i64 y.b]⟩ 24 (0,0)),CV Pe (.cells ⟨[.slice none 0 0,.slice none 0 0]⟩ 60 (0,0)),CV JP (.cells ⟨[.slice lb ln lc,.slice sb sn sc]⟩ 60 (0,0)),CV EO (.cells ⟨[.slice Du Dr DP,.slice mb mn mc]⟩ 32 (0,0))]) (fun _=>True) ?_ ?_
        · by_cases h0:0<qn
          · obtain⟨k,Sz,MU⟩:=hcq h0;have Wx:((0:Nat):Int).toNat*1<(put.map i64).length:=by simp;omega
            repeat' (first|apply Cv|refine Ct 0 Cr BR ?_|refine CO 2 Cr B9 Ab ?_|refine CY 2 Cr AP Ab ?_|refine Ct 3 Cr AG ?_|refine Ct 4 Cr Ae ?_|refine Cu ?_|apply Cw|refine Cy ?_|refine CF ?_|apply CB)
            exact⟨rfl,(),CX (by repeat first|exact Sub.nil _|refine Sub.cons rfl ?_),trivial⟩
          · repeat' (first|apply Cv|refine Ct 0 Cr Bf ?_|refine CG 2 Cs ?_|refine CY 2 Cr AH Ab ?_|refine Ct 3 Cr Af ?_|refine CG 3 Cs ?_|refine Ct 4 Cr Ae ?_|refine Cu ?_|apply Cw|refine Cy ?_|refine CF ?_|apply CB)
            exact⟨rfl,(),CX (by repeat first|exact Sub.nil _|refine Sub.cons rfl ?_),trivial⟩
        rintro - -
        repeat' (first|apply Cv|refine Ct 0 Cr Au ?_|refine Cu ?_|apply Cw|refine Cy ?_|refine CC ?_)
        refine C4 (fun j:Nat=> [(1,i64 mi),(3,i64 at_),(4,.pointer (some ⟨EO,0,none⟩)),(6,.pointer (some ⟨JP,0,none⟩)),(8,.pointer (some ⟨Pe,0,none⟩)),(9,i64 0),(10,.pointer (some ⟨ah,0,none⟩)),(11,.pointer (some ⟨E3,0,none⟩)),(12,i64 (lf:Int)),(13,i64 (j:Int))])
          (fun _=> [CV E3 (.cells ⟨[.bool true,.slice tb tn tc,.slice qb qn qc]⟩ 219 (0,0)),K3,CV ah (.cells ⟨[i64 y.op,i64 y.a,i64 y.b]⟩ 24 (0,0)),CV Pe (.cells ⟨[.slice none 0 0,.slice none 0 0]⟩ 60 (0,0)),CV JP (.cells ⟨[.slice lb ln lc,.slice sb sn sc]⟩ 60 (0,0)),CV EO (.cells ⟨[.slice Du Dr DP,.slice mb mn mc]⟩ 32 (0,0))]) (fun j=>j≤tn/\∀(i:Nat) (x y:Int),i<j->(Dl.drop lf)[i]?=some x->take[i]?=some y->II x y) (fun j=>tn - j) 0 (by repeat first|exact Sub.nil _|refine Sub.cons rfl ?_) ⟨Nat.zero_le _,fun i x y q=>by omega⟩ ?_
        rintro j ⟨LV,FF⟩;by_cases hj:j<tn
        · obtain⟨x,hx⟩:∃z,Dl[lf+j]?=some z:=⟨_,List.getElem?_eq_getElem Ab⟩;obtain⟨z,hz⟩:∃z,take[j]?=some z:=⟨_,List.getElem?_eq_getElem Ab⟩;have hcx:(Dl.map i64)[((lf:Int)+(j:Int)).toNat*1]?=some (i64 x):=by
            rw [show((lf:Int)+(j:Int)).toNat*1=lf+j from by omega];simp [hx]
          have hcz:(take.map i64)[((j:Nat):Int).toNat*1]?=some (i64 z):=by simp [hz]
          have hkx:((lf:Int)+(j:Int)).toNat*1<(Dl.map i64).length:=by simp;omega
          have hkz:((j:Nat):Int).toNat*1<(take.map i64).length:=by simp;omega
          have hdx:(Dl.drop lf)[j]?=some x:=by rw [List.getElem?_drop];exact hx
          by_cases hf:II x z
          · have hfc:=OJ [K3] x z;rw [decide_eq_true hf] at hfc
            repeat' (first|apply Cv|refine Ct 0 Cr AS ?_|refine Ct 1 Cr Ao ?_|refine CO 2 Cr Aj Ab ?_|refine Ct 3 Cr AG ?_|refine Ct 4 Cr Ae ?_|refine Ct 4 Cr (CE rfl rfl rfl rfl rfl (hfc)) ?_|refine Cu ?_|refine De Ac Ac rfl ?_|apply Cw|refine Cy ?_|refine CH ?_|refine CF ?_|refine CC ?_|apply CB)
            refine⟨rfl,j+1,CX (by repeat first|exact Sub.nil _|refine Sub.cons rfl ?_),⟨by omega,fun i x' y' q1 q2 q3=> ?_⟩,by omega⟩;by_cases e:i=j
            · subst e;rw [hdx] at q2;rw [hz] at q3;cases q2;cases q3;exact hf
            · exact FF i x' y' Ab q2 q3
          · have hfc:=OJ [K3] x z;rw [decide_eq_false hf] at hfc
            rw [Wh elf (fun q=>hf (q.2 j x z hdx hz))]
            repeat' (first|apply Cv|refine Ct 0 Cr A3 ?_|refine Ct 1 Cr Ao ?_|refine CO 2 Cr Aj Ab ?_|refine Ct 3 Cr AG ?_|refine Ct 4 Cr Ae ?_|refine Ct 4 Cr (CE rfl rfl rfl rfl rfl (hfc)) ?_|refine Ct 5 Cr Aq ?_|refine CN ?_|refine Cu ?_|refine De Ac Ac rfl ?_|apply Cw|refine Cy ?_|refine CH ?_|refine CC ?_|apply Cz|apply CB|refine CQ ?_|refine C3 ?_)
            exact CJ [K3] (CU (CR rfl rfl rfl rfl) (Cx rfl)) ⟨⟨K3,by simp,lK⟩,rfl⟩
        · have hfB:Jv (Dl.drop lf) take:=⟨by rw [List.length_drop];omega,fun i x y q1 q2=>FF i x y (by have:=(List.getElem?_eq_some_iff.1 q2).1;omega) q1 q2⟩
          repeat' (first|apply Cv|refine Ct 0 Cr Ap ?_|refine CY 2 Cr Aj Ab ?_|refine Ct 3 Cr Af ?_|refine Ct 4 Cr Ae ?_|refine Cu ?_|apply Cw|refine Cy ?_|refine CF ?_|refine C1 ?_)
          have oL:=Of loc;have oS:=Of (Dl.take lf);have oP:=Of put;have slT:Sl K3 sb ((Dl.take lf).map i64):=by have:=(Yc.mono lK).take lf;rwa [<-List.map_take] at this
          have eL:(loc.map i64).length=ln*1:=by simp [hl]
          have eS:((Dl.take lf).map i64).length=lf*1:=by simp;omega
          have eP:(put.map i64).length=qn*1:=by simp [ew]
          have hlfs:lf≤sn:=by omega
          haveI slM:=h1.mono lK;refine C0 [.an 0,.q [1,2],.an 4,.f [5],.r [6],.f [7],.r [8],.an 11,.rv 0,.h true 3,.rv 4,.h true 9,.q [10],.rv 11,.h true 12] [CV JP (.cells ⟨[.slice lb ln lc,.slice sb sn sc]⟩ 60 (0,0))] Ac Ac Ac Ac ?_
          repeat' (first|apply Cv|refine Ct 0 Cr Ap ?_|refine Ct 3 Cr Af ?_|refine Ct 5 Cr (by first|exact H3 rfl rfl Aa|exact Hp rfl rfl rfl Ab Ab) ?_|refine Cu ?_|refine C5 ?_|refine Dd rfl ?_|refine Fq rfl ?_|refine HW rfl ?_|refine Dn rfl rfl Ca ?_|refine DN rfl rfl rfl (fun β=> ?_)|refine Df rfl rfl rfl rfl rfl rfl Aa rfl Aa Aa ?_|(refine OY (hh:=CV _ (.cells ⟨[]⟩ 79 (0,0))) rfl rfl rfl rfl rfl rfl rfl rfl rfl slL (OS.CV (len:=0) rfl) eL Ah oL Ab Ab (fun hA bA cA MO=> ?_);rw [Nat.zero_add ln] at MO ⊢)|(refine OY (hh:=CV _ (.cells ⟨[]⟩ 79 (0,0))) rfl rfl rfl rfl rfl rfl rfl rfl rfl slT (OS.CV (len:=0) rfl) eS Ah oS Ab Ab (fun hB bB cB OL=> ?_);rw [Nat.zero_add ((lf:Int).toNat)] at OL ⊢)|apply Cw)
          clear slT;rw [List.nil_append] at MO OL
          have hsum:((Dl.take lf).map i64++put.map i64)=(Dl.take lf++put).map i64:=by rw [List.map_append]
          have htl:(Dl.take lf++put).length=((lf:Nat):Int).toNat+qn:=by rw [List.length_append,List.length_take,ew,Nat.min_eq_left Ab];rfl
          by_cases hx:m.st<((lf+put.length:Nat):Int)
          · rw [Wf elf Ab hfB hD hx]
            repeat' (first|apply Cv|refine Ct 3 Cr Bc ?_|refine gk 4 rfl (EH rfl rfl rfl rfl rfl rfl rfl rfl rfl OL eP Ah oP Ab Ab (fun hC bC cC Ge XB=> ?_))|refine CN ?_|apply Cw)
            refine De Ac Ac rfl ?_
            repeat' (first|apply Cv|refine Ct 0 Cr Ag ?_|refine CO 2 Cr AQ Ab ?_|refine Ct 3 Cr AL ?_|refine Ct 4 Cr Ae ?_|refine Ct 5 Cr Aq ?_|refine CN ?_|refine Cu ?_|apply Cw|refine Cy ?_|refine CH ?_|apply Cz|refine CQ ?_)
            exact CJ [K3] (CU (CR rfl rfl rfl rfl) (Cx rfl)) ⟨⟨K3,by simp,lK⟩,rfl⟩
          · rw [We elf Ab hfB hD hx];by_cases RG:y.op=3
            · have hr3:N3 im m loc 3 y.a y.b=⟨EZ loc y.a,[-2],[]⟩:=rfl;rw [RG,hr3] at hr
              simp only [Row.mk.injEq] at hr
              obtain⟨ES,rfl,rfl⟩:=hr;have hin2:0≤y.a/\y.a<loc.length:=of_decide_eq_true ES;obtain⟨v,hv⟩:∃z,Dl[lf]?=some z:=⟨_,List.getElem?_eq_getElem (by simp at E6;omega)⟩;have hcv:(Dl.map i64)[((lf:Nat):Int).toNat*1]?=some (i64 v):=by simp [hv]
              have hgd:Dl.getD lf 0=v:=by simp [List.getD,hv]
              have hlf2:lf<sn:=by simp at E6;omega
              have hklf:((lf:Nat):Int).toNat*1<(Dl.map i64).length:=by simp;omega
              have hal:(loc.map i64).length=ln:=by simp [hl]
              have hgl:(loc.map i64).length=loc.length:=by simp
              rw [if_pos RG,hgd];haveI mZ:=MO.sl
              repeat' (first|apply Cv|refine Ct 3 Cr Bc ?_|refine gk 4 rfl (EH rfl rfl rfl rfl rfl rfl rfl rfl rfl OL eP Ah oP Ab Ab (fun hC bC cC Ge XB=> ?_))|refine CN ?_|apply Cw)
              refine De Ac Ac rfl ?_
              repeat' (first|apply Cv|refine Ct 0 Cr Ap ?_|refine CO 2 Cr Ba Ab ?_|refine CY 2 Cr AQ Ab ?_|refine Ct 3 Cr AL ?_|refine Ct 4 Cr Ae ?_|refine Cu ?_|apply Cw|refine Cy ?_|refine CH ?_|refine CF ?_|apply CB)
              refine C0 [.q [0,1,2,3,4,5,6,7,8,9],.h true 10] [] Ac Ac Ac Ac ?_
              repeat' (first|apply Cv|refine Ct 0 Cr Ag ?_|refine Ct 3 Cr Bv ?_|refine CN ?_|refine Cu ?_|refine C5 ?_|refine Dd rfl ?_|refine Ew rfl rfl rfl rfl rfl rfl MO rfl rfl rfl (Nat.succ_pos _) As (Mo (j:=y.a.toNat) Ab Ab) (fun l9 jm=> ?_)|apply Cw|refine Cy ?_|apply Cz)
              refine CJ [K3,l9,hC] (CU (CR rfl rfl rfl rfl) (Cx rfl)) ⟨⟨K3,by simp,lK⟩,bA,cA,bC,cC,?_,⟨l9,by simp,jm.sl⟩,⟨hC,by simp,hsum▸Ge.sl⟩,by have:=Ge.hle;omega⟩;rw [List.length_set,hl,htl]
            · rw [if_neg RG]
              repeat' (first|apply Cv|refine Ct 3 Cr Bc ?_|refine gk 4 rfl (EH rfl rfl rfl rfl rfl rfl rfl rfl rfl OL eP Ah oP Ab Ab (fun hC bC cC Ge XB=> ?_))|refine CN ?_|apply Cw)
              refine De Ac Ac rfl ?_
              repeat' (first|apply Cv|refine Ct 0 Cr Ag ?_|refine CY 2 Cr Ba Ab ?_|refine Ct 3 Cr AM ?_|refine Ct 4 Cr Ae ?_|refine CN ?_|refine Cu ?_|apply Cw|refine Cy ?_|refine CF ?_|apply Cz|apply CB)
              refine CJ [K3,hA,hC] (CU (CR rfl rfl rfl rfl) (Cx rfl)) ⟨⟨K3,by simp,lK⟩,bA,cA,bC,cC,?_,⟨hA,by simp,MO.sl⟩,⟨hC,by simp,hsum▸Ge.sl⟩,by have:=Ge.hle;omega⟩;rw [hl,htl]
end Go.Proofs.YtcnmnmjmpocepaaGreatDoor
end
section
namespace Go.Proofs.YtcnmnmjmpocepaaGreatDoor
open Go.SL
open Kd
theorem PU{args:List Value}{K:CA}{c:Int}(h:Dw Tryz.prog 73 args [K] (.tuple #[JZ,i64 c])):SL.T Tryz.prog 73 args [K] (QZ K (.inl c)):=
  h.T.mono fun e o ⟨h1,h2⟩=>⟨K,h2,hle.refl _,h1⟩
theorem UR(K:CA)(im:Im)(Du mb lb sb:Option Addr)(Dr DP mn mc ln lc sn sc:Nat)(mi at_:Int)(loc Dl:List Int)(EP:FY K im.cls Du Dr)(Gq:Hd K im.ms mb mn)(NN:Sl K lb (loc.map i64))(Yc:Sl K sb (Dl.map i64))(hl:loc.length=ln)(hs:Dl.length=sn)(Ww:ln≤4000000)(Wr:sn≤2000000)(jF:sn≤sc):
    SL.T Tryz.prog 73 [Gi Du Dr DP mb mn mc,i64 mi,fr lb sb ln sn lc sc,i64 at_] [K] (QZ K (E9 im mi at_ loc Dl)):=by
  have hms':=Gq;obtain⟨C9,h1,h2,h3,h4,h5⟩:=Gq;by_cases h:0≤mi/\mi<mn
  · have e1:EZ im.ms mi=true:=decide_eq_true Ab;obtain⟨m,hm⟩:∃z,im.ms[mi.toNat]?=some z:=⟨_,List.getElem?_eq_getElem Ab⟩;by_cases ha:0≤at_/\at_<m.code.length
    · have e2:EZ m.code at_=true:=decide_eq_true ha;obtain⟨y,hy⟩:∃z,m.code[at_.toNat]?=some z:=⟨_,List.getElem?_eq_getElem Ab⟩;have go:=fun r hr iD=>WX (fu K im Du mb lb sb Dr DP mn mc ln lc sn sc mi at_ loc Dl EP hms' hl hs Ww Wr jF m y h hm ha hy r hr iD)
      cases hr:rowOf im m loc y.op y.a y.b with
      | none=>
        have e:E9 im mi at_ loc Dl= .inl 8:=by simp only [E9,e1,if_true,hm,e2,hy,hr]
        have:=go ⟨false,[],[]⟩ (by simp [N3,hr]) Am;rw [e];simpa [FQ] using this
      | some r=>
        have e:E9 im mi at_ loc Dl=FQ m y loc Dl r:=by simp only [E9,e1,if_true,hm,e2,hy,hr];rfl
        rw [e];refine go r (by simp [N3,hr]) ⟨?_,Ts hr⟩;rcases UM hr with q|⟨m',O5,q⟩
        · omega
        · obtain⟨i,hi⟩:=List.mem_iff_getElem?.1 O5;obtain⟨pb,pn,pc,cb,cn,cc,g1,g2,g3,g4,g5,g6,g7, -⟩:=h5 i m' hi;rw [q];omega
    · have e2:EZ m.code at_=false:=decide_eq_false ha;have e:E9 im mi at_ loc Dl= .inl 8:=by simp [E9,e1,hm,e2]
      rw [e];exact PU (ft K im Du mb lb sb Dr DP mn mc ln lc sn sc mi at_ hms' m h hm ha)
  · have e1:EZ im.ms mi=false:=decide_eq_false Ab;have e:E9 im mi at_ loc Dl= .inl 8:=by simp [E9,e1]
    rw [e];exact PU (fw K im Du mb lb sb Dr DP mn mc ln lc sn sc mi at_ hms' h)
end Go.Proofs.YtcnmnmjmpocepaaGreatDoor
end
section
namespace Go.Proofs.YtcnmnmjmpocepaaGreatDoor
open Go.SL
open Kd
theorem cG{xs ys:List Int}{j:Nat}{x y:Int}(hx:xs[j]?=some x)(hy:ys[j]?=some y):(EB xs ys)[j]?=some (if x=y then x else -1):=by
  simp [EB,List.getElem?_zipWith,hx,hy]
structure SJ where
  i:Nat
  h:CA
  b:Option Addr
  c:Nat
attribute [local irreducible] SL.T Dw DG DE DI Et D0
theorem bE(own:List CA)(a b a' b':Option Addr)(n m n' m' c d c' d':Nat)(ys LP:List Int) [Ds own b (ys.map i64)] [Ds own b' (LP.map i64)](h2:ys.length=m)(h4:LP.length=m')(DO:n≤4000000)(RF:m≤4000000)(rA:n'≤4000000)
    (h:¬(n=n'/\ys=LP)):Dw Tryz.prog 129 [fr a b n m c d,fr a' b' n' m' c' d'] own (.tuple #[JZ,.bool false]):=by
  refine JB fun J hJ=> ?_
  haveI:=Ds.all ‹Ds own b _› hJ;haveI:=Ds.all ‹Ds own b' _› hJ;by_cases hn:n=n'
  · have hA:=JA [J] b b' m m' d d' ys LP h2 h4 Ab;rw [decide_eq_false (fun q=>h ⟨hn,q⟩)] at hA
    refine CL Tryz.func129 rfl (Nat.le_of_ble_eq_true rfl) fun F=> ?_
    repeat' (first|apply Cv|refine Ct 0 Cr Bq ?_|refine CY 2 Cr Ax Ab ?_|refine Ct 3 Cr Af ?_|refine Ct 4 Cr Ae ?_|refine Ct 4 Cr (CE rfl rfl rfl rfl rfl (hA)) ?_|refine Ct 5 Cr Aq ?_|refine C2 (fun β=> ?_)|refine CT (fun β=> ?_)|refine CN ?_|refine Cu ?_|apply Cw|refine Cy ?_|refine CH ?_|apply Cz|refine CQ ?_)
    exact CS (CU (CR rfl rfl rfl rfl) (Cx rfl)) rfl
  · refine CL Tryz.func129 rfl (Nat.le_of_ble_eq_true rfl) fun F=> ?_
    repeat' (first|apply Cv|refine Ct 0 Cr Aw ?_|refine CG 0 Cs ?_|refine CO 2 Cr Ax Ab ?_|refine Ct 3 Cr Af ?_|refine CG 3 Cs ?_|refine CG 4 Cs ?_|refine Ct 4 Cr Ae ?_|refine Ct 5 Cr Aq ?_|refine C2 (fun β=> ?_)|refine CT (fun β=> ?_)|refine CN ?_|refine Cu ?_|apply Cw|refine Cy ?_|refine CH ?_|apply Cz|refine CQ ?_)
    exact CS (CU (CR rfl rfl rfl rfl) (Cx rfl)) rfl
theorem UT(K:CA)(a bs a' b':Option Addr)(n m m' c d c' d':Nat)(xs ys Jj:List Int)(s1:Sl K a (xs.map i64))(s2:Sl K bs (ys.map i64))(s3:Sl K a' (Jj.map i64))(s4:Sl K b' (ys.map i64))
    (h1:xs.length=n) (h2:ys.length=m) (h3:Jj.length=n) (h4:ys.length=m') (DO:n≤4000000) (RF:m≤4000000):
    SL.T Tryz.prog 129 [fr a bs n m c d,fr a' b' n m' c' d'] [K] fun e o=>∃q1 q2 b1 c1 b2 c2,o= [K,q1,q2]/\e= .returned (.tuple #[fr b1 b2 n m c1 c2,.bool true])/\OS q1 b1 n c1 79 1 ((EB xs Jj).map i64)/\OS q2 b2 m c2 79 1 (ys.map i64):=by
  haveI:=s2;haveI:=s4;have hA:=JA [K] bs b' m m' d d' ys ys h2 h4 Ab;rw [decide_eq_true rfl] at hA
  have eS:(ys.map i64).length=m*1:=by simp [h2]
  have oS:(ys.map i64).all (·.oneCell')=true:=by simp [Value.oneCell']
  refine CM Tryz.func129 rfl (Nat.le_of_ble_eq_true rfl) fun F=> ?_
  repeat' (first|apply Cv|refine Ct 0 Cr AO ?_|refine CY 2 Cr Ax Ab ?_|refine Ct 3 Cr Af ?_|refine Ct 4 Cr Ae ?_|refine Ct 4 Cr (CE rfl rfl rfl rfl rfl (hA)) ?_|(refine gk 4 rfl ?_;(refine EH (h:=CV _ (.cells ⟨[]⟩ 79 (0,0))) rfl rfl rfl rfl rfl rfl rfl rfl rfl (OS.CV (len:=0) rfl) eS Ah oS Ab Ab (fun hB bB cB OL XB=> ?_);rw [Nat.zero_add m] at OL ⊢))|refine Ct 5 Cr Aq ?_|refine CP (fun b=> ?_)|refine C2 (fun β=> ?_)|refine CT (fun β=> ?_)|refine CN ?_|refine Cu ?_|apply Cw|refine Cy ?_|refine CF ?_|refine CC ?_|apply CB)
  rw [List.nil_append] at OL
  haveI:=s1;haveI:=s3;obtain⟨JP,rfl⟩:∃x,x=β:=⟨_,rfl⟩;obtain⟨EO,rfl⟩:∃x,x=β:=⟨_,rfl⟩;obtain⟨JQ,rfl⟩:∃x,x=β:=⟨_,rfl⟩;obtain⟨Ei,rfl⟩:∃x,x=β:=⟨_,rfl⟩;refine DH ?_;refine C4 (fun s:SJ=> [(2,.pointer (some ⟨Ei,0,none⟩)),(3,.pointer (some ⟨JQ,0,none⟩)),(4,.pointer (some ⟨EO,0,none⟩)),(6,.pointer (some ⟨JP,0,none⟩)),(7,i64 (s.i:Int))])
    (fun s=> [s.h,CV JP (.cells ⟨[.slice s.b s.i s.c,.slice bB m cB]⟩ 60 (0,0)),hB,CV EO (.cells ⟨[.slice none 0 0,.slice none 0 0]⟩ 60 (0,0)),CV JQ (.cells ⟨[.slice a' n c',.slice b' m' d']⟩ 60 (0,0)),CV Ei (.cells ⟨[.slice a n c,.slice bs m d]⟩ 60 (0,0)),K]) (fun s=>s.i≤n/\OS s.h s.b s.i s.c 79 1 (((EB xs Jj).take s.i).map i64)) (fun s=>n - s.i) ⟨0,emp,none,0⟩ (by repeat first|exact Sub.nil _|refine Sub.cons rfl ?_) ⟨Nat.zero_le _,OS.nil⟩ ?_
  rintro⟨j,H,bH,cH⟩ ⟨LV,os⟩;dsimp only at LV os ⊢
  by_cases hj:j<n
  · obtain⟨x,hx⟩:∃z,xs[j]?=some z:=⟨_,List.getElem?_eq_getElem Ab⟩;obtain⟨x',KL⟩:∃z,Jj[j]?=some z:=⟨_,List.getElem?_eq_getElem Ab⟩;have hcx:(xs.map i64)[((j:Nat):Int).toNat*1]?=some (i64 x):=by simp [hx]
    have hcx':(Jj.map i64)[((j:Nat):Int).toNat*1]?=some (i64 x'):=by simp [KL]
    have hkx:((j:Nat):Int).toNat*1<(xs.map i64).length:=by simp;omega
    have hkx':((j:Nat):Int).toNat*1<(Jj.map i64).length:=by simp;omega
    have hs:(EB xs Jj).take (j+1)=(EB xs Jj).take j++ [if x=x' then x else -1]:=by rw [List.take_add_one,cG hx KL];rfl
    by_cases hxx:x=x'
    · subst hxx;rw [if_pos rfl] at hs
      repeat' (first|apply Cv|refine Ct 0 Cr Ap ?_|refine CO 2 Cr Aj Ab ?_|refine Ct 3 Cr Af ?_|refine Ct 4 Cr Ae ?_|refine Cu ?_|apply Cw|refine Cy ?_|refine CH ?_|refine CC ?_|apply CB)
      refine De Ac Ac rfl ?_
      repeat' (first|refine Ct 0 Cr Ap ?_|refine CO 2 Cr Al Ab ?_|refine Ct 3 Cr AG ?_|apply Cw|refine Cy ?_|refine CH ?_)
      refine C0 [.q [0,1,2,3,4,5,6],.an 7,.rv 7,.h true 8,.q [9],.h true 10] [CV Ei (.cells ⟨[.slice a n c,.slice bs m d]⟩ 60 (0,0)),K] Ac Ac Ac Ac ?_
      repeat' (first|refine Ct 0 Cr Ag ?_|refine Ct 1 Cr Ao ?_|refine Ct 3 Cr AG ?_|refine Cu ?_|refine C5 ?_|refine Dd rfl ?_|refine Dn rfl rfl AU ?_|refine DN rfl rfl rfl (fun β=> ?_)|refine Df rfl rfl rfl rfl rfl rfl Aa rfl Aa Aa ?_|(refine FP rfl rfl rfl rfl rfl rfl rfl rfl rfl os Ah rfl Ah rfl Ab Ab (fun hA bA cA MO=> ?_))|apply Cw|refine Cy ?_)
      refine⟨rfl,⟨j+1,hA,bA,cA⟩,CX (by repeat first|exact Sub.nil _|refine Sub.cons rfl ?_),⟨hj,?_⟩,by dsimp only;omega⟩;dsimp only;rw [hs,List.map_append];exact MO
    · rw [if_neg hxx] at hs
      repeat' (first|apply Cv|refine Ct 0 Cr Ap ?_|refine CO 2 Cr Aj Ab ?_|refine Ct 3 Cr Af ?_|refine Ct 4 Cr Ae ?_|refine Cu ?_|apply Cw|refine Cy ?_|refine CH ?_|refine CC ?_|apply CB)
      refine De Ac Ac rfl ?_
      repeat' (first|refine Ct 0 Cr Ag ?_|refine Ct 1 Cr Ao ?_|refine CY 2 Cr Al Ab ?_|refine Ct 3 Cr AG ?_|(refine gk 4 rfl ?_;(refine Ef rfl rfl rfl rfl rfl rfl rfl rfl rfl os Ah rfl Ah rfl Ab Ab (fun hA bA cA MO=> ?_)))|refine CP (fun b=> ?_)|refine CN ?_|refine Cu ?_|apply Cw|refine Cy ?_|refine CF ?_)
      refine⟨rfl,⟨j+1,hA,bA,cA⟩,CX (by repeat first|exact Sub.nil _|refine Sub.cons rfl ?_),⟨hj,?_⟩,by dsimp only;omega⟩;dsimp only;rw [hs,List.map_append];exact MO
  · obtain rfl:j=n:=by omega
    rw [List.take_of_length_le (by rw [EY Ab];omega)] at os
    repeat' (first|apply Cv|refine Ct 0 Cr Ag ?_|refine CY 2 Cr Aj Ab ?_|refine Ct 3 Cr AE ?_|refine Ct 4 Cr Ae ?_|refine CN ?_|refine Cu ?_|apply Cw|refine Cy ?_|refine CF ?_|apply Cz|refine C1 ?_)
    exact CJ [K,H,hB] (CU (CR rfl rfl rfl rfl) (Cx rfl)) ⟨H,hB,bH,cH,bB,cB,rfl,rfl,os,OL⟩
end Go.Proofs.YtcnmnmjmpocepaaGreatDoor
end
