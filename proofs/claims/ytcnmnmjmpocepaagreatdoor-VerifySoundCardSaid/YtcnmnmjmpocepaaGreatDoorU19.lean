
import Derived.Test.YtcnmnmjmpocepaaGreatDoorU00
import Derived.Test.YtcnmnmjmpocepaaGreatDoorU11
import Derived.Test.YtcnmnmjmpocepaaGreatDoorU18
import Derived.Test.YtcnmnmjmpocepaaGreatDoorU10
import Derived.Test.YtcnmnmjmpocepaaGreatDoorU12
import Derived.Test.YtcnmnmjmpocepaaGreatDoorU09
set_option linter.unusedVariables false
set_option linter.unusedSimpArgs false
set_option linter.unusedSectionVars false
set_option maxRecDepth 100000
set_option maxHeartbeats 16000000
section
namespace Go.Proofs.YtcnmnmjmpocepaaGreatDoor
open Go.SL
open Kd
attribute [local irreducible] SL.T C7 Dc C6 Db DS Du
theorem Ia(own:List B6)(b1 b2:Option Addr)(n1 n2 c1 c2:Nat)(xs ys:List Int) [s1:C0 own b1 (xs.map i64)] [s2:C0 own b2 (ys.map i64)](h1:xs.length=n1)(h2:ys.length=n2)(DE:n1≤9223372036854775807):
    C7 Tryz.prog 75 [.slice b1 n1 c1,.slice b2 n2 c2] own (.bool (decide (xs=ys))):=by
  refine LW fun J hJ=> ?_
  haveI:=s1.all hJ;haveI:=s2.all hJ;by_cases hn:n1=n2
  · subst hn;refine Ci Tryz.func75 rfl (Nat.le_of_ble_eq_true rfl) fun F=> ?_
    repeat' (first|apply B4|refine B3 0 BY Af ?_|refine CE 2 BY Av Ab ?_|refine B3 4 BY Ag ?_|refine B0 ?_|apply B5|refine B8 ?_|refine Cg ?_|refine Cf ?_|apply Cc)
    refine CH (fun j:Nat=> [(0,.slice b1 n1 c1),(1,.slice b2 n1 c2),(5,i64 (j:Int))])
      (fun _=> [J]) (fun j=>j≤n1/\xs.take j=ys.take j) (fun j=>n1 - j) 0 (by repeat first|exact Sub.nil _|refine Sub.cons rfl ?_) ⟨Nat.zero_le _,rfl⟩ ?_
    rintro j ⟨Pm,Gs⟩;by_cases hj:j<n1
    · obtain⟨x,hx⟩:∃z,xs[j]?=some z:=⟨_,List.getElem?_eq_getElem Ab⟩;obtain⟨y,hy⟩:∃z,ys[j]?=some z:=⟨_,List.getElem?_eq_getElem Ab⟩;have hcx:(xs.map i64)[((j:Nat):Int).toNat*1]?=some (i64 x):=by simp [hx]
      have hcy:(ys.map i64)[((j:Nat):Int).toNat*1]?=some (i64 y):=by simp [hy]
      by_cases Ju:x=y
      · subst Ju
        repeat' (first|apply B4|refine B3 0 BY Af ?_|refine B3 1 BY Ap ?_|refine Cs 2 BY A5 Ab ?_|refine CE 2 BY Av Ab ?_|refine B3 3 BY AE ?_|refine B3 4 BY Ag ?_|refine B0 ?_|refine C5 Ac Ac rfl ?_|apply B5|refine B8 ?_|refine Cl ?_|refine Cg ?_|refine Cf ?_|apply Cc)
        refine⟨rfl,j+1,CA (by repeat first|exact Sub.nil _|refine Sub.cons rfl ?_),⟨by omega,?_⟩,by omega⟩;rw [List.take_add_one,List.take_add_one,hx,hy,Gs]
      · repeat' (first|apply B4|refine B3 0 BY Af ?_|refine Cs 2 BY A5 Ab ?_|refine B3 3 BY AE ?_|refine B3 4 BY Ag ?_|refine B0 ?_|refine C5 Ac Ac rfl ?_|apply B5|refine B8 ?_|refine Cl ?_|refine Cf ?_|apply Cb|apply Cc|refine Cx ?_|refine Dd ?_)
        refine Cj [J] (Ce (B7 rfl)) ⟨?_,rfl⟩;refine congrArg _ (congrArg Value.bool (decide_eq_false fun e=>Ju ?_).symm);rw [e,hy] at hx;cases hx;rfl
    · repeat' (first|apply B4|refine B3 0 BY Af ?_|refine CE 2 BY Aj Ab ?_|refine B3 4 BY Ag ?_|refine B0 ?_|apply B5|refine B8 ?_|refine Cg ?_|apply Cb|refine CC ?_)
      rw [List.take_of_length_le Ab,List.take_of_length_le Ab] at Gs
      rw [decide_eq_true Gs];exact Cj [J] (Ce (B7 rfl)) ⟨rfl,rfl⟩
  · have e:decide (xs=ys)=false:=decide_eq_false fun e=>hn (by rw [<-h1,<-h2,e])
    rw [e];refine Ci Tryz.func75 rfl (Nat.le_of_ble_eq_true rfl) fun F=> ?_
    repeat' (first|apply B4|refine B3 0 BY Af ?_|refine Cs 2 BY Av Ab ?_|refine B3 4 BY Ag ?_|refine B0 ?_|apply B5|refine B8 ?_|refine Cl ?_|apply Cb|refine Cx ?_)
    exact Cj [J] (Ce (B7 rfl)) ⟨rfl,rfl⟩
theorem RM(own:List B6)(a b a' b':Option Addr)(n m n' m' c d c' d':Nat)(xs ys HR J9:List Int) [C0 own a (xs.map i64)] [C0 own b (ys.map i64)] [C0 own a' (HR.map i64)] [C0 own b' (J9.map i64)]
    (h1:xs.length=n) (h2:ys.length=m) (h3:HR.length=n') (h4:J9.length=m') (DE:n≤4000000) (Pk:m≤4000000):
    C7 Tryz.prog 43 [fr a b n m c d,fr a' b' n' m' c' d'] own (.bool (decide (xs=HR/\ys=J9))):=by
  refine LW fun J hJ=> ?_
  haveI:=C0.all ‹C0 own a _› hJ;haveI:=C0.all ‹C0 own b _› hJ;haveI:=C0.all ‹C0 own a' _› hJ;haveI:=C0.all ‹C0 own b' _› hJ;refine Ci Tryz.func43 rfl (Nat.le_of_ble_eq_true rfl) fun F=> ?_
  repeat' (first|apply B4|refine B3 0 BY AP ?_|refine B3 3 BY Ah ?_|refine Cw 3 BZ ?_|refine Cw 4 BZ ?_|refine IC 4 BY (Ca rfl rfl rfl rfl rfl (Ia [J] _ _ _ _ _ _ xs HR h1 h3 Ab)) (fun h=> ?_) (fun h=> ?_)|refine IC 4 BY (Ca rfl rfl rfl rfl rfl (Ia [J] _ _ _ _ _ _ ys J9 h2 h4 Ab)) (fun h=> ?_) (fun h=> ?_)|refine CF (fun β=> ?_)|refine B0 ?_|apply B5|refine B8 ?_|apply Cb)
  all_goals
    refine Cr (Ce (B7 rfl)) ?_;refine congrArg Value.bool ?_
    symm
    first|exact decide_eq_true ⟨by assumption,by assumption⟩|(refine decide_eq_false ?_;rintro⟨rfl,rfl⟩;contradiction)
end Go.Proofs.YtcnmnmjmpocepaaGreatDoor
end
section
namespace Go.Proofs.YtcnmnmjmpocepaaGreatDoor
open Go.SL
open Kd
theorem aW(own:List B6)(x y:Nat)(h:x*y<18446744073709551616)(hx:x<18446744073709551616)(hy:y<18446744073709551616):
    C7 Tryz.prog 76 [.int .u64 x,.int .u64 y] own (.tuple #[.int .u64 0,.int .u64 ((x*y:Nat):Int)]):=fun w X s=>
  (Tryz.bits_Mul x y hx hy w).mono fun e w' ⟨h1,h2⟩=>⟨own,by subst h2;exact s,by rw [h1,Nat.div_eq_of_lt h,Nat.mod_eq_of_lt h];rfl,rfl⟩
theorem cg{d m k:Nat}{v z:Value}(hm:m≤d)(j:Nat)(v':Value)(h:(List.replicate m v)[j]?=some v'):(List.replicate d v++List.replicate k z)[0+j]?=some v':=by
  have hj:j<m:=by simpa using(List.getElem?_eq_some_iff.1 h).1
  rw [Nat.zero_add,List.getElem?_append_left Aq,List.getElem?_replicate,if_pos Ab];rw [List.getElem?_replicate,if_pos hj] at h
  exact h
theorem ZN{n d m:Nat}{v z:Value}:(List.replicate d v++List.replicate (n - d) z).take d++List.replicate m v++(List.replicate d v++List.replicate (n - d) z).drop (d+m*1)=List.replicate (d+m) v++List.replicate (n - (d+m)) z:=by
  rw [List.take_left' Ak,Nat.mul_one,List.drop_append,List.drop_eq_nil_of_le Ak,List.nil_append,List.length_replicate,List.drop_replicate,List.replicate_append_replicate]
  congr 2
  omega
attribute [local irreducible] SL.T C7 Dc C6 Db DS Du
theorem ZO(Rn:Nat)(v:Int)(n:Nat)(h0:0<n)(hn:n≤65536):SL.T Tryz.prog 45 [.slice (some ⟨Rn,0,none⟩) 1 1,i64 (n:Int)] [Co Rn (.cells ⟨[i64 v]⟩ 79 (0,0))] fun e o=>
    ∃b,e= .returned (.slice (some ⟨b,0,none⟩) n n)/\o= [Co b (.cells ⟨List.replicate n (i64 v)⟩ 79 (0,0)),Co Rn (.cells ⟨[i64 v]⟩ 79 (0,0))]:=by
  have h:=aW [] 1 n Ab Ab Ab;rw [Nat.one_mul] at h
  have e1:Value.int .u64 (IntKind.u64.wrap (n:Int))= .int .u64 (n:Int):=by rw [Hu Ab]
  have e2:Value.int .i64 (IntKind.i64.wrap (n:Int))=i64 (n:Int):=by rw [C8 Ab Ab]
  refine Ch Tryz.func45 rfl (Nat.le_of_ble_eq_true rfl) fun F=> ?_
  repeat' (first|refine Cq rfl rfl rfl ((CO (ks:= .i64) (kt:= .u64) (a:=(n:Int)) rfl rfl).to e1) ?_|refine Cq rfl rfl rfl ((CO (ks:= .u64) (kt:= .i64) (a:=(n:Int)) rfl rfl).to e2) ?_|apply B4|refine B3 0 BY AS ?_|refine CE 2 BY Bc Ab ?_|refine B3 4 BY Ag ?_|refine B3 4 BY (Ca rfl rfl rfl rfl rfl (h)) ?_|refine B3 5 BY (by exact CO rfl rfl) ?_|refine B0 ?_|apply B5|refine B8 ?_|refine Cg ?_|apply Cc)
  refine Gt rfl rfl rfl (EP (m:=n) rfl rfl rfl Aa Ab Ab) (fun b=> ?_)
  repeat' (first|apply B4|refine B3 0 BY Af ?_|refine B0 ?_|apply B5)
  refine NH (T:=79) (m:=1) (cs:=List.replicate n (i64 0)) (src:= [i64 v]) (k:=Co Rn (.cells ⟨[i64 v]⟩ 79 (0,0))) (cs':=List.replicate 1 (i64 v)++List.replicate (n - 1) (i64 0)) rfl rfl rfl rfl rfl rfl rfl rfl rfl Sl.Co (Nat.min_eq_left h0) rfl Aq rfl (by simp [List.drop_replicate]) ?_
  repeat' (first|apply B4|refine B3 0 BY Au ?_|apply B5|refine Cf ?_)
  refine CH (fun d:Nat=> [(7,.slice (some ⟨b,0,none⟩) n n),(8,i64 (d:Int))])
    (fun d=> [Co b (.cells ⟨List.replicate d (i64 v)++List.replicate (n - d) (i64 0)⟩ 79 (0,0)),Co Rn (.cells ⟨[i64 v]⟩ 79 (0,0))]) (fun d=>0<d/\d≤n) (fun d=>n - d) 1 (by repeat first|exact Sub.nil _|refine Sub.cons rfl ?_) ⟨Nat.zero_lt_one,h0⟩ ?_
  rintro d ⟨ai,fk⟩;by_cases hd:d<n
  · obtain⟨m,hm⟩:∃m,Nat.min d (n - d)=m:=⟨_,rfl⟩;have Yw:min d (n - d)=m:=hm;have esub:Value.slice (sub (some ⟨b,0,none⟩) ((d:Nat):Int).toNat n 1) (n - ((d:Nat):Int).toNat) (n - ((d:Nat):Int).toNat)= .slice (some ⟨b,d,none⟩) (n - d) (n - d):=by
      rw [show sub (some (⟨b,0,none⟩:Addr)) ((d:Nat):Int).toNat n 1=some ⟨b,d,none⟩ from by rw [Int.toNat_natCast];unfold sub;rw [if_neg Ab];simp [Addr.add];omega];rfl
    repeat' (first|apply B4|refine B3 0 BY Am ?_|refine Cs 2 BY Aj Ab ?_|refine B3 4 BY Ag ?_|refine B0 ?_|apply B5|refine B8 ?_|refine Cl ?_|refine Cf ?_|apply Cc)
    refine Cu [.f [0],.q [1,2,3,4,5,6],.h true 7,.q [8,9]] [] Ac Ac Ac Ac ?_
    repeat' (first|refine Cq rfl rfl rfl ((G0 rfl rfl rfl Ab Ab).to esub) ?_|refine B3 0 BY Af ?_|refine B3 1 BY Ap ?_|refine B3 5 BY Bt ?_|refine Cz ?_|refine CQ rfl ?_|refine FD rfl ?_|refine WZ (T:=79) (off:=d) (o2:=0) (m:=m) (cs:=List.replicate d (i64 v)++List.replicate (n - d) (i64 0)) (src:=List.replicate m (i64 v)) (cs':=List.replicate (d+m) (i64 v)++List.replicate (n - (d+m)) (i64 0)) rfl rfl rfl rfl rfl rfl rfl rfl rfl (cg Ab) hm Ak Aq (by simp [Value.oneCell']) ZN ?_|apply B5|refine B8 ?_|refine H4 ?_)
    exact⟨rfl,d+m,CA (by repeat first|exact Sub.nil _|refine Sub.cons rfl ?_),⟨by omega,by omega⟩,by omega⟩
  · obtain rfl:d=n:=by omega
    repeat' (first|apply B4|refine B3 0 BY Af ?_|refine CE 2 BY Aj Ab ?_|refine B3 4 BY Ag ?_|refine B0 ?_|apply B5|refine B8 ?_|refine Cg ?_|apply Cb|refine CC ?_)
    exact Cj [Co b (.cells ⟨List.replicate d (i64 v)++List.replicate (d - d) (i64 0)⟩ 79 (0,0)),Co Rn (.cells ⟨[i64 v]⟩ 79 (0,0))] (Ce (B7 rfl)) ⟨b,rfl,by simp⟩
theorem XQ(Rn:Nat)(v:Int):SL.T Tryz.prog 45 [.slice (some ⟨Rn,0,none⟩) 1 1,i64 0] [Co Rn (.cells ⟨[i64 v]⟩ 79 (0,0))] fun e o=>
    ∃b,e= .returned (.slice (some ⟨b,0,none⟩) 0 0)/\o= [Co b (.cells ⟨[]⟩ 79 (0,0)),Co Rn (.cells ⟨[i64 v]⟩ 79 (0,0))]:=by
  have h:=aW [] 1 0 Ab Ab Ab;refine Ch Tryz.func45 rfl (Nat.le_of_ble_eq_true rfl) fun F=> ?_
  repeat' (first|apply B4|refine B3 0 BY AS ?_|refine CE 2 BY Bc Ab ?_|refine B3 4 BY Ag ?_|refine B3 4 BY (Ca rfl rfl rfl rfl rfl (h)) ?_|refine B3 5 BY (by exact CO rfl rfl) ?_|refine B0 ?_|apply B5|refine B8 ?_|refine Cg ?_|apply Cc)
  refine Gt rfl rfl rfl (EP (m:=0) rfl rfl rfl Aa Ab Ab) (fun b=> ?_)
  repeat' (first|apply B4|refine B3 0 BY Af ?_|refine B0 ?_|apply B5)
  refine NH (T:=79) (m:=0) (cs:=List.replicate 0 (i64 0)) (src:= []) (k:=Co Rn (.cells ⟨[i64 v]⟩ 79 (0,0))) (cs':= []) rfl rfl rfl rfl rfl rfl rfl rfl rfl (Sl.take (cs:= [i64 v]) Sl.Co 0) rfl rfl Ae rfl rfl ?_
  repeat' (first|apply B4|refine B3 0 BY Au ?_|apply B5|refine Cf ?_)
  refine GK 2 (JP ?_)
  repeat' (first|apply B4|refine B3 0 BY Af ?_|refine CE 2 BY Aj Ab ?_|refine B3 4 BY Ag ?_|refine B0 ?_|apply B5|refine B8 ?_|refine Cg ?_|apply Cb|refine CC ?_)
  exact Cj [Co b (.cells ⟨[]⟩ 79 (0,0)),Co Rn (.cells ⟨[i64 v]⟩ 79 (0,0))] (Ce (B7 rfl)) ⟨b,rfl,rfl⟩
end Go.Proofs.YtcnmnmjmpocepaaGreatDoor
end
section
namespace Go.Proofs.YtcnmnmjmpocepaaGreatDoor
open Go.SL
open Kd
abbrev F8(DF:Option Addr)(DW EG:Nat)(mb:Option Addr)(mn mc:Nat):Value:= .agg ⟨[.slice DF DW EG,.slice mb mn mc]⟩
abbrev ie(pb:Option Addr)(pn pc:Nat)(lo st:Int)(cb:Option Addr)(cn cc:Nat):Value:= .agg ⟨[.slice pb pn pc,i64 lo,i64 st,.slice cb cn cc]⟩
attribute [local irreducible] SL.T C7 Dc C6 Db DS Du
end Go.Proofs.YtcnmnmjmpocepaaGreatDoor
end
section
namespace Go.Proofs.YtcnmnmjmpocepaaGreatDoor
open Go.SL
open Kd
attribute [local irreducible] SL.T C7 Dc C6 Db DS Du
end Go.Proofs.YtcnmnmjmpocepaaGreatDoor
end
section
namespace Go.Proofs.YtcnmnmjmpocepaaGreatDoor
open Go.SL
open Kd
attribute [local irreducible] SL.T C7 Dc C6 Db DS Du
end Go.Proofs.YtcnmnmjmpocepaaGreatDoor
end
section
namespace Go.Proofs.YtcnmnmjmpocepaaGreatDoor
open Go.SL
open Kd
attribute [local irreducible] SL.T C7 Dc C6 Db DS Du
end Go.Proofs.YtcnmnmjmpocepaaGreatDoor
end
section
namespace Go.Proofs.YtcnmnmjmpocepaaGreatDoor
open Go.SL
open Kd
attribute [local irreducible] SL.T C7 Dc C6 Db DS Du
end Go.Proofs.YtcnmnmjmpocepaaGreatDoor
end
section
namespace Go.Proofs.YtcnmnmjmpocepaaGreatDoor
open Go.SL
open Kd
attribute [local irreducible] SL.T C7 Dc C6 Db DS Du
end Go.Proofs.YtcnmnmjmpocepaaGreatDoor
end
section
namespace Go.Proofs.YtcnmnmjmpocepaaGreatDoor
open Go.SL
open Kd
def EC(m:Me)(k:Nat):List Int:=(List.range k).map fun i=>m.params.getD i (-1)
def EU(m:Me):Nat:=(min (max m.lo 0) 65536).toNat
theorem GU(m:Me)(k:Nat):(EC m k).length=k:=by simp [EC]
theorem PB(m:Me):EU m≤65536:=by unfold EU;omega
def Zb(m:Me)(K:B6)(e:Ending)(o:List B6):Prop:=
  ∃h b c,o= [K,h]/\e= .returned (.tuple #[fr b none (EU m) 0 c 0,i64 0])/\OS h b (EU m) c 79 1 ((EC m (EU m)).map i64)
attribute [local irreducible] SL.T C7 Dc C6 Db DS Du
end Go.Proofs.YtcnmnmjmpocepaaGreatDoor
end
section
namespace Go.Proofs.YtcnmnmjmpocepaaGreatDoor
open Go.SL
open Kd
theorem WA(l:List Int):(l.map i64).all (·.oneCell')=true:=by simp [Value.oneCell']
theorem ZE{h:B6}{cs:List Value}(s:Sl h none cs):cs= []:=by
  cases cs with
  |nil=>rfl
  |cons c l=>obtain⟨a',fJ,T3,ki,p1, -⟩:=s.cell 0 c rfl;cases p1
theorem V5(m:Me)(n k:Nat)(hk:min m.params.length n=k):m.params.take k++List.replicate (n - k) (-1)=EC m n:=by
  apply List.ext_getElem?;intro i;have hr:(EC m n)[i]?=if i<n then some (m.params.getD i (-1)) else none:=by
    by_cases hi:i<n
    · simp [EC,hi]
    · simp [EC,hi]
  rw [hr];by_cases hi:i<k
  · rw [List.getElem?_append_left Aq,List.getElem?_take,if_pos hi,if_pos Ab];simp [List.getD,List.getElem?_eq_getElem (show i<m.params.length by omega)]
  · rw [List.getElem?_append_right Aq,List.getElem?_replicate];have hl:(m.params.take k).length=k:=by simp;omega
    rw [hl];by_cases h2:i<n
    · rw [if_pos Ab,if_pos h2,List.getD,List.getElem?_eq_none Ab];rfl
    · rw [if_neg Ab,if_neg h2]
attribute [local irreducible] SL.T C7 Dc C6 Db DS Du
theorem ZP(Rn:Nat)(v:Int)(n:Nat)(hn:n≤65536):SL.T Tryz.prog 45 [.slice (some ⟨Rn,0,none⟩) 1 1,i64 (n:Int)] [Co Rn (.cells ⟨[i64 v]⟩ 79 (0,0))] fun e o=>
    ∃b,e= .returned (.slice (some ⟨b,0,none⟩) n n)/\o= [Co b (.cells ⟨List.replicate n (i64 v)⟩ 79 (0,0)),Co Rn (.cells ⟨[i64 v]⟩ 79 (0,0))]:=by
  rcases Nat.eq_zero_or_pos n with rfl|h
  · exact XQ Rn v
  · exact ZO Rn v n h hn
theorem Ln(K:B6)(im:Im)(DF mb:Option Addr)(DW EG mn mc:Nat)(mi:Int)(HM:I6 K im.ms mb mn)(m:Me)
    (h:0≤mi/\mi<mn) (hm:im.ms[mi.toNat]?=some m):SL.T Tryz.prog 18 [F8 DF DW EG mb mn mc,i64 mi] [K] (Zb m K):=by
  obtain⟨CY,h1,h2,h3,h4,h5⟩:=HM;obtain⟨pb,pn,pc,cb,cn,cc,g1,g2,g3,g4,g5,g6,g7,g8,g9,g10⟩:=h5 _ _ hm;haveI:=h1;have hN:=PB m;have hN2:min (max m.lo 0) 65536=(EU m:Int):=by unfold EU;omega
  generalize hn:EU m=n at hN hN2
  unfold Zb;rw [hn];have hrep:=fun β=>ZP β (-1) n hN
  have e2:Value.int .i64 (min (max m.lo 0) 65536)=i64 (n:Int):=congrArg _ hN2;refine Ch Tryz.func18 rfl (Nat.le_of_ble_eq_true rfl) fun F=> ?_
  repeat' (first|apply B4|refine B3 0 BY AL ?_|refine B3 3 BY Ah ?_|refine B3 4 BY (Ca rfl rfl rfl rfl rfl (JL [K] _ _ _ CY _ _ _ _ _ h2 h4 h ⟨g1,g2,g3,g4⟩ rfl)) ?_|refine CF (fun β=> ?_)|refine Cn (fun β=> ?_)|refine Ck ?_|refine B0 ?_|apply B5|refine B8 ?_|refine Cg ?_|apply Cc)
  refine Cu [.an 0,.q [2,3,4,5],.an 8,.rv 0,.q [1],.h true 6,.q [7],.rv 8,.h true 9] [] Ac Ac Ac Ac ?_
  repeat' (first|refine Cq rfl rfl rfl ((Nh rfl rfl rfl rfl rfl).to e2) ?_|apply B4|refine B3 3 BY Ah ?_|refine B3 4 BY (by exact Vg rfl rfl rfl rfl rfl) ?_|refine B3 4 BY (Ca rfl rfl rfl rfl rfl (Ep [] _)) ?_|refine B3 5 BY Ar ?_|refine B0 ?_|refine Cz ?_|refine CQ rfl ?_|refine Dg rfl rfl (by first|exact JU rfl Aa|exact EY rfl rfl Aa Aa Aa Aa Aa) ?_|refine DL rfl rfl rfl (fun β=> ?_)|refine C2 rfl rfl rfl rfl rfl rfl Aa rfl Aa Aa ?_|(refine Fx rfl rfl rfl rfl rfl rfl rfl rfl (hrep _) ?_;rintro _ _ ⟨bR,rfl,rfl⟩;refine⟨_,_,rfl,rfl,?_⟩)|apply B5)
  obtain⟨k,hk⟩:∃k,Nat.min pn n=k:=⟨_,rfl⟩;have Mm:min pn n=k:=hk;have hkm:min m.params.length n=k:=by rw [g6];exact hk
  have hcells:(List.replicate n (i64 (-1))).take 0++(m.params.map i64).take k++(List.replicate n (i64 (-1))).drop (0+k*1)=(EC m n).map i64:=by
    rw [<-V5 m n k hkm,List.map_append,List.map_take,List.map_replicate,List.take_zero,List.nil_append,List.drop_replicate,Nat.mul_one,Nat.zero_add]
  have hlen:((EC m n).map i64).length=n*1:=by simp [GU]
  rcases pb with _|ap
  · have hp:m.params= []:=List.map_eq_nil_iff.1 (ZE g5);obtain rfl:pn=0:=by rw [hp] at g6;exact g6.symm
    have e:List.replicate n (i64 (-1))=(EC m n).map i64:=by
      rw [<-hcells,hp];simp;omega
    rw [e]
    repeat' (first|apply B4)
    refine XI rfl rfl rfl rfl rfl rfl rfl rfl rfl ?_
    repeat' (first|apply B4|refine B3 0 BY Au ?_|refine B3 3 BY Az ?_|refine Ck ?_|refine B0 ?_|apply B5|refine B8 ?_|apply Cb)
    exact Cj [K,Co bR (.cells ⟨(EC m n).map i64⟩ 79 (0,0))] (Ct (Cv rfl rfl rfl rfl) (B7 rfl)) ⟨_,some ⟨bR,0,none⟩,n,rfl,rfl,OS.Co (len:=n) hlen⟩
  · repeat' (first|apply B4)
    refine NH (T:=79) (m:=k) (cs:=List.replicate n (i64 (-1))) (src:=(m.params.map i64).take k) (k:=K) (cs':=(EC m n).map i64) rfl rfl rfl rfl rfl rfl rfl rfl rfl (Sl.take g5 k) hk Aq Aq (by rw [<-List.map_take];exact WA _) hcells ?_
    repeat' (first|apply B4|refine B3 0 BY Au ?_|refine B3 3 BY Az ?_|refine Ck ?_|refine B0 ?_|apply B5|refine B8 ?_|apply Cb)
    exact Cj [K,Co bR (.cells ⟨(EC m n).map i64⟩ 79 (0,0))] (Ct (Cv rfl rfl rfl rfl) (B7 rfl)) ⟨_,some ⟨bR,0,none⟩,n,rfl,rfl,OS.Co (len:=n) hlen⟩
end Go.Proofs.YtcnmnmjmpocepaaGreatDoor
end
section
namespace Go.Proofs.YtcnmnmjmpocepaaGreatDoor
open Go.SL
open Kd
attribute [local irreducible] SL.T C7 Dc C6 Db DS Du
end Go.Proofs.YtcnmnmjmpocepaaGreatDoor
end
section
namespace Go.Proofs.YtcnmnmjmpocepaaGreatDoor
open Go.SL
open Kd
end Go.Proofs.YtcnmnmjmpocepaaGreatDoor
end
section
namespace Go.Proofs.YtcnmnmjmpocepaaGreatDoor
open Go.SL
open Kd
theorem Oc{xs ys:List Int}{j:Nat}{x y:Int}(hx:xs[j]?=some x)(hy:ys[j]?=some y):(CP xs ys)[j]?=some (if x=y then x else -1):=by
  simp [CP,List.getElem?_zipWith,hx,hy]
structure SJ where
  i:Nat
  h:B6
  b:Option Addr
  c:Nat
attribute [local irreducible] SL.T C7 Dc C6 Db DS Du
theorem XT(own:List B6)(a b a' b':Option Addr)(n m n' m' c d c' d':Nat)(ys J9:List Int) [C0 own b (ys.map i64)] [C0 own b' (J9.map i64)](h2:ys.length=m)(h4:J9.length=m')(DE:n≤4000000)(Pk:m≤4000000)(lS:n'≤4000000)
    (h:¬(n=n'/\ys=J9)):C7 Tryz.prog 129 [fr a b n m c d,fr a' b' n' m' c' d'] own (.tuple #[Kk,.bool false]):=by
  refine LW fun J hJ=> ?_
  haveI:=C0.all ‹C0 own b _› hJ;haveI:=C0.all ‹C0 own b' _› hJ;by_cases hn:n=n'
  · have hA:=Ia [J] b b' m m' d d' ys J9 h2 h4 Ab;rw [decide_eq_false (fun q=>h ⟨hn,q⟩)] at hA
    refine Ci Tryz.func129 rfl (Nat.le_of_ble_eq_true rfl) fun F=> ?_
    repeat' (first|apply B4|refine B3 0 BY BN ?_|refine CE 2 BY Av Ab ?_|refine B3 3 BY Ah ?_|refine B3 4 BY Ag ?_|refine B3 4 BY (Ca rfl rfl rfl rfl rfl (hA)) ?_|refine B3 5 BY Ar ?_|refine CF (fun β=> ?_)|refine Cn (fun β=> ?_)|refine Ck ?_|refine B0 ?_|apply B5|refine B8 ?_|refine Cl ?_|apply Cb|refine Cx ?_)
    exact Cr (Ct (Cv rfl rfl rfl rfl) (B7 rfl)) rfl
  · refine Ci Tryz.func129 rfl (Nat.le_of_ble_eq_true rfl) fun F=> ?_
    repeat' (first|apply B4|refine B3 0 BY AJ ?_|refine Cw 0 BZ ?_|refine Cs 2 BY Av Ab ?_|refine B3 3 BY Ah ?_|refine Cw 3 BZ ?_|refine Cw 4 BZ ?_|refine B3 4 BY Ag ?_|refine B3 5 BY Ar ?_|refine CF (fun β=> ?_)|refine Cn (fun β=> ?_)|refine Ck ?_|refine B0 ?_|apply B5|refine B8 ?_|refine Cl ?_|apply Cb|refine Cx ?_)
    exact Cr (Ct (Cv rfl rfl rfl rfl) (B7 rfl)) rfl
theorem RN(K:B6)(a bs a' b':Option Addr)(n m m' c d c' d':Nat)(xs ys HR:List Int)(s1:Sl K a (xs.map i64))(s2:Sl K bs (ys.map i64))(s3:Sl K a' (HR.map i64))(s4:Sl K b' (ys.map i64))
    (h1:xs.length=n) (h2:ys.length=m) (h3:HR.length=n) (h4:ys.length=m') (DE:n≤4000000) (Pk:m≤4000000):
    SL.T Tryz.prog 129 [fr a bs n m c d,fr a' b' n m' c' d'] [K] fun e o=>∃q1 q2 b1 c1 b2 c2,o= [K,q1,q2]/\e= .returned (.tuple #[fr b1 b2 n m c1 c2,.bool true])/\OS q1 b1 n c1 79 1 ((CP xs HR).map i64)/\OS q2 b2 m c2 79 1 (ys.map i64):=by
  haveI:=s2;haveI:=s4;have hA:=Ia [K] bs b' m m' d d' ys ys h2 h4 Ab;rw [decide_eq_true rfl] at hA
  have eS:(ys.map i64).length=m*1:=by simp [h2]
  have oS:(ys.map i64).all (·.oneCell')=true:=by simp [Value.oneCell']
  refine Ch Tryz.func129 rfl (Nat.le_of_ble_eq_true rfl) fun F=> ?_
  repeat' (first|apply B4|refine B3 0 BY AY ?_|refine CE 2 BY Av Ab ?_|refine B3 3 BY Ah ?_|refine B3 4 BY Ag ?_|refine B3 4 BY (Ca rfl rfl rfl rfl rfl (hA)) ?_|(refine gk 4 rfl ?_;(refine Ff (h:=Co _ (.cells ⟨[]⟩ 79 (0,0))) rfl rfl rfl rfl rfl rfl rfl rfl rfl (OS.Co (len:=0) rfl) eS Ae oS Ab Ab (fun hB bB cB Ro WH=> ?_);rw [Nat.zero_add m] at Ro ⊢))|refine B3 5 BY Ar ?_|refine Cm (fun b=> ?_)|refine CF (fun β=> ?_)|refine Cn (fun β=> ?_)|refine Ck ?_|refine B0 ?_|apply B5|refine B8 ?_|refine Cg ?_|refine Cf ?_|apply Cc)
  rw [List.nil_append] at Ro
  haveI:=s1;haveI:=s3;obtain⟨ee,rfl⟩:∃x,x=β:=⟨_,rfl⟩;obtain⟨Fv,rfl⟩:∃x,x=β:=⟨_,rfl⟩;obtain⟨Io,rfl⟩:∃x,x=β:=⟨_,rfl⟩;obtain⟨DZ,rfl⟩:∃x,x=β:=⟨_,rfl⟩;refine DY ?_;refine CH (fun s:SJ=> [(2,.pointer (some ⟨DZ,0,none⟩)),(3,.pointer (some ⟨Io,0,none⟩)),(4,.pointer (some ⟨Fv,0,none⟩)),(6,.pointer (some ⟨ee,0,none⟩)),(7,i64 (s.i:Int))])
    (fun s=> [s.h,Co ee (.cells ⟨[.slice s.b s.i s.c,.slice bB m cB]⟩ 60 (0,0)),hB,Co Fv (.cells ⟨[.slice none 0 0,.slice none 0 0]⟩ 60 (0,0)),Co Io (.cells ⟨[.slice a' n c',.slice b' m' d']⟩ 60 (0,0)),Co DZ (.cells ⟨[.slice a n c,.slice bs m d]⟩ 60 (0,0)),K]) (fun s=>s.i≤n/\OS s.h s.b s.i s.c 79 1 (((CP xs HR).take s.i).map i64)) (fun s=>n - s.i) ⟨0,emp,none,0⟩ (by repeat first|exact Sub.nil _|refine Sub.cons rfl ?_) ⟨Nat.zero_le _,OS.nil⟩ ?_
  rintro⟨j,H,bH,cH⟩ ⟨Pm,os⟩;dsimp only at Pm os ⊢
  by_cases hj:j<n
  · obtain⟨x,hx⟩:∃z,xs[j]?=some z:=⟨_,List.getElem?_eq_getElem Ab⟩;obtain⟨x',I9⟩:∃z,HR[j]?=some z:=⟨_,List.getElem?_eq_getElem Ab⟩;have hcx:(xs.map i64)[((j:Nat):Int).toNat*1]?=some (i64 x):=by simp [hx]
    have hcx':(HR.map i64)[((j:Nat):Int).toNat*1]?=some (i64 x'):=by simp [I9]
    have hkx:((j:Nat):Int).toNat*1<(xs.map i64).length:=by simp;omega
    have hkx':((j:Nat):Int).toNat*1<(HR.map i64).length:=by simp;omega
    have hs:(CP xs HR).take (j+1)=(CP xs HR).take j++ [if x=x' then x else -1]:=by rw [List.take_add_one,Oc hx I9];rfl
    by_cases hxx:x=x'
    · subst hxx;rw [if_pos rfl] at hs
      repeat' (first|apply B4|refine B3 0 BY Am ?_|refine Cs 2 BY Aj Ab ?_|refine B3 3 BY Ah ?_|refine B3 4 BY Ag ?_|refine B0 ?_|apply B5|refine B8 ?_|refine Cl ?_|refine Cf ?_|apply Cc)
      refine C5 Ac Ac rfl ?_
      repeat' (first|refine B3 0 BY Am ?_|refine Cs 2 BY Ao Ab ?_|refine B3 3 BY AA ?_|apply B5|refine B8 ?_|refine Cl ?_)
      refine Cu [.q [0,1,2,3,4,5,6],.an 7,.rv 7,.h true 8,.q [9],.h true 10] [Co DZ (.cells ⟨[.slice a n c,.slice bs m d]⟩ 60 (0,0)),K] Ac Ac Ac Ac ?_
      repeat' (first|refine B3 0 BY Af ?_|refine B3 1 BY Ap ?_|refine B3 3 BY AA ?_|refine B0 ?_|refine Cz ?_|refine CQ rfl ?_|refine Dg rfl rfl AQ ?_|refine DL rfl rfl rfl (fun β=> ?_)|refine C2 rfl rfl rfl rfl rfl rfl Aa rfl Aa Aa ?_|(refine FQ rfl rfl rfl rfl rfl rfl rfl rfl rfl os Ae rfl Ae rfl Ab Ab (fun hA bA cA RW=> ?_))|apply B5|refine B8 ?_)
      refine⟨rfl,⟨j+1,hA,bA,cA⟩,CA (by repeat first|exact Sub.nil _|refine Sub.cons rfl ?_),⟨hj,?_⟩,by dsimp only;omega⟩;dsimp only;rw [hs,List.map_append];exact RW
    · rw [if_neg hxx] at hs
      repeat' (first|apply B4|refine B3 0 BY Am ?_|refine Cs 2 BY Aj Ab ?_|refine B3 3 BY Ah ?_|refine B3 4 BY Ag ?_|refine B0 ?_|apply B5|refine B8 ?_|refine Cl ?_|refine Cf ?_|apply Cc)
      refine C5 Ac Ac rfl ?_
      repeat' (first|refine B3 0 BY Af ?_|refine B3 1 BY Ap ?_|refine CE 2 BY Ao Ab ?_|refine B3 3 BY AA ?_|(refine gk 4 rfl ?_;(refine EV rfl rfl rfl rfl rfl rfl rfl rfl rfl os Ae rfl Ae rfl Ab Ab (fun hA bA cA RW=> ?_)))|refine Cm (fun b=> ?_)|refine Ck ?_|refine B0 ?_|apply B5|refine B8 ?_|refine Cg ?_)
      refine⟨rfl,⟨j+1,hA,bA,cA⟩,CA (by repeat first|exact Sub.nil _|refine Sub.cons rfl ?_),⟨hj,?_⟩,by dsimp only;omega⟩;dsimp only;rw [hs,List.map_append];exact RW
  · obtain rfl:j=n:=by omega
    rw [List.take_of_length_le (by rw [Dz Ab];omega)] at os
    repeat' (first|apply B4|refine B3 0 BY Af ?_|refine CE 2 BY Aj Ab ?_|refine B3 3 BY AF ?_|refine B3 4 BY Ag ?_|refine Ck ?_|refine B0 ?_|apply B5|refine B8 ?_|refine Cg ?_|apply Cb|refine CC ?_)
    exact Cj [K,H,hB] (Ct (Cv rfl rfl rfl rfl) (B7 rfl)) ⟨H,hB,bH,cH,bB,cB,rfl,rfl,os,Ro⟩
end Go.Proofs.YtcnmnmjmpocepaaGreatDoor
end
