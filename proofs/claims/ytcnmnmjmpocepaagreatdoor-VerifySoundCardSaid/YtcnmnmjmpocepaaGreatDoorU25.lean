
import Derived.Test.YtcnmnmjmpocepaaGreatDoorU00
import Derived.Test.YtcnmnmjmpocepaaGreatDoorU11
import Derived.Test.YtcnmnmjmpocepaaGreatDoorU24
import Derived.Test.YtcnmnmjmpocepaaGreatDoorU08
set_option linter.unusedVariables false
set_option linter.unusedSimpArgs false
set_option linter.unusedSectionVars false
set_option maxRecDepth 100000
set_option maxHeartbeats 16000000
section
namespace Go.Proofs.YtcnmnmjmpocepaaGreatDoor.Nd
open Go.SL
attribute [local irreducible] SL.T C7 Dc C6 Db DS Du
abbrev Fc(DD:Nat)(p:Value)(lo st:Int)(cb:Option Addr)(cl cc bm:Nat)(ob:Option Addr)(on oc:Nat)(wr:Int):B6:=
  Co DD (.cells ⟨[p,i64 lo,i64 st,.slice cb cl cc,.map (some bm),.slice ob on oc,i64 wr]⟩ 133 (0,0))
theorem XF{h:B6}{b:Option Addr}{xs:List Int}{x:Int}(s:Sl h b ((xs++ [x]).map i64)):Sl h b (xs.map i64):=
  ⟨fun k v hk=>s.cell k v (by
    rw [List.map_append,List.getElem?_append_left (List.getElem?_eq_some_iff.1 hk).1];exact hk)⟩
theorem aJ{cs:List Ins}{z:Nat}{op a b:Int}(h:cs[z]?=some (op,a,b))(s:List Int):
    Hd cs z s=if GD op/\KW cs z=none then none else Qb op (if op=3 then a else(KW cs z).getD 0) s:=by
  unfold Hd;rw [List.getD_eq_getElem?_getD,h];rfl
theorem Xa(J:B6)(p:Value)(lo st:Int)(cb:Option Addr)(cl cc:Nat)(cs:List Ins)(z:Int) [Sl J cb (Cp cs)](hl:cs.length=cl)(DE:cl≤1000000)(h:KW cs z=none):
    C7 Tryz.prog 140 [Ua p lo st cb cl cc,i64 z] [J] (.tuple ⟨[i64 0,.bool false]⟩):=
  (K8 J p lo st cb cl cc cs z hl DE).to (by rw [h];rfl)
theorem W9(J:B6)(p:Value)(lo st:Int)(cb:Option Addr)(cl cc:Nat)(cs:List Ins)(z:Int) [Sl J cb (Cp cs)](hl:cs.length=cl)(DE:cl≤1000000){k:Int}(h:KW cs z=some k):
    C7 Tryz.prog 140 [Ua p lo st cb cl cc,i64 z] [J] (.tuple ⟨[i64 k,.bool true]⟩):=
  (K8 J p lo st cb cl cc cs z hl DE).to (by rw [h];rfl)
theorem S8{op:Int}(h1:¬GD op)(h3:op≠3)(Q1:op≠20):YR op=none:=by
  have:=mt LH.2 h1;unfold YR;rw [if_neg Q1,if_neg h3,if_neg Ab,if_neg Ab,if_neg Ab,if_neg Ab,if_neg Ab]
theorem WX{op k:Int}{s:List Int}(h1:¬GD op)(h3:op≠3)(Q1:op≠20):Qb op k s=some s:=by
  have:=mt LH.2 h1;unfold Qb;rw [if_neg Ab,if_neg Ab,if_neg Ab,if_neg h3,if_neg Q1]
theorem IA{p:Prop} [Decidable p]{xs:List Int}:(if p then some xs else none).isSome=decide p:=by
  by_cases h:p <;>simp [h]
abbrev BQ(K:B6)(N:List B6)(r:Option (List Int))(b:Option Addr)(n c:Nat):Prop:=
  ∀s,r=some s->s.length=n/\n≤c/\C0 (K::N) b (s.map i64)
theorem OZ (J K hM:B6)(DD:Nat)(p:Value)(lo st:Int)(cb:Option Addr)(cl cc bm:Nat)(ob:Option Addr)(on oc:Nat)(wr:Int)(cs:List Ins)(z:Nat)(f:Int->Option Value)(b:Option Addr)(n c:Nat)(xs:List Int)
    [Sl J cb (Cp cs)] [ez:Sl K b (xs.map i64)] (hl:cs.length=cl) (DE:cl≤1000000) (hz:z<cl) (mp:MP hM bm .i64 f) (hf:f (z:Int)=some (.slice b n c)) (hn:xs.length=n) (Q0:n≤c) (dP:n≤1000000):
    SL.T Tryz.prog 94 [.pointer (some ⟨DD,0,none⟩),i64 (z:Int)] [J,Fc DD p lo st cb cl cc bm ob on oc wr,hM,K] fun e o=>∃N,o= [J,Fc DD p lo st cb cl cc bm ob on oc wr,hM,K]++N/\
      ∃b' n' c',e= .returned (Zi b' n' c' (Hd cs z xs).isSome)/\BQ K N (Hd cs z xs) b' n' c':=by
  obtain⟨⟨op,a,b0⟩,hx⟩:∃x,cs[z]?=some x:=⟨_,List.getElem?_eq_getElem Ab⟩;rw [aJ hx];obtain⟨c0,c1,c2⟩:=E3 hx;have c0:(Cp cs)[((z:Nat):Int).toNat*3]?=some (i64 op):=c0;have c1:(Cp cs)[((z:Nat):Int).toNat*3+1]?=some (i64 a):=c1;have c2:(Cp cs)[((z:Nat):Int).toNat*3+2]?=some (i64 b0):=c2;have hfl:=CW cs;have hq:((z:Nat):Int).toNat*3<(Cp cs).length:=by rw [hfl];omega
  by_cases h5:GD op
  · rcases hk:KW cs z with _|k
    · have hA:=Xa J p lo st cb cl cc cs z hl DE hk;refine Ch Tryz.func94 rfl (Nat.le_of_ble_eq_true rfl) fun F=> ?_
      repeat' (first|apply B4|refine B3 0 BY (by first|exact CS rfl rfl|exact CG rfl rfl|exact Ds rfl rfl rfl|exact El rfl rfl|exact Ex rfl rfl rfl) ?_|refine B3 3 BY AI ?_|refine B3 4 BY (Ca rfl rfl rfl rfl rfl (hA)) ?_|refine Cs 4 BY (Ca rfl rfl rfl rfl rfl (Dt _)) Ab ?_|refine B3 5 BY Al ?_|refine Cn (fun β=> ?_)|refine Ck ?_|refine B0 ?_|apply B5|refine B8 ?_|refine Cl ?_|apply Cb|refine Cx ?_)
      rw [if_pos ⟨h5,rfl⟩];exact Cj [J,Fc DD p lo st cb cl cc bm ob on oc wr,hM,K] (Ct (B7 rfl) (B7 rfl)) ⟨[],rfl,_,_,_,rfl,fun s hs=>by cases hs⟩
    · have hA:=W9 J p lo st cb cl cc cs z hl DE hk;rw [if_neg Ak];rcases LH.1 h5 with rfl|rfl|rfl|rfl|rfl
      · refine Ch Tryz.func94 rfl (Nat.le_of_ble_eq_true rfl) fun F=> ?_
        repeat' (first|apply B4|refine B3 0 BY A3 ?_|refine CE 2 BY Ao Ab ?_|refine B3 3 BY AI ?_|refine B3 4 BY (Ca rfl rfl rfl rfl rfl (hA)) ?_|refine Cs 4 BY (Ca rfl rfl rfl rfl rfl (Dt _)) Ab ?_|refine B3 5 BY Al ?_|refine Cn (fun β=> ?_)|refine Ck ?_|refine B0 ?_|apply B5|refine B8 ?_|refine Cg ?_|apply Cc)
        refine Cu [.q [1,2],.h false 0,.q [3,4,5,6,7,8]] [] Ac Ac Ac Ac ?_
        repeat' (first|refine Cq rfl rfl rfl (Dx mpD rfl rfl rfl (v:=P9 180) rfl) ?_|refine Cq rfl rfl rfl (Dx mp rfl rfl rfl hf) ?_|apply B4|refine B3 0 BY AL ?_|refine B3 3 BY Ah ?_|(refine gk 4 rfl ?_;(refine B9 rfl rfl rfl rfl rfl rfl rfl rfl (Td K _ n _ xs _ hn Ab) ?_;rintro _ _ ⟨_,rfl,hP,bP,rfl,rfl,osP⟩;refine⟨_,_,rfl,rfl,?_⟩))|refine B3 5 BY Al ?_|refine B0 ?_|refine Cz ?_|refine CQ rfl ?_|(refine D0 rfl rfl rfl rfl rfl rfl rfl rfl (ES) (by rintro _ _ ⟨hD,bD,rfl,rfl,mpD⟩;exact⟨_,rfl⟩) ?_;rintro _ _ ⟨hD,bD,rfl,rfl,mpD⟩;refine⟨_,_,rfl,rfl,?_⟩)|apply B5|refine B8 ?_|refine Cg ?_|apply Cb|apply Cc)
        have e:Qb 12 (if(12:Int)=3 then a else(some k).getD 0) xs=if xs.length<8/\k∉xs then some (xs++ [k]) else none:=rfl
        rw [e];refine Cj [J,Fc DD p lo st cb cl cc bm ob on oc wr,hM,K,hP] (Ct (B7 rfl) (B7 rfl)) ⟨[hP],rfl,bP,n+1,n+1,?_,fun s hs=> ?_⟩
        · rw [hn];by_cases h:n<8/\k∉xs
          · rw [if_pos h,decide_eq_true h];rfl
          · rw [if_neg h,decide_eq_false h];rfl
        · split at hs
          · cases hs
            haveI:=osP.sl;exact⟨by simp [hn],Nat.le_refl _,inferInstance⟩
          · cases hs
      · have e:Qb 13 (if(13:Int)=3 then a else(some k).getD 0) xs=if xs.getLast?=some k then some xs.dropLast else none:=rfl
        rw [e];rcases List.eq_nil_or_concat xs with h0|⟨ys,y,h0⟩
        · subst h0;obtain rfl:n=0:=by simpa using hn.symm
          refine Ch Tryz.func94 rfl (Nat.le_of_ble_eq_true rfl) fun F=> ?_
          repeat' (first|apply B4|refine B3 0 BY A3 ?_|refine CE 2 BY Ao Ab ?_|refine B3 3 BY AI ?_|refine B3 4 BY (Ca rfl rfl rfl rfl rfl (hA)) ?_|refine Cs 4 BY (Ca rfl rfl rfl rfl rfl (Dt _)) Ab ?_|refine B3 5 BY Al ?_|refine Cn (fun β=> ?_)|refine Ck ?_|refine B0 ?_|apply B5|refine B8 ?_|refine Cg ?_|apply Cc)
          refine Cu [.q [1,2],.h false 0,.q [3,4,5,6,7,8]] [] Ac Ac Ac Ac ?_
          repeat' (first|refine Cq rfl rfl rfl (Dx mpD rfl rfl rfl (v:=P9 182) rfl) ?_|refine Cq rfl rfl rfl (Dx mp rfl rfl rfl hf) ?_|apply B4|refine B3 0 BY AL ?_|refine B3 3 BY Ah ?_|refine B3 4 BY (Ca rfl rfl rfl rfl rfl (Tb [] _ _ _)) ?_|refine B3 5 BY Al ?_|refine B0 ?_|refine Cz ?_|refine CQ rfl ?_|(refine D0 rfl rfl rfl rfl rfl rfl rfl rfl (ES) (by rintro _ _ ⟨hD,bD,rfl,rfl,mpD⟩;exact⟨_,rfl⟩) ?_;rintro _ _ ⟨hD,bD,rfl,rfl,mpD⟩;refine⟨_,_,rfl,rfl,?_⟩)|apply B5|refine B8 ?_|refine Cg ?_|apply Cb|apply Cc)
          exact Cj [J,Fc DD p lo st cb cl cc bm ob on oc wr,hM,K] (Ct (B7 rfl) (B7 rfl)) ⟨[],rfl,_,_,_,rfl,fun s hs=>by cases hs⟩
        · rw [List.concat_eq_append] at h0
          subst h0;obtain⟨m,rfl⟩:∃m,n=m+1:=⟨ys.length,by simpa using hn.symm⟩;have hym:ys.length=m:=by simpa using hn
          have hD3:=Tc [K] b m c ys y k hym Ab Q0;rw [List.getLast?_concat,List.dropLast_concat];by_cases hy:y=k
          · subst hy;rw [if_pos rfl] at hD3 ⊢
            refine Ch Tryz.func94 rfl (Nat.le_of_ble_eq_true rfl) fun F=> ?_
            repeat' (first|apply B4|refine B3 0 BY A3 ?_|refine CE 2 BY Ao Ab ?_|refine B3 3 BY AI ?_|refine B3 4 BY (Ca rfl rfl rfl rfl rfl (hA)) ?_|refine Cs 4 BY (Ca rfl rfl rfl rfl rfl (Dt _)) Ab ?_|refine B3 5 BY Al ?_|refine Cn (fun β=> ?_)|refine Ck ?_|refine B0 ?_|apply B5|refine B8 ?_|refine Cg ?_|apply Cc)
            refine Cu [.q [1,2],.h false 0,.q [3,4,5,6,7,8]] [] Ac Ac Ac Ac ?_
            repeat' (first|refine Cq rfl rfl rfl (Dx mpD rfl rfl rfl (v:=P9 182) rfl) ?_|refine Cq rfl rfl rfl (Dx mp rfl rfl rfl hf) ?_|apply B4|refine B3 0 BY AL ?_|refine B3 3 BY Ah ?_|refine B3 4 BY (Ca rfl rfl rfl rfl rfl (hD3)) ?_|refine B3 5 BY Al ?_|refine B0 ?_|refine Cz ?_|refine CQ rfl ?_|(refine D0 rfl rfl rfl rfl rfl rfl rfl rfl (ES) (by rintro _ _ ⟨hD,bD,rfl,rfl,mpD⟩;exact⟨_,rfl⟩) ?_;rintro _ _ ⟨hD,bD,rfl,rfl,mpD⟩;refine⟨_,_,rfl,rfl,?_⟩)|apply B5|refine B8 ?_|refine Cg ?_|apply Cb|apply Cc)
            exact Cj [J,Fc DD p lo st cb cl cc bm ob on oc wr,hM,K] (Ct (B7 rfl) (B7 rfl)) ⟨[],rfl,_,_,_,rfl,fun s hs=>by cases hs;exact⟨hym,by omega,⟨K,List.mem_cons_self ..,XF ez⟩⟩⟩
          · rw [if_neg hy] at hD3
            rw [if_neg (by simpa using hy)];refine Ch Tryz.func94 rfl (Nat.le_of_ble_eq_true rfl) fun F=> ?_
            repeat' (first|apply B4|refine B3 0 BY A3 ?_|refine CE 2 BY Ao Ab ?_|refine B3 3 BY AI ?_|refine B3 4 BY (Ca rfl rfl rfl rfl rfl (hA)) ?_|refine Cs 4 BY (Ca rfl rfl rfl rfl rfl (Dt _)) Ab ?_|refine B3 5 BY Al ?_|refine Cn (fun β=> ?_)|refine Ck ?_|refine B0 ?_|apply B5|refine B8 ?_|refine Cg ?_|apply Cc)
            refine Cu [.q [1,2],.h false 0,.q [3,4,5,6,7,8]] [] Ac Ac Ac Ac ?_
            repeat' (first|refine Cq rfl rfl rfl (Dx mpD rfl rfl rfl (v:=P9 182) rfl) ?_|refine Cq rfl rfl rfl (Dx mp rfl rfl rfl hf) ?_|apply B4|refine B3 0 BY AL ?_|refine B3 3 BY Ah ?_|refine B3 4 BY (Ca rfl rfl rfl rfl rfl (hD3)) ?_|refine B3 5 BY Al ?_|refine B0 ?_|refine Cz ?_|refine CQ rfl ?_|(refine D0 rfl rfl rfl rfl rfl rfl rfl rfl (ES) (by rintro _ _ ⟨hD,bD,rfl,rfl,mpD⟩;exact⟨_,rfl⟩) ?_;rintro _ _ ⟨hD,bD,rfl,rfl,mpD⟩;refine⟨_,_,rfl,rfl,?_⟩)|apply B5|refine B8 ?_|refine Cg ?_|apply Cb|apply Cc)
            exact Cj [J,Fc DD p lo st cb cl cc bm ob on oc wr,hM,K] (Ct (B7 rfl) (B7 rfl)) ⟨[],rfl,_,_,_,rfl,fun s hs=>by cases hs⟩
      · have e:Qb 14 (if(14:Int)=3 then a else(some k).getD 0) xs=if k∈xs then some xs else none:=rfl
        rw [e];have hD1:=JG [K] b n c xs k hn Ab;refine Ch Tryz.func94 rfl (Nat.le_of_ble_eq_true rfl) fun F=> ?_
        repeat' (first|apply B4|refine B3 0 BY A3 ?_|refine CE 2 BY Ao Ab ?_|refine B3 3 BY AI ?_|refine B3 4 BY (Ca rfl rfl rfl rfl rfl (hA)) ?_|refine Cs 4 BY (Ca rfl rfl rfl rfl rfl (Dt _)) Ab ?_|refine B3 5 BY Al ?_|refine Cn (fun β=> ?_)|refine Ck ?_|refine B0 ?_|apply B5|refine B8 ?_|refine Cg ?_|apply Cc)
        refine Cu [.q [1,2],.h false 0,.q [3,4,5,6,7,8]] [] Ac Ac Ac Ac ?_
        repeat' (first|refine Cq rfl rfl rfl (Dx mpD rfl rfl rfl (v:=P9 179) rfl) ?_|refine Cq rfl rfl rfl (Dx mp rfl rfl rfl hf) ?_|apply B4|refine B3 0 BY AL ?_|refine B3 3 BY Ah ?_|refine B3 4 BY (Ca rfl rfl rfl rfl rfl (hD1)) ?_|refine B3 5 BY Al ?_|refine B0 ?_|refine Cz ?_|refine CQ rfl ?_|(refine D0 rfl rfl rfl rfl rfl rfl rfl rfl (ES) (by rintro _ _ ⟨hD,bD,rfl,rfl,mpD⟩;exact⟨_,rfl⟩) ?_;rintro _ _ ⟨hD,bD,rfl,rfl,mpD⟩;refine⟨_,_,rfl,rfl,?_⟩)|apply B5|refine B8 ?_|refine Cg ?_|apply Cb|apply Cc)
        exact Cj [J,Fc DD p lo st cb cl cc bm ob on oc wr,hM,K] (Ct (B7 rfl) (B7 rfl)) ⟨[],rfl,_,_,_,by rw [IA],fun s hs=>by
          split at hs
          · cases hs;exact⟨hn,Q0,inferInstance⟩
          · cases hs⟩
      · have e:Qb 15 (if(15:Int)=3 then a else(some k).getD 0) xs=if k∈xs then some xs else none:=rfl
        rw [e];have hD1:=JG [K] b n c xs k hn Ab;refine Ch Tryz.func94 rfl (Nat.le_of_ble_eq_true rfl) fun F=> ?_
        repeat' (first|apply B4|refine B3 0 BY A3 ?_|refine CE 2 BY Ao Ab ?_|refine B3 3 BY AI ?_|refine B3 4 BY (Ca rfl rfl rfl rfl rfl (hA)) ?_|refine Cs 4 BY (Ca rfl rfl rfl rfl rfl (Dt _)) Ab ?_|refine B3 5 BY Al ?_|refine Cn (fun β=> ?_)|refine Ck ?_|refine B0 ?_|apply B5|refine B8 ?_|refine Cg ?_|apply Cc)
        refine Cu [.q [1,2],.h false 0,.q [3,4,5,6,7,8]] [] Ac Ac Ac Ac ?_
        repeat' (first|refine Cq rfl rfl rfl (Dx mpD rfl rfl rfl (v:=P9 179) rfl) ?_|refine Cq rfl rfl rfl (Dx mp rfl rfl rfl hf) ?_|apply B4|refine B3 0 BY AL ?_|refine B3 3 BY Ah ?_|refine B3 4 BY (Ca rfl rfl rfl rfl rfl (hD1)) ?_|refine B3 5 BY Al ?_|refine B0 ?_|refine Cz ?_|refine CQ rfl ?_|(refine D0 rfl rfl rfl rfl rfl rfl rfl rfl (ES) (by rintro _ _ ⟨hD,bD,rfl,rfl,mpD⟩;exact⟨_,rfl⟩) ?_;rintro _ _ ⟨hD,bD,rfl,rfl,mpD⟩;refine⟨_,_,rfl,rfl,?_⟩)|apply B5|refine B8 ?_|refine Cg ?_|apply Cb|apply Cc)
        exact Cj [J,Fc DD p lo st cb cl cc bm ob on oc wr,hM,K] (Ct (B7 rfl) (B7 rfl)) ⟨[],rfl,_,_,_,by rw [IA],fun s hs=>by
          split at hs
          · cases hs;exact⟨hn,Q0,inferInstance⟩
          · cases hs⟩
      · have e:Qb 16 (if(16:Int)=3 then a else(some k).getD 0) xs=if k∈xs then some xs else none:=rfl
        rw [e];have hD1:=JG [K] b n c xs k hn Ab;refine Ch Tryz.func94 rfl (Nat.le_of_ble_eq_true rfl) fun F=> ?_
        repeat' (first|apply B4|refine B3 0 BY A3 ?_|refine CE 2 BY Ao Ab ?_|refine B3 3 BY AI ?_|refine B3 4 BY (Ca rfl rfl rfl rfl rfl (hA)) ?_|refine Cs 4 BY (Ca rfl rfl rfl rfl rfl (Dt _)) Ab ?_|refine B3 5 BY Al ?_|refine Cn (fun β=> ?_)|refine Ck ?_|refine B0 ?_|apply B5|refine B8 ?_|refine Cg ?_|apply Cc)
        refine Cu [.q [1,2],.h false 0,.q [3,4,5,6,7,8]] [] Ac Ac Ac Ac ?_
        repeat' (first|refine Cq rfl rfl rfl (Dx mpD rfl rfl rfl (v:=P9 179) rfl) ?_|refine Cq rfl rfl rfl (Dx mp rfl rfl rfl hf) ?_|apply B4|refine B3 0 BY AL ?_|refine B3 3 BY Ah ?_|refine B3 4 BY (Ca rfl rfl rfl rfl rfl (hD1)) ?_|refine B3 5 BY Al ?_|refine B0 ?_|refine Cz ?_|refine CQ rfl ?_|(refine D0 rfl rfl rfl rfl rfl rfl rfl rfl (ES) (by rintro _ _ ⟨hD,bD,rfl,rfl,mpD⟩;exact⟨_,rfl⟩) ?_;rintro _ _ ⟨hD,bD,rfl,rfl,mpD⟩;refine⟨_,_,rfl,rfl,?_⟩)|apply B5|refine B8 ?_|refine Cg ?_|apply Cb|apply Cc)
        exact Cj [J,Fc DD p lo st cb cl cc bm ob on oc wr,hM,K] (Ct (B7 rfl) (B7 rfl)) ⟨[],rfl,_,_,_,by rw [IA],fun s hs=>by
          split at hs
          · cases hs;exact⟨hn,Q0,inferInstance⟩
          · cases hs⟩
  · rw [if_neg fun h=>h5 h.1];obtain⟨k,is,hA⟩:∃k is,C7 Tryz.prog 140 [Ua p lo st cb cl cc,i64 z] [J] (.tuple ⟨[i64 k,.bool is]⟩):=⟨_,_,K8 J p lo st cb cl cc cs z hl DE⟩;by_cases h3:op=3
    · subst h3;rw [if_pos rfl];have e:Qb 3 a xs=if a∉xs then some xs else none:=rfl
      rw [e];have hD4:=Ta [K] b n c xs a hn Ab;refine Ch Tryz.func94 rfl (Nat.le_of_ble_eq_true rfl) fun F=> ?_
      repeat' (first|apply B4|refine B3 0 BY AS ?_|refine Cw 0 BZ ?_|refine Cs 2 BY Ao Ab ?_|refine B3 3 BY AI ?_|refine B3 4 BY (Ca rfl rfl rfl rfl rfl (hA)) ?_|refine CE 4 BY (Ca rfl rfl rfl rfl rfl (Dt _)) Ab ?_|refine B3 5 BY Al ?_|refine Cn (fun β=> ?_)|refine Ck ?_|refine B0 ?_|apply B5|refine B8 ?_|refine Cl ?_|refine Cg ?_|apply Cc)
      refine Cu [.q [1,2],.h false 0,.q [3,4,5,6,7,8]] [] Ac Ac Ac Ac ?_
      repeat' (first|refine Cq rfl rfl rfl (Dx mpD rfl rfl rfl (v:=P9 183) rfl) ?_|refine Cq rfl rfl rfl (Dx mp rfl rfl rfl hf) ?_|apply B4|refine B3 0 BY AL ?_|refine B3 3 BY Ah ?_|refine B3 4 BY (Ca rfl rfl rfl rfl rfl (hD4)) ?_|refine B3 5 BY Al ?_|refine B0 ?_|refine Cz ?_|refine CQ rfl ?_|(refine D0 rfl rfl rfl rfl rfl rfl rfl rfl (ES) (by rintro _ _ ⟨hD,bD,rfl,rfl,mpD⟩;exact⟨_,rfl⟩) ?_;rintro _ _ ⟨hD,bD,rfl,rfl,mpD⟩;refine⟨_,_,rfl,rfl,?_⟩)|apply B5|refine B8 ?_|refine Cg ?_|apply Cb|apply Cc)
      exact Cj [J,Fc DD p lo st cb cl cc bm ob on oc wr,hM,K] (Ct (B7 rfl) (B7 rfl)) ⟨[],rfl,_,_,_,by rw [IA],fun s hs=>by
        split at hs
        · cases hs;exact⟨hn,Q0,inferInstance⟩
        · cases hs⟩
    · rw [if_neg h3];by_cases Q1:op=20
      · subst Q1;have e:Qb 20 ((KW cs z).getD 0) xs=if xs= [] then some xs else none:=rfl
        rw [e];have Rp:xs= []↔n=0:=by rw [<-hn];exact List.length_eq_zero_iff.symm
        have hD5:=S9 b n c k;refine Ch Tryz.func94 rfl (Nat.le_of_ble_eq_true rfl) fun F=> ?_
        repeat' (first|apply B4|refine B3 0 BY AS ?_|refine Cw 0 BZ ?_|refine CE 2 BY Ao Ab ?_|refine B3 3 BY AI ?_|refine B3 4 BY (Ca rfl rfl rfl rfl rfl (hA)) ?_|refine CE 4 BY (Ca rfl rfl rfl rfl rfl (Dt _)) Ab ?_|refine B3 5 BY Al ?_|refine Cn (fun β=> ?_)|refine Ck ?_|refine B0 ?_|apply B5|refine B8 ?_|refine Cg ?_|apply Cc)
        refine Cu [.q [1,2],.h false 0,.q [3,4,5,6,7,8]] [] Ac Ac Ac Ac ?_
        repeat' (first|refine Cq rfl rfl rfl (Dx mpD rfl rfl rfl (v:=P9 184) rfl) ?_|refine Cq rfl rfl rfl (Dx mp rfl rfl rfl hf) ?_|apply B4|refine B3 0 BY AL ?_|refine B3 3 BY Ah ?_|refine B3 4 BY (Ca rfl rfl rfl rfl rfl (hD5)) ?_|refine B3 5 BY Al ?_|refine B0 ?_|refine Cz ?_|refine CQ rfl ?_|(refine D0 rfl rfl rfl rfl rfl rfl rfl rfl (ES) (by rintro _ _ ⟨hD,bD,rfl,rfl,mpD⟩;exact⟨_,rfl⟩) ?_;rintro _ _ ⟨hD,bD,rfl,rfl,mpD⟩;refine⟨_,_,rfl,rfl,?_⟩)|apply B5|refine B8 ?_|refine Cg ?_|apply Cb|apply Cc)
        exact Cj [J,Fc DD p lo st cb cl cc bm ob on oc wr,hM,K] (Ct (B7 rfl) (B7 rfl)) ⟨[],rfl,_,_,_,by rw [IA,decide_eq_decide.2 Rp],fun s hs=>by
          split at hs
          · cases hs;exact⟨hn,Q0,inferInstance⟩
          · cases hs⟩
      · rw [WX h5 h3 Q1];have hd:=S8 h5 h3 Q1;refine Ch Tryz.func94 rfl (Nat.le_of_ble_eq_true rfl) fun F=> ?_
        repeat' (first|apply B4|refine B3 0 BY AS ?_|refine Cw 0 BZ ?_|refine CE 2 BY Ao Ab ?_|refine B3 3 BY AI ?_|refine B3 4 BY (Ca rfl rfl rfl rfl rfl (hA)) ?_|refine CE 4 BY (Ca rfl rfl rfl rfl rfl (Dt _)) Ab ?_|refine B3 5 BY Al ?_|refine Cn (fun β=> ?_)|refine Ck ?_|refine B0 ?_|apply B5|refine B8 ?_|refine Cg ?_|apply Cc)
        refine Cu [.q [1,2],.h false 0,.q [3,4,5,6,7,8]] [] Ac Ac Ac Ac ?_
        repeat' (first|refine Cq rfl rfl rfl (Mf mpD rfl rfl rfl hd) ?_|refine Cq rfl rfl rfl (Dx mp rfl rfl rfl hf) ?_|apply B4|refine B3 0 BY A2 ?_|refine B3 3 BY Ah ?_|refine B3 5 BY Al ?_|refine B0 ?_|refine Cz ?_|refine CQ rfl ?_|(refine D0 rfl rfl rfl rfl rfl rfl rfl rfl (ES) (by rintro _ _ ⟨hD,bD,rfl,rfl,mpD⟩;exact⟨_,rfl⟩) ?_;rintro _ _ ⟨hD,bD,rfl,rfl,mpD⟩;refine⟨_,_,rfl,rfl,?_⟩)|apply B5|refine B8 ?_|refine Cl ?_|apply Cb|refine Cx ?_)
        exact Cj [J,Fc DD p lo st cb cl cc bm ob on oc wr,hM,K] (Ct (B7 rfl) (B7 rfl)) ⟨[],rfl,_,_,_,rfl,fun s hs=>by cases hs;exact⟨hn,Q0,inferInstance⟩⟩
end Go.Proofs.YtcnmnmjmpocepaaGreatDoor.Nd
end
section
namespace Go.Proofs.YtcnmnmjmpocepaaGreatDoor.Nd
open Go.SL
attribute [local irreducible] SL.T C7 Dc C6 Db DS Du
theorem Tf(DD:Nat)(p:Value)(lo st:Int)(cb:Option Addr)(cl cc bm:Nat)(ob:Option Addr)(on oc:Nat)(wr t:Int)(v:Value)(ht:t<0∨(cl:Int)≤t):
    C7 Tryz.prog 92 [.pointer (some ⟨DD,0,none⟩),i64 t,v] [Fc DD p lo st cb cl cc bm ob on oc wr] (.bool true):=by
  refine Ci Tryz.func92 rfl (Nat.le_of_ble_eq_true rfl) fun F=> ?_
  repeat' (first|apply B4|refine B3 0 BY AP ?_|refine Cw 0 BZ ?_|refine Cw 2 BZ ?_|refine Cs 2 BY AG Ab ?_|refine IC 2 BY Aj (fun h=> ?_) (fun h=> ?_)|refine B3 3 BY Ah ?_|refine Cw 3 BZ ?_|refine Cw 4 BZ ?_|refine B3 4 BY Ag ?_|refine B3 5 BY Al ?_|refine Cw 5 BZ ?_|refine B0 ?_|apply B5|refine B8 ?_|refine Cl ?_|apply Cb|refine Cx ?_)
  all_goals first|(exfalso;omega)|exact Cj [Fc DD p lo st cb cl cc bm ob on oc wr] (Ce (B7 rfl)) ⟨rfl,rfl⟩
theorem YV(K hM:B6)(DD:Nat)(p:Value)(lo st:Int)(cb:Option Addr)(cl cc bm:Nat)(ob:Option Addr)(on oc:Nat)(wr t:Int)(f:Int->Option Value)(b b1:Option Addr)(n c n1 c1:Nat)(xs ys:List Int)
    [Sl K b (xs.map i64)] [Sl K b1 (ys.map i64)] (ht:0≤t/\t<(cl:Int)) (mp:MP hM bm .i64 f) (hf:f t=some (.slice b1 n1 c1)) (hn:xs.length=n) (Yv:ys.length=n1) (h1:n≤4000000) (h2:n1≤4000000):
    C7 Tryz.prog 92 [.pointer (some ⟨DD,0,none⟩),i64 t,.slice b n c] [Fc DD p lo st cb cl cc bm ob on oc wr,hM,K] (.bool (decide (ys=xs))):=by
  have hE:=Gq [K] b1 b n1 n c1 c ys xs Yv hn h2 h1;refine Ci Tryz.func92 rfl (Nat.le_of_ble_eq_true rfl) fun F=> ?_
  repeat' (first|refine Cq rfl rfl rfl (Dx mp rfl rfl rfl hf) ?_|apply B4|refine B3 0 BY AS ?_|refine CE 2 BY AG Ab ?_|refine B3 3 BY Ah ?_|refine B3 4 BY Ag ?_|refine B3 4 BY (Ca rfl rfl rfl rfl rfl (hE)) ?_|refine B3 5 BY Al ?_|refine B0 ?_|apply B5|refine B8 ?_|refine Cl ?_|refine Cg ?_|apply Cb|apply Cc|refine Cx ?_)
  all_goals first|(exfalso;omega)|exact Cj [Fc DD p lo st cb cl cc bm ob on oc wr,hM,K] (Ce (B7 rfl)) ⟨rfl,rfl⟩
theorem Tg(hM hO:B6)(DD:Nat)(p:Value)(lo st:Int)(cb:Option Addr)(cl cc bm:Nat)(ob:Option Addr)(on oc:Nat)(wr t:Int)(f:Int->Option Value)(v:Value)(V:List Int)
    (ht:0≤t/\t<(cl:Int)) (mp:MP hM bm .i64 f) (hf:f t=none) (os:OS hO ob on oc 3 1 (V.map i64)) (eZ:on≤4000000):
    SL.T Tryz.prog 92 [.pointer (some ⟨DD,0,none⟩),i64 t,v] [Fc DD p lo st cb cl cc bm ob on oc wr,hM,hO] fun e o=>e= .returned (.bool true)/\∃df hO' Wm oc',o= [Fc DD p lo st cb cl cc bm Wm (on+1) oc' wr,df,hO']/\
      MP df bm .i64 (fun q=>if q=t then some v else f q)/\OS hO' Wm (on+1) oc' 3 1 ((V++ [t]).map i64):=by
  refine Ch Tryz.func92 rfl (Nat.le_of_ble_eq_true rfl) fun F=> ?_
  repeat' (first|refine Cq rfl rfl rfl (Mf mp rfl rfl rfl hf) ?_|refine V8 rfl rfl rfl rfl rfl rfl mp (fun OX dO=> ?_)|apply B4|refine B3 0 BY AS ?_|refine CE 2 BY AG Ab ?_|refine B3 3 BY Ah ?_|refine B3 4 BY Ag ?_|(refine gk 4 rfl ?_;(refine EV rfl rfl rfl rfl rfl rfl rfl rfl rfl os Ae rfl Ae rfl Ab Ab (fun h1 b1 c1 EH=> ?_)))|refine B3 5 BY Al ?_|refine Cm (fun b=> ?_)|refine Ck ?_|refine B0 ?_|apply B5|refine B8 ?_|refine Cg ?_|apply Cb|apply Cc)
  all_goals first|(exfalso;omega)|skip
  exact Cj [Fc DD p lo st cb cl cc bm b1 (on+1) c1 wr,OX,h1] (Ce (B7 rfl)) ⟨rfl,OX,h1,b1,c1,rfl,dO,by rw [List.map_append];exact EH⟩
end Go.Proofs.YtcnmnmjmpocepaaGreatDoor.Nd
end
section
namespace Go.Proofs.YtcnmnmjmpocepaaGreatDoor.Nd
open Go.SL
attribute [local irreducible] SL.T C7 Dc C6 Db DS Du
theorem VL(J K hM:B6)(DD:Nat)(p:Value)(lo st:Int)(cb:Option Addr)(cl cc bm:Nat)(ob:Option Addr)(on oc:Nat)(wr:Int)(cs:List Ins)(z:Nat)(f:Int->Option Value)(b:Option Addr)(n c:Nat)(xs:List Int)
    [Sl J cb (Cp cs)] (ez:Sl K b (xs.map i64)) (hl:cs.length=cl) (DE:cl≤1000000) (hz:z<cl) (mp:MP hM bm .i64 f) (hf:f (z:Int)=some (.slice b n c)) (hn:xs.length=n) (Q0:n≤c) (dP:n≤1000000):
    SL.T Tryz.prog 94 [.pointer (some ⟨DD,0,none⟩),i64 (z:Int)] [J,Fc DD p lo st cb cl cc bm ob on oc wr,hM,K] fun e o=>∃K',o= [K',J,Fc DD p lo st cb cl cc bm ob on oc wr,hM]/\hle K K'/\
      ∃b' n' c',e= .returned (Zi b' n' c' (Hd cs z xs).isSome)/\∀s,Hd cs z xs=some s->s.length=n'/\n'≤c'/\Sl K' b' (s.map i64):=by
  refine(Ib (R:=fun e A N=>A= [J,Fc DD p lo st cb cl cc bm ob on oc wr,hM]/\∃N0,N=K::N0/\∃b' n' c',e= .returned (Zi b' n' c' (Hd cs z xs).isSome)/\BQ K N0 (Hd cs z xs) b' n' c') ((OZ J K hM DD p lo st cb cl cc bm ob on oc wr cs z f b n c xs hl DE hz mp hf hn Q0 dP).mono ?_)).mono ?_
  · rintro e o ⟨N,rfl,b',n',c',he,hq⟩;exact⟨_,_,List.perm_append_comm (l₁:= [J,Fc DD p lo st cb cl cc bm ob on oc wr,hM]) (l₂:=K::N),rfl,N,rfl,b',n',c',he,hq⟩
  · rintro e o ⟨A,N,K',rfl,hK,rfl,N0,rfl,b',n',c',he,hq⟩;refine⟨K',rfl,hK K (List.mem_cons_self ..),b',n',c',he,fun s hs=> ?_⟩;obtain⟨h1,h2,h3⟩:=hq s hs;exact⟨h1,h2,h3.Y1 hK⟩
theorem Ll(DD:Nat):SL.T Tryz.prog 93 [.pointer (some ⟨DD,0,none⟩)] [] fun e o=>∃DZ,e= .returned (.func (.func 139) #[] #[.pointer (some ⟨DZ,0,none⟩)])/\o= [Co DZ (.cells ⟨[.pointer (some ⟨DD,0,none⟩)]⟩ 129 (0,0))]:=by
  refine Ch Tryz.func93 rfl (Nat.le_of_ble_eq_true rfl) fun F=> ?_
  repeat' (first|apply B4|refine B3 0 BY Ba ?_|refine CF (fun β=> ?_)|refine B0 ?_|apply B5|refine B8 ?_|apply Cb)
  exact Cj [Co β (.cells ⟨[.pointer (some ⟨DD,0,none⟩)]⟩ 129 (0,0))] (Ce (B7 rfl)) ⟨β,rfl,rfl⟩
def eH(DD k:Nat)(H:B6)(o:Option (List Value)):Prop:=
  ∃(p lo st cb m:Value) (ob:Option Addr) (on oc:Nat) (wr:Value) (V:List Int),H (.b DD)=some (.o (.cells ⟨[p,lo,st,cb,m,.slice ob on oc,wr]⟩ 133 (0,0)))/\Sl H ob (V.map i64)/\V.length=on/\on≤4000000/\o=(V[k]?).map fun z=> [i64 z]
theorem R5(DD k:Nat)(H H':B6)(o:Option (List Value))(h:hle H H'):eH DD k H o->eH DD k H' o:=by
  rintro⟨p,lo,st,cb,m,ob,on,oc,wr,V,h1,h2,h3,h4,h5⟩;exact⟨p,lo,st,cb,m,ob,on,oc,wr,V,h _ _ h1,h2.mono h,h3,h4,h5⟩
theorem MJ(DD DZ:Nat):bQ Tryz.prog 139 [] [.pointer (some ⟨DZ,0,none⟩)] [Co DZ (.cells ⟨[.pointer (some ⟨DD,0,none⟩)]⟩ 129 (0,0))] (eH DD):=by
  intro L J Jd Jx hy H h0;refine Ch Tryz.func139 rfl (Nat.le_of_ble_eq_true rfl) fun F=> ?_
  repeat' (first|apply B4|refine B3 0 BY Au ?_|refine B0 ?_|apply B5|refine B8 ?_|refine Cf ?_)
  refine CH (fun s:(Nat×B6)=> [(0,.func (.yield L) #[] #[]),(1,.pointer (some ⟨DZ,0,none⟩)),(3,i64 (s.1:Int))])
    (fun s=> [s.2,Co DZ (.cells ⟨[.pointer (some ⟨DD,0,none⟩)]⟩ 129 (0,0))]) (fun s=>s.1≤4000000/\J s.1 s.2) (fun s=>4000001 - s.1) (0,H) (by repeat first|exact Sub.nil _|refine Sub.cons rfl ?_) ⟨Nat.zero_le _,h0⟩ ?_
  clear h0;rintro⟨k,H⟩ ⟨hk,hJ⟩;dsimp only at hk hJ ⊢
  rcases hy k H hJ with ⟨x,⟨p,lo,st,cb,m,ob,on,oc,wr,V,hb,sl,hl,eZ,hx⟩,hY⟩|⟨⟨p,lo,st,cb,m,ob,on,oc,wr,V,hb,sl,hl,eZ,hx⟩,hD⟩
  · haveI:J8 H DD _:=⟨hb⟩;have hx2:=hx.symm;rw [Option.map_eq_some_iff] at hx2
    obtain⟨z,hz,rfl⟩:=hx2;have Uz:=(List.getElem?_eq_some_iff.1 hz).1;have hcx:(V.map i64)[((k:Nat):Int).toNat*1]?=some (i64 z):=by simp [hz]
    repeat' (first|apply B4|refine B3 0 BY Am ?_|refine Cs 2 BY Aj Ab ?_|refine B3 3 BY Bn ?_|refine B3 4 BY Ag ?_|refine B3 5 BY Al ?_|refine B0 ?_|apply B5|refine B8 ?_|refine Cl ?_|refine Cf ?_|apply Cc)
    refine KB (hs:= [H]) rfl rfl rfl (P2 rfl rfl rfl rfl hY) ?_;rintro v own' ⟨H',rfl,⟨rfl,hJ'⟩|⟨rfl,hJ'⟩⟩ <;>refine⟨_,rfl,?_⟩
    · repeat' (first|refine B3 0 BY AH ?_|refine B3 1 BY Ap ?_|refine B0 ?_|apply B5|refine B8 ?_|refine Cg ?_|apply Cc)
      exact⟨rfl,(k+1,H'),CA (by repeat first|exact Sub.nil _|refine Sub.cons rfl ?_),⟨by dsimp only;omega,hJ'⟩,by dsimp only;omega⟩
    · repeat' (first|refine B3 0 BY Bv ?_|apply B5|refine B8 ?_|refine Cl ?_|apply Cb|refine Cx ?_|refine Dd ?_)
      exact Cj [H',Co DZ (.cells ⟨[.pointer (some ⟨DD,0,none⟩)]⟩ 129 (0,0))] CU ⟨rfl,H',rfl,.inr hJ'⟩
  · haveI:J8 H DD _:=⟨hb⟩;have Uz:on≤k:=by
      have:=hx.symm;rw [Option.map_eq_none_iff,List.getElem?_eq_none_iff] at this
      omega
    repeat' (first|apply B4|refine B3 0 BY Am ?_|refine CE 2 BY Aj Ab ?_|refine B3 3 BY Ah ?_|refine B3 4 BY Ag ?_|refine B3 5 BY Al ?_|refine B0 ?_|apply B5|refine B8 ?_|refine Cg ?_|refine CC ?_|refine Fl ?_|refine Fp ?_)
    exact GB [H,Co DZ (.cells ⟨[.pointer (some ⟨DD,0,none⟩)]⟩ 129 (0,0))] CU ⟨rfl,H,rfl,.inl hD⟩
end Go.Proofs.YtcnmnmjmpocepaaGreatDoor.Nd
end
section
namespace Go.Proofs.YtcnmnmjmpocepaaGreatDoor.Nd
open Go.SL
theorem step_done{cs:List Ins}{V:List Int}{CX:Int->List Int}{i k:Nat}(h:V[i]?=none):GS.step cs ⟨V,CX,i,k,none⟩=⟨V,CX,i,k,some (-1)⟩:=by
  simp [GS.step,h]
theorem Xx{cs:List Ins}{V:List Int}{CX:Int->List Int}{i k:Nat}{z:Int}(h:V[i]?=some z)(hb:Hd cs z.toNat (CX z)=none):GS.step cs ⟨V,CX,i,k,none⟩=⟨V,CX,i,k,some z⟩:=by
  simp [GS.step,h,hb]
theorem Pz{cs:List Ins}{V:List Int}{CX:Int->List Int}{i k:Nat}{z:Int}{s:List Int}(h:V[i]?=some z)(hb:Hd cs z.toNat (CX z)=some s)(hn:(GG cs z)[k]?=none):GS.step cs ⟨V,CX,i,k,none⟩=⟨V,CX,i+1,0,none⟩:=by
  simp [GS.step,h,hb,hn]
theorem Xv{cs:List Ins}{V:List Int}{CX:Int->List Int}{i k:Nat}{z t:Int}{s:List Int}(h:V[i]?=some z)(hb:Hd cs z.toNat (CX z)=some s)(hn:(GG cs z)[k]?=some t)(ht:¬(0≤t/\t<cs.length)):GS.step cs ⟨V,CX,i,k,none⟩=⟨V,CX,i,k+1,none⟩:=by
  simp [GS.step,h,hb,hn,ht]
theorem VZ{cs:List Ins}{V:List Int}{CX:Int->List Int}{i k:Nat}{z t:Int}{s:List Int}(h:V[i]?=some z)(hb:Hd cs z.toNat (CX z)=some s)(hn:(GG cs z)[k]?=some t)(ht:0≤t/\t<cs.length)(hv:t∈V)(he:CX t=s):GS.step cs ⟨V,CX,i,k,none⟩=⟨V,CX,i,k+1,none⟩:=by
  simp [GS.step,h,hb,hn,ht,hv,he]
theorem TV{cs:List Ins}{V:List Int}{CX:Int->List Int}{i k:Nat}{z t:Int}{s:List Int}(h:V[i]?=some z)(hb:Hd cs z.toNat (CX z)=some s)(hn:(GG cs z)[k]?=some t)(ht:0≤t/\t<cs.length)(hv:t∈V)(he:CX t≠s):GS.step cs ⟨V,CX,i,k,none⟩=⟨V,CX,i,k,some t⟩:=by
  simp [GS.step,h,hb,hn,ht,hv,he]
theorem Xw{cs:List Ins}{V:List Int}{CX:Int->List Int}{i k:Nat}{z t:Int}{s:List Int}(h:V[i]?=some z)(hb:Hd cs z.toNat (CX z)=some s)(hn:(GG cs z)[k]?=some t)(ht:0≤t/\t<cs.length)(hv:t∉V):GS.step cs ⟨V,CX,i,k,none⟩=⟨V++ [t],fun q=>if q=t then s else CX q,i,k+1,none⟩:=by
  simp [GS.step,h,hb,hn,ht,hv]
theorem Gu{cs:List Ins}{n:Nat}{g:GS}(h:GS.run cs n=g):GS.run cs (n+1)=g.step cs:=by rw [GS.run,h]
theorem aA{op k:Int}{s s':List Int}(h:Qb op k s=some s')(hs:s.length≤8):s'.length≤8:=by
  unfold Qb at h
  repeat' split at h
  all_goals first|(cases h;done)|skip
  all_goals cases h
  all_goals first|assumption|(simp;omega)|(rw [List.length_append];simp;omega)|(have:=List.length_dropLast (xs:=s);omega)
theorem YZ{cs:List Ins}{z:Nat}{s s':List Int}(h:Hd cs z s=some s')(hs:s.length≤8):s'.length≤8:=by
  unfold Hd at h
  dsimp only at h
  split at h
  · cases h
  · exact aA h hs
structure WS(cs:List Ins)(K:B6)(f:Int->Option Value)(V:List Int)(CX:Int->List Int):Prop where
  gf:∀t∈V,0≤t/\t<(cs.length:Int)
  nd:V.Nodup
  eQ:∀t∈V,∃b n c,f t=some (.slice b n c)/\Sl K b ((CX t).map i64)/\(CX t).length=n/\n≤c/\n≤8
  out:∀t,t∉V->f t=none/\CX t= []
theorem WS.mono{cs:List Ins}{K K':B6}{f:Int->Option Value}{V:List Int}{CX:Int->List Int}(h:WS cs K f V CX)(hK:hle K K'):WS cs K' f V CX:=
  ⟨h.gf,h.nd,fun t ht=>by obtain⟨b,n,c,h1,h2,h3⟩:=h.eQ t ht;exact⟨b,n,c,h1,h2.mono hK,h3⟩,h.out⟩
theorem WS.add{cs:List Ins}{K:B6}{f:Int->Option Value}{V:List Int}{CX:Int->List Int}(h:WS cs K f V CX){t:Int}{s:List Int}{b:Option Addr}{n c:Nat}(ht:0≤t/\t<(cs.length:Int))(hv:t∉V)(sl:Sl K b (s.map i64))(hn:s.length=n)(hc:n≤c)(h8:n≤8):
    WS cs K (fun q=>if q=t then some (.slice b n c) else f q) (V++ [t]) (fun q=>if q=t then s else CX q):=by
  refine⟨fun u hu=> ?_,?_,fun u hu=> ?_,fun u hu=> ?_⟩
  · rcases List.mem_append.1 hu with hu|hu
    · exact h.gf u hu
    · rw [List.mem_singleton.1 hu];exact ht
  · rw [List.nodup_append];exact⟨h.nd,by simp,fun a ha b hb=>by rw [List.mem_singleton.1 hb];rintro rfl;exact hv ha⟩
  · by_cases e:u=t
    · subst e;exact⟨b,n,c,by simp,by simpa using sl,by simpa using hn,hc,h8⟩
    · rcases List.mem_append.1 hu with hu|hu
      · simpa [e] using h.eQ u hu
      · exact absurd (List.mem_singleton.1 hu) e
  · have e:u≠t:=fun e=>hu (by simp [e])
    have:=h.out u (fun x=>hu (List.mem_append.2 (.inl x)));simpa [e] using this
theorem WS.len{cs:List Ins}{K:B6}{f:Int->Option Value}{V:List Int}{CX:Int->List Int}(h:WS cs K f V CX):V.length≤cs.length:=Wn h.nd h.gf
theorem WS.first{cs:List Ins}{K:B6}(h:0<cs.length):WS cs K (fun q=>if q=0 then some (.slice none 0 0) else none) [0] (fun _=> []):=
  ⟨fun t ht=>by rw [List.mem_singleton.1 ht];omega,by simp,fun t ht=>⟨none,0,0,by simp [List.mem_singleton.1 ht],Sl.none,rfl,Nat.le_refl _,by omega⟩,fun t ht=>by simp [show t≠0 by simpa using ht]⟩
end Go.Proofs.YtcnmnmjmpocepaaGreatDoor.Nd
end
