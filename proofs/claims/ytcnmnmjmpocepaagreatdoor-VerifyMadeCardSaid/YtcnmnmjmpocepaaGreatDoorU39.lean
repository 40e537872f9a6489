
import Derived.Test.YtcnmnmjmpocepaaGreatDoorU00
import Derived.Test.YtcnmnmjmpocepaaGreatDoorU11
import Derived.Test.YtcnmnmjmpocepaaGreatDoorU30
set_option linter.unusedVariables false
set_option linter.unusedSimpArgs false
set_option linter.unusedSectionVars false
set_option maxRecDepth 100000
set_option maxHeartbeats 16000000
section
namespace Go.Proofs.YtcnmnmjmpocepaaGreatDoor
open Go.SL
open Kd
theorem Vz:∀ {l:List Bool} {k:Nat},l[k]?=some true->(∀j,j<k->l[j]?=some false)->l.findIdx? id=some k
  | [],k,h,_=>by simp at h
  |a::l,0,h,_=>by simp at h;subst h;simp [List.findIdx?_cons]
  | a::l,k+1,h,hb=>by
    have h0:=hb 0 Ab;simp at h0;subst h0
    have:=Vz (l:=l) (k:=k) (by simpa using h) (fun j hj=>by simpa using hb (j+1) Ab);simp [List.findIdx?_cons,this]
theorem au{l:List Bool}(h:∀j,j<l.length->l[j]?=some false):l.findIdx? id=none:=by
  rw [List.findIdx?_eq_none_iff];intro x hx;obtain⟨i,hi⟩:=List.mem_iff_getElem?.1 hx;have:=h i (List.getElem?_eq_some_iff.1 hi).1;rw [hi] at this;cases this;rfl
attribute [local irreducible] SL.T C7 Dc C6 Db DS Du
section
variable (p:HB) (J:B6) (s:Mk) (DE:s.code.length≤900000)
include DE
theorem Hq(n:Nat)(hn:n≤255):MT p J 98 [i64 (n:Int)] s (DA n s):=by
  intro HC kb kc HL FK G9;have gq:(n:Int)%2=((n%2:Nat):Int):=by omega
  rcases(show n%5=0∨n%5=1∨n%5=2∨n%5=3∨n%5=4 by omega) with h|h|h|h|h
  all_goals have h5:(n:Int)%5=((n%5:Nat):Int):=by omega
  all_goals rw [h] at h5
  · have e:DA n s=s.put [(2,0),(10,((n%2:Nat):Int)),(3,2)]:=by simp only [DA,h]
    rw [e];refine Ch Tryz.func98 rfl (Nat.le_of_ble_eq_true rfl) fun F=> ?_
    repeat' (first|refine Cq rfl rfl rfl (Dm (b:=5) rfl rfl rfl Ae) ?_|refine Cq rfl rfl rfl (Dm (b:=2) rfl rfl rfl Ae) ?_|apply B4|refine B3 0 BY Af ?_|refine Cs 2 BY Ao Ab ?_|(refine gk 4 rfl ?_;(refine B9 rfl rfl rfl rfl rfl rfl rfl rfl (Dh p s kb kc HC _ _ _ [i64 2,i64 0,i64 10,i64 ((n%2:Nat):Int),i64 3,i64 2] [(2,0),(10,((n%2:Nat):Int)),(3,2)] rfl rfl FK Ax) ?_;rintro _ _ ⟨HC1,EK,EJ,rfl,rfl,EH⟩;refine⟨_,_,rfl,rfl,?_⟩))|refine Cm (fun b=> ?_)|refine B0 ?_|apply B5|refine B8 ?_|refine Cl ?_|refine Cf ?_|apply Cc|refine H4 ?_)
    exact Cj [mB p (s.put [(2,0),(10,((n%2:Nat):Int)),(3,2)]) EK EJ,HC1,HL,J] CU ⟨HC1,EK,EJ,HL,rfl,rfl,EH,G9⟩
  · have e:DA n s=s.put [(2,0),(10,((n%2:Nat):Int)),(3,2)]:=by simp only [DA,h]
    rw [e];refine Ch Tryz.func98 rfl (Nat.le_of_ble_eq_true rfl) fun F=> ?_
    repeat' (first|refine Cq rfl rfl rfl (Dm (b:=5) rfl rfl rfl Ae) ?_|refine Cq rfl rfl rfl (Dm (b:=2) rfl rfl rfl Ae) ?_|apply B4|refine B3 0 BY Af ?_|refine Cs 2 BY Ao Ab ?_|refine CE 2 BY Ao Ab ?_|(refine gk 4 rfl ?_;(refine B9 rfl rfl rfl rfl rfl rfl rfl rfl (Dh p s kb kc HC _ _ _ [i64 2,i64 0,i64 10,i64 ((n%2:Nat):Int),i64 3,i64 2] [(2,0),(10,((n%2:Nat):Int)),(3,2)] rfl rfl FK Ax) ?_;rintro _ _ ⟨HC1,EK,EJ,rfl,rfl,EH⟩;refine⟨_,_,rfl,rfl,?_⟩))|refine Cm (fun b=> ?_)|refine B0 ?_|apply B5|refine B8 ?_|refine Cl ?_|refine Cg ?_|refine Cf ?_|refine H4 ?_)
    exact Cj [mB p (s.put [(2,0),(10,((n%2:Nat):Int)),(3,2)]) EK EJ,HC1,HL,J] CU ⟨HC1,EK,EJ,HL,rfl,rfl,EH,G9⟩
  · have e:DA n s=s.put [(2,0),(2,3),(11,((n%2:Nat):Int))]:=by simp only [DA,h]
    rw [e];refine Ch Tryz.func98 rfl (Nat.le_of_ble_eq_true rfl) fun F=> ?_
    repeat' (first|refine Cq rfl rfl rfl (Dm (b:=5) rfl rfl rfl Ae) ?_|refine Cq rfl rfl rfl (Dm (b:=2) rfl rfl rfl Ae) ?_|apply B4|refine B3 0 BY Af ?_|refine Cs 2 BY Ao Ab ?_|refine CE 2 BY Ao Ab ?_|(refine gk 4 rfl ?_;(refine B9 rfl rfl rfl rfl rfl rfl rfl rfl (Dh p s kb kc HC _ _ _ [i64 2,i64 0,i64 2,i64 3,i64 11,i64 ((n%2:Nat):Int)] [(2,0),(2,3),(11,((n%2:Nat):Int))] rfl rfl FK Ax) ?_;rintro _ _ ⟨HC1,EK,EJ,rfl,rfl,EH⟩;refine⟨_,_,rfl,rfl,?_⟩))|refine Cm (fun b=> ?_)|refine B0 ?_|apply B5|refine B8 ?_|refine Cl ?_|refine Cg ?_|refine Cf ?_|apply Cc|refine H4 ?_)
    exact Cj [mB p (s.put [(2,0),(2,3),(11,((n%2:Nat):Int))]) EK EJ,HC1,HL,J] CU ⟨HC1,EK,EJ,HL,rfl,rfl,EH,G9⟩
  · have e:DA n s=s.put [(2,0),(2,3),(11,((n%2:Nat):Int))]:=by simp only [DA,h]
    rw [e];refine Ch Tryz.func98 rfl (Nat.le_of_ble_eq_true rfl) fun F=> ?_
    repeat' (first|refine Cq rfl rfl rfl (Dm (b:=5) rfl rfl rfl Ae) ?_|refine Cq rfl rfl rfl (Dm (b:=2) rfl rfl rfl Ae) ?_|apply B4|refine B3 0 BY Af ?_|refine Cs 2 BY Ao Ab ?_|refine CE 2 BY Ao Ab ?_|(refine gk 4 rfl ?_;(refine B9 rfl rfl rfl rfl rfl rfl rfl rfl (Dh p s kb kc HC _ _ _ [i64 2,i64 0,i64 2,i64 3,i64 11,i64 ((n%2:Nat):Int)] [(2,0),(2,3),(11,((n%2:Nat):Int))] rfl rfl FK Ax) ?_;rintro _ _ ⟨HC1,EK,EJ,rfl,rfl,EH⟩;refine⟨_,_,rfl,rfl,?_⟩))|refine Cm (fun b=> ?_)|refine B0 ?_|apply B5|refine B8 ?_|refine Cl ?_|refine Cg ?_|refine Cf ?_|refine H4 ?_)
    exact Cj [mB p (s.put [(2,0),(2,3),(11,((n%2:Nat):Int))]) EK EJ,HC1,HL,J] CU ⟨HC1,EK,EJ,HL,rfl,rfl,EH,G9⟩
  · have e:DA n s=⟨s.at_,s.code++CJ [(2,1),(2,0)]++ [⟨11,1,1⟩],s.locked,s.loops⟩:=by simp only [DA,h]
    rw [e];refine Ch Tryz.func98 rfl (Nat.le_of_ble_eq_true rfl) fun F=> ?_
    repeat' (first|refine Cq rfl rfl rfl (Dm (b:=5) rfl rfl rfl Ae) ?_|apply B4|refine B3 0 BY Af ?_|refine CE 2 BY Ao Ab ?_|refine B3 3 BY Ah ?_|(refine gk 4 rfl ?_;(refine B9 rfl rfl rfl rfl rfl rfl rfl rfl (Dh p s kb kc HC _ _ _ [i64 2,i64 1,i64 2,i64 0] [(2,1),(2,0)] rfl rfl FK Ax) ?_;rintro _ _ ⟨HC1,EK,EJ,rfl,rfl,EH⟩;refine⟨_,_,rfl,rfl,?_⟩))|refine B3 5 BY A4 ?_|refine Cm (fun b=> ?_)|refine B0 ?_|apply B5|refine B8 ?_|refine Cg ?_|refine Cf ?_)
    repeat' (first|refine B3 3 BY BC ?_|(refine gk 4 rfl ?_;refine EV rfl rfl rfl rfl rfl rfl rfl rfl rfl EH Ae rfl Ae rfl (by rw [Dw];simp only [List.length_cons,List.length_nil];omega) (by rw [Dw];simp only [List.length_cons,List.length_nil];omega) (fun h2 b2 c2 GC=> ?_))|refine B3 5 BY Al ?_|refine Ck ?_|apply B5|refine H4 ?_)
    have e3:(s.put [(2,1),(2,0)]).code.length+1=(s.code++CJ [(2,1),(2,0)]++([⟨11,1,1⟩]:List Ins)).length:=by simp [Mk.put,Nat.add_assoc]
    rw [e3] at GC ⊢
    refine Cj [mC p (s.put [(2,1),(2,0)]).at_ (s.put [(2,1),(2,0)]).loops b2 (s.code++CJ [(2,1),(2,0)]++([⟨11,1,1⟩]:List Ins)).length c2,h2,HL,J] CU ⟨h2,b2,c2,HL,rfl,rfl,?_,G9⟩;rw [F4];exact GC
theorem Tn(op:Int)(ho:p.own≤2):MT p J 103 [i64 op] s (FT p.own op s):=by
  intro HC kb kc HL FK G9;by_cases h2:p.own=2
  · have e:FT p.own op s=s.put [(0,5),(3,3)]:=by simp only [FT];rw [if_pos h2]
    rw [e];refine Ch Tryz.func103 rfl (Nat.le_of_ble_eq_true rfl) fun F=> ?_
    repeat' (first|apply B4|refine B3 0 BY Am ?_|refine Cs 2 BY Ao Ab ?_|refine B3 3 BY Ah ?_|(refine gk 4 rfl ?_;(refine B9 rfl rfl rfl rfl rfl rfl rfl rfl (Dh p s kb kc HC _ _ _ [i64 0,i64 5,i64 3,i64 3] [(0,5),(3,3)] rfl rfl FK Ax) ?_;rintro _ _ ⟨HC1,EK,EJ,rfl,rfl,EH⟩;refine⟨_,_,rfl,rfl,?_⟩))|refine B3 5 BY Al ?_|refine Cm (fun b=> ?_)|refine B0 ?_|apply B5|refine B8 ?_|refine Cl ?_|apply Cb|refine Cx ?_)
    exact Cj [mB p (s.put [(0,5),(3,3)]) EK EJ,HC1,HL,J] CU ⟨HC1,EK,EJ,HL,rfl,rfl,EH,G9⟩
  · have e1:((p.own:Nat):Int)+1=((p.own+1:Nat):Int):=by omega
    by_cases h1:p.own+1=2
    · have e:FT p.own op s=(((s.put [(2,0),(2,1)]).put [(2,2)]).put [(2,2)]).put [(op,((p.own+1:Nat):Int)),(3,2)]:=by simp only [FT];rw [if_neg h2,if_pos h1,e1]
      rw [e];refine Ch Tryz.func103 rfl (Nat.le_of_ble_eq_true rfl) fun F=> ?_
      repeat' (first|refine Cq rfl rfl rfl ((GN rfl rfl rfl Ab Ab).to (congrArg (Value.int .i64) e1)) ?_|apply B4|refine B3 0 BY Af ?_|refine Cs 2 BY Ao Ab ?_|refine CE 2 BY Ao Ab ?_|refine B3 3 BY Ah ?_|(refine gk 4 rfl ?_;(refine B9 rfl rfl rfl rfl rfl rfl rfl rfl (Dh p s kb kc HC _ _ _ [i64 2,i64 0,i64 2,i64 1] [(2,0),(2,1)] rfl rfl FK Ax) ?_;rintro _ _ ⟨HC1,EK,EJ,rfl,rfl,EH⟩;refine⟨_,_,rfl,rfl,?_⟩))|refine B3 5 BY Al ?_|refine Cm (fun b=> ?_)|refine B0 ?_|apply B5|refine B8 ?_|refine Cl ?_|refine Cg ?_|apply Cc)
      repeat' (first|refine B3 0 BY Am ?_|(refine gk 4 rfl ?_;(refine B9 rfl rfl rfl rfl rfl rfl rfl rfl (Dh p (s.put [(2,0),(2,1)]) EK EJ HC1 _ _ _ [i64 2,i64 2] [(2,2)] rfl rfl EH Ax) ?_;rintro _ _ ⟨HC2,IT,IS,rfl,rfl,GC⟩;refine⟨_,_,rfl,rfl,?_⟩))|refine Cm (fun b=> ?_)|refine B0 ?_|apply B5)
      repeat' (first|refine B3 0 BY Am ?_|(refine gk 4 rfl ?_;(refine B9 rfl rfl rfl rfl rfl rfl rfl rfl (Dh p ((s.put [(2,0),(2,1)]).put [(2,2)]) IT IS HC2 _ _ _ [i64 2,i64 2] [(2,2)] rfl rfl GC Ax) ?_;rintro _ _ ⟨HC3,kb3,kc3,rfl,rfl,RX⟩;refine⟨_,_,rfl,rfl,?_⟩))|refine Cm (fun b=> ?_)|refine B0 ?_|apply B5)
      repeat' (first|(refine gk 4 rfl ?_;(refine B9 rfl rfl rfl rfl rfl rfl rfl rfl (Dh p (((s.put [(2,0),(2,1)]).put [(2,2)]).put [(2,2)]) kb3 kc3 HC3 _ _ _ [i64 op,i64 ((p.own+1:Nat):Int),i64 3,i64 2] [(op,((p.own+1:Nat):Int)),(3,2)] rfl rfl RX Ax) ?_;rintro _ _ ⟨HC4,kb4,kc4,rfl,rfl,os4⟩;refine⟨_,_,rfl,rfl,?_⟩))|apply B5)
      exact Cj [mB p ((((s.put [(2,0),(2,1)]).put [(2,2)]).put [(2,2)]).put [(op,((p.own+1:Nat):Int)),(3,2)]) kb4 kc4,HC4,HL,J] CU ⟨HC4,kb4,kc4,HL,rfl,rfl,os4,G9⟩
    · have e:FT p.own op s=(s.put [(2,0),(2,1)]).put [(op,((p.own+1:Nat):Int)),(3,2)]:=by simp only [FT];rw [if_neg h2,if_neg h1,e1]
      rw [e];refine Ch Tryz.func103 rfl (Nat.le_of_ble_eq_true rfl) fun F=> ?_
      repeat' (first|refine Cq rfl rfl rfl ((GN rfl rfl rfl Ab Ab).to (congrArg (Value.int .i64) e1)) ?_|apply B4|refine B3 0 BY Af ?_|refine CE 2 BY Ao Ab ?_|refine B3 3 BY Ah ?_|(refine gk 4 rfl ?_;(refine B9 rfl rfl rfl rfl rfl rfl rfl rfl (Dh p s kb kc HC _ _ _ [i64 2,i64 0,i64 2,i64 1] [(2,0),(2,1)] rfl rfl FK Ax) ?_;rintro _ _ ⟨HC1,EK,EJ,rfl,rfl,EH⟩;refine⟨_,_,rfl,rfl,?_⟩))|refine B3 5 BY Al ?_|refine Cm (fun b=> ?_)|refine B0 ?_|apply B5|refine B8 ?_|refine Cg ?_|apply Cc)
      repeat' (first|(refine gk 4 rfl ?_;(refine B9 rfl rfl rfl rfl rfl rfl rfl rfl (Dh p (s.put [(2,0),(2,1)]) EK EJ HC1 _ _ _ [i64 op,i64 ((p.own+1:Nat):Int),i64 3,i64 2] [(op,((p.own+1:Nat):Int)),(3,2)] rfl rfl EH Ax) ?_;rintro _ _ ⟨HC2,IT,IS,rfl,rfl,GC⟩;refine⟨_,_,rfl,rfl,?_⟩))|apply B5)
      exact Cj [mB p ((s.put [(2,0),(2,1)]).put [(op,((p.own+1:Nat):Int)),(3,2)]) IT IS,HC2,HL,J] CU ⟨HC2,IT,IS,HL,rfl,rfl,GC,G9⟩
theorem MB(n:Nat)(hn:n≤255)(J1:s.locked.length=5):MT p J 99 [i64 (n:Int)] s (FG n s):=by
  intro HC kb kc HL FK G9;refine Ch Tryz.func99 rfl (Nat.le_of_ble_eq_true rfl) fun F=> ?_
  repeat' (first|apply B4|refine B3 0 BY Au ?_|refine B0 ?_|apply B5|refine B8 ?_|refine Cf ?_)
  refine CH (fun k:Nat=> [(0,pM p),(1,i64 (n:Int)),(4,i64 (k:Int))]) (fun _=> [mB p s kb kc,HC,HL,J]) (fun k=>k≤5/\∀j,j<k->s.locked[j]?=some false) (fun k=>5 - k) 0 (by repeat first|exact Sub.nil _|refine Sub.cons rfl ?_) ⟨Nat.zero_le _,fun j hj=>absurd hj (Nat.not_lt_zero _)⟩ ?_;rintro k ⟨hk,hbef⟩;haveI slL:=G9.sl;by_cases hk5:k<5
  · obtain⟨b,hb⟩:∃z,s.locked[k]?=some z:=⟨_,List.getElem?_eq_getElem Ab⟩;have hct:(Pg s.locked)[((k:Nat):Int).toNat*1]?=some (.bool b):=by simp [Pg,hb]
    have hkk:((k:Nat):Int).toNat*1<(Pg s.locked).length:=by simp [Pg];omega
    cases b with
    | false=>
      repeat' (first|apply B4|refine B3 0 BY AW ?_|refine B3 1 BY Ap ?_|refine Cs 2 BY Aj Ab ?_|refine B3 3 BY AA ?_|refine B3 4 BY Ag ?_|refine B3 5 BY Al ?_|refine B0 ?_|apply B5|refine B8 ?_|refine Cl ?_|refine Cf ?_|refine CC ?_|apply Cc)
      refine⟨rfl,k+1,CA (by repeat first|exact Sub.nil _|refine Sub.cons rfl ?_),⟨by omega,fun j hj=> ?_⟩,by omega⟩;by_cases e:j=k
      · rw [e];exact hb
      · exact hbef j Ab
    | true=>
      have e:FG n s=s.put (Fb n k):=by
        unfold FG;rw [Vz hb hbef]
      rw [e];rcases(show n%5=0∨n%5=1∨n%5=2∨n%5=3∨n%5=4 by omega) with h|h|h|h|h
      all_goals have h5:(n:Int)%5=((n%5:Nat):Int):=by omega
      all_goals rw [h] at h5
      · have e2:Fb n k= [(2,(k:Int)),(14,0),(3,3)]:=by simp only [Fb,h]
        rw [e2]
        repeat' (first|refine Cq rfl rfl rfl (Dm (b:=5) rfl rfl rfl Ae) ?_|apply B4|refine B3 0 BY AH ?_|refine Cs 2 BY AN Ab ?_|refine B3 3 BY AA ?_|refine B3 4 BY Ag ?_|(refine gk 4 rfl ?_;(refine B9 rfl rfl rfl rfl rfl rfl rfl rfl (Dh p s kb kc HC _ _ _ [i64 2,i64 (k:Int),i64 14,i64 0,i64 3,i64 3] [(2,(k:Int)),(14,0),(3,3)] rfl rfl FK Ax) ?_;rintro _ _ ⟨HC1,EK,EJ,rfl,rfl,EH⟩;refine⟨_,_,rfl,rfl,?_⟩))|refine B3 5 BY Al ?_|refine Cm (fun b=> ?_)|refine B0 ?_|apply B5|refine B8 ?_|refine Cl ?_|refine Cg ?_|refine Cf ?_|apply Cb|apply Cc|refine Cx ?_|refine Dd ?_)
        exact Cj [mB p (s.put [(2,(k:Int)),(14,0),(3,3)]) EK EJ,HC1,HL,J] CU ⟨HC1,EK,EJ,HL,rfl,rfl,EH,G9⟩
      · have e2:Fb n k= [(2,(k:Int)),(15,0)]:=by simp only [Fb,h]
        rw [e2]
        repeat' (first|refine Cq rfl rfl rfl (Dm (b:=5) rfl rfl rfl Ae) ?_|apply B4|refine B3 0 BY AH ?_|refine Cs 2 BY AN Ab ?_|refine CE 2 BY Ao Ab ?_|refine B3 3 BY AA ?_|refine B3 4 BY Ag ?_|(refine gk 4 rfl ?_;(refine B9 rfl rfl rfl rfl rfl rfl rfl rfl (Dh p s kb kc HC _ _ _ [i64 2,i64 (k:Int),i64 15,i64 0] [(2,(k:Int)),(15,0)] rfl rfl FK Ax) ?_;rintro _ _ ⟨HC1,EK,EJ,rfl,rfl,EH⟩;refine⟨_,_,rfl,rfl,?_⟩))|refine B3 5 BY Al ?_|refine Cm (fun b=> ?_)|refine B0 ?_|apply B5|refine B8 ?_|refine Cl ?_|refine Cg ?_|refine Cf ?_|apply Cb|apply Cc|refine Cx ?_|refine Dd ?_)
        exact Cj [mB p (s.put [(2,(k:Int)),(15,0)]) EK EJ,HC1,HL,J] CU ⟨HC1,EK,EJ,HL,rfl,rfl,EH,G9⟩
      · have e2:Fb n k= [(2,(k:Int)),(15,0)]:=by simp only [Fb,h]
        rw [e2]
        repeat' (first|refine Cq rfl rfl rfl (Dm (b:=5) rfl rfl rfl Ae) ?_|apply B4|refine B3 0 BY AH ?_|refine Cs 2 BY AN Ab ?_|refine CE 2 BY Ao Ab ?_|refine B3 3 BY AA ?_|refine B3 4 BY Ag ?_|(refine gk 4 rfl ?_;(refine B9 rfl rfl rfl rfl rfl rfl rfl rfl (Dh p s kb kc HC _ _ _ [i64 2,i64 (k:Int),i64 15,i64 0] [(2,(k:Int)),(15,0)] rfl rfl FK Ax) ?_;rintro _ _ ⟨HC1,EK,EJ,rfl,rfl,EH⟩;refine⟨_,_,rfl,rfl,?_⟩))|refine B3 5 BY Al ?_|refine Cm (fun b=> ?_)|refine B0 ?_|apply B5|refine B8 ?_|refine Cl ?_|refine Cg ?_|refine Cf ?_|apply Cb|apply Cc|refine Cx ?_|refine Dd ?_)
        exact Cj [mB p (s.put [(2,(k:Int)),(15,0)]) EK EJ,HC1,HL,J] CU ⟨HC1,EK,EJ,HL,rfl,rfl,EH,G9⟩
      · have e2:Fb n k= [(2,(k:Int)),(16,0)]:=by simp only [Fb,h]
        rw [e2]
        repeat' (first|refine Cq rfl rfl rfl (Dm (b:=5) rfl rfl rfl Ae) ?_|apply B4|refine B3 0 BY AH ?_|refine Cs 2 BY AN Ab ?_|refine CE 2 BY Ao Ab ?_|refine B3 3 BY AA ?_|refine B3 4 BY Ag ?_|(refine gk 4 rfl ?_;(refine B9 rfl rfl rfl rfl rfl rfl rfl rfl (Dh p s kb kc HC _ _ _ [i64 2,i64 (k:Int),i64 16,i64 0] [(2,(k:Int)),(16,0)] rfl rfl FK Ax) ?_;rintro _ _ ⟨HC1,EK,EJ,rfl,rfl,EH⟩;refine⟨_,_,rfl,rfl,?_⟩))|refine B3 5 BY Al ?_|refine Cm (fun b=> ?_)|refine B0 ?_|apply B5|refine B8 ?_|refine Cl ?_|refine Cg ?_|refine Cf ?_|apply Cb|apply Cc|refine Cx ?_|refine Dd ?_)
        exact Cj [mB p (s.put [(2,(k:Int)),(16,0)]) EK EJ,HC1,HL,J] CU ⟨HC1,EK,EJ,HL,rfl,rfl,EH,G9⟩
      · have e2:Fb n k= [(2,(k:Int)),(16,0)]:=by simp only [Fb,h]
        rw [e2]
        repeat' (first|refine Cq rfl rfl rfl (Dm (b:=5) rfl rfl rfl Ae) ?_|apply B4|refine B3 0 BY AH ?_|refine Cs 2 BY AN Ab ?_|refine CE 2 BY Ao Ab ?_|refine B3 3 BY AA ?_|refine B3 4 BY Ag ?_|(refine gk 4 rfl ?_;(refine B9 rfl rfl rfl rfl rfl rfl rfl rfl (Dh p s kb kc HC _ _ _ [i64 2,i64 (k:Int),i64 16,i64 0] [(2,(k:Int)),(16,0)] rfl rfl FK Ax) ?_;rintro _ _ ⟨HC1,EK,EJ,rfl,rfl,EH⟩;refine⟨_,_,rfl,rfl,?_⟩))|refine B3 5 BY Al ?_|refine Cm (fun b=> ?_)|refine B0 ?_|apply B5|refine B8 ?_|refine Cl ?_|refine Cg ?_|refine Cf ?_|apply Cb|apply Cc|refine Cx ?_|refine Dd ?_)
        exact Cj [mB p (s.put [(2,(k:Int)),(16,0)]) EK EJ,HC1,HL,J] CU ⟨HC1,EK,EJ,HL,rfl,rfl,EH,G9⟩
  · have e:FG n s=s:=by
      unfold FG;rw [au (fun j hj=>hbef j Ab)]
    rw [e]
    repeat' (first|apply B4|refine B3 0 BY Am ?_|refine CE 2 BY Aj Ab ?_|refine B3 3 BY Ah ?_|refine B3 4 BY Ag ?_|refine B3 5 BY Al ?_|refine B0 ?_|apply B5|refine B8 ?_|refine Cg ?_|refine CC ?_|refine Fl ?_|refine Fp ?_)
    exact GB [mB p s kb kc,HC,HL,J] CU ⟨HC,kb,kc,HL,rfl,rfl,FK,G9⟩
end
end Go.Proofs.YtcnmnmjmpocepaaGreatDoor
end
section
namespace Go.Proofs.YtcnmnmjmpocepaaGreatDoor
open Go.SL
open Kd
structure Nt(p:HB)(J:B6)(L A X:Nat)(d:Int)(rec:Mk->Mk):Prop where
  calls:∀s:Mk,s.code.length≤153->s.locked.length=5->s.at_≤X->s.loops≤3->MT p J 59 [i64 d] s (rec s)
  fits:Fits L A rec
theorem Ye{l:List Bool}{k:Nat}(b:Bool)(h:k<l.length):(Pg l).take (k*1)++ [.bool b]++(Pg l).drop (k*1+1)=Pg (l.set k b):=by
  rw [Pg,Pg,List.map_set,Nat.mul_one,List.set_eq_take_append_cons_drop,if_pos (by simpa using h)];simp
theorem PR{l:List Bool}{k:Nat}(b:Bool)(h:k<l.length):(Pg l).take (((k:Nat):Int).toNat*1)++ [.bool b]++(Pg l).drop (((k:Nat):Int).toNat*1+1)=Pg (l.set k b):=by
  rw [Int.toNat_natCast];exact Ye b h
theorem TW{l:List Ins}{i:Nat}(a:Int)(h:i<l.length):(Cp l).take (i*3+1)++ [i64 a]++(Cp l).drop (i*3+1+1)=Cp (L8 l i a):=by
  obtain⟨y,hy⟩:∃y,l[i]?=some y:=⟨_,List.getElem?_eq_getElem h⟩;have e:L8 l i a=l.set i ⟨y.op,a,y.b⟩:=by unfold L8;rw [hy]
  rw [e];clear e;induction l generalizing i with
  |nil=>simp at h
  | cons x r ih=>
    cases i with
    |zero=>simp at hy;subst hy;simp [Cp]
    | succ i=>
      have:=ih (i:=i) (by simpa using h) (by simpa using hy);simp only [Nat.succ_mul,Cp,List.set_cons_succ] at this ⊢
      simpa using this
theorem MD{l:List Ins}{i:Nat}(a:Int)(h:i<l.length):(Cp l).take (((i:Nat):Int).toNat*3+1)++ [i64 a]++(Cp l).drop (((i:Nat):Int).toNat*3+1+1)=Cp (L8 l i a):=by
  rw [Int.toNat_natCast];exact TW a h
attribute [local irreducible] SL.T C7 Dc C6 Db DS Du
section
variable (p:HB) (J:B6) (L A X:Nat) (d:Int) (rec:Mk->Mk) (fk:1≤d) (SN:d≤100) (hB:Nt p J L A X (d - 1) rec) (hL:L≤1000) (hA:A≤10000)
include fk SN hB hL hA
theorem KL(k:Nat)(hk:k<5)(s:Mk)(hs:s.code.length<150)(J1:s.locked.length=5)(E5:s.at_≤X)(WK:s.loops≤3):MT p J 100 [i64 (k:Int),i64 d] s (FA rec k s):=by
  intro HC kb kc HL FK G9;haveI slL:=G9.sl;obtain⟨z,hz⟩:∃z,s.locked[k]?=some z:=⟨_,List.getElem?_eq_getElem Ab⟩;have hct:(Pg s.locked)[((k:Nat):Int).toNat*1]?=some (.bool z):=by simp [Pg,hz]
  have hkk:((k:Nat):Int).toNat*1<(Pg s.locked).length:=by simp [Pg];omega
  cases z with
  | true=>
    have e:FA rec k s=s.put [(2,2),(19,0)]:=by simp [FA,List.getD,hz]
    rw [e];refine Ch Tryz.func100 rfl (Nat.le_of_ble_eq_true rfl) fun F=> ?_
    repeat' (first|apply B4|refine B3 0 BY Am ?_|refine B3 3 BY AA ?_|(refine gk 4 rfl ?_;(refine B9 rfl rfl rfl rfl rfl rfl rfl rfl (Dh p s kb kc HC _ _ _ [i64 2,i64 2,i64 19,i64 0] [(2,2),(19,0)] rfl rfl FK AM) ?_;rintro _ _ ⟨HC1,EK,EJ,rfl,rfl,EH⟩;refine⟨_,_,rfl,rfl,?_⟩))|refine B3 5 BY Al ?_|refine Cm (fun b=> ?_)|refine B0 ?_|apply B5|refine B8 ?_|refine Cl ?_|apply Cb|refine Cx ?_)
    exact Cj [mB p (s.put [(2,2),(19,0)]) EK EJ,HC1,HL,J] CU ⟨HC1,EK,EJ,HL,rfl,rfl,EH,G9⟩
  | false=>
    have e:FA rec k s=((rec ((s.put [(2,k),(12,0)]).lock k true)).lock k false).put [(2,k),(13,0)]:=by simp [FA,List.getD,hz]
    rw [e];have hc:=hB.calls ((s.put [(2,k),(12,0)]).lock k true) BA (by simp only [Mk.lock,Mk.put,List.length_set];exact J1) E5 WK;have hf:=hB.fits ((s.put [(2,k),(12,0)]).lock k true) BA
    generalize hr:rec ((s.put [(2,(k:Int)),(12,0)]).lock k true)=r at*
    have iw:r.locked.length=5:=by rw [hf.lk];simp only [Mk.lock,Mk.put,List.length_set];exact J1
    refine Ch Tryz.func100 rfl (Nat.le_of_ble_eq_true rfl) fun F=> ?_
    repeat' (first|refine Hw rfl rfl rfl rfl rfl G9 rfl rfl rfl (Nat.succ_pos _) Aq (PR true Ab) (fun UA XV=> ?_)|apply B4|refine B3 0 BY Am ?_|refine B3 1 BY Aw ?_|refine B3 3 BY AA ?_|(refine gk 4 rfl ?_;(refine B9 rfl rfl rfl rfl rfl rfl rfl rfl (Dh p s kb kc HC _ _ _ [i64 2,i64 (k:Int),i64 12,i64 0] [(2,(k:Int)),(12,0)] rfl rfl FK AM) ?_;rintro _ _ ⟨HC1,EK,EJ,rfl,rfl,EH⟩;refine⟨_,_,rfl,rfl,?_⟩))|refine B3 5 BY Al ?_|refine Cm (fun b=> ?_)|refine B0 ?_|apply B5|refine B8 ?_|refine Cg ?_|apply Cc)
    have LD:SL.T Tryz.prog 59 [pM p,i64 (d - 1)] [mB p (s.put [(2,(k:Int)),(12,0)]) EK EJ,HC1,UA,J] (MQ p J r):=hc HC1 EK EJ UA EH XV;have hfl:=hf.len
    repeat' (first|apply B4|refine B3 0 BY Am ?_|refine B3 3 BY Ah ?_|(refine gk 4 rfl ?_;(refine B9 rfl rfl rfl rfl rfl rfl rfl rfl (LD) ?_;rintro _ _ ⟨HC2,IT,IS,HL2,rfl,rfl,GC,osL2⟩;refine⟨_,_,rfl,rfl,?_⟩))|refine B3 5 BY Al ?_|refine B0 ?_|apply B5)
    haveI slL2:=osL2.sl;have hkk2:((k:Nat):Int).toNat*1<(Pg r.locked).length:=by simp [Pg];omega
    repeat' (first|refine Hw rfl rfl rfl rfl rfl osL2 rfl rfl rfl (Nat.succ_pos _) Aq (PR false Ab) (fun dV ib=> ?_)|refine B3 0 BY Am ?_|refine B3 3 BY BD ?_|(refine gk 4 rfl ?_;(refine B9 rfl rfl rfl rfl rfl rfl rfl rfl (Dh p r IT IS HC2 _ _ _ [i64 2,i64 (k:Int),i64 13,i64 0] [(2,(k:Int)),(13,0)] rfl rfl GC AM) ?_;rintro _ _ ⟨HC3,kb3,kc3,rfl,rfl,RX⟩;refine⟨_,_,rfl,rfl,?_⟩))|refine Cm (fun b=> ?_)|refine B0 ?_|apply B5)
    exact Cj [mB p (r.put [(2,(k:Int)),(13,0)]) kb3 kc3,HC3,dV,J] CU ⟨HC3,kb3,kc3,dV,rfl,rfl,RX,ib⟩
theorem TK(s:Mk)(hs:s.code.length<150)(J1:s.locked.length=5)(E5:s.at_≤X)(WK:s.loops≤3):MT p J 101 [i64 d] s (Jj rec s):=by
  intro HC kb kc HL FK G9;have hc:=hB.calls (s.put [(2,2),(7,0)]) Ax J1 E5 WK;have hf:=hB.fits (s.put [(2,2),(7,0)]) Ax;have e:Jj rec s=((rec (s.put [(2,2),(7,0)])).to (s.code.length+1) (rec (s.put [(2,2),(7,0)])).code.length).put [(2,2),(3,2)]:=rfl;rw [e]
  generalize hr:rec (s.put [(2,2),(7,0)])=r at*
  have hfl:=hf.len;have hfe:=hf.le;rw [Dw] at hfe
  simp only [List.length_cons,List.length_nil] at hfe
  have e4:(((s.put [(2,2),(7,0)]).code.length:Nat):Int) - 1=((s.code.length+1:Nat):Int):=by rw [Dw];simp only [List.length_cons,List.length_nil];omega
  refine Ch Tryz.func101 rfl (Nat.le_of_ble_eq_true rfl) fun F=> ?_
  repeat' (first|apply B4|refine B3 0 BY Af ?_|refine B3 1 BY Aw ?_|refine B3 3 BY Ah ?_|refine B3 4 BY Ag ?_|(refine gk 4 rfl ?_;(refine B9 rfl rfl rfl rfl rfl rfl rfl rfl (Dh p s kb kc HC _ _ _ [i64 2,i64 2,i64 7,i64 0] [(2,2),(7,0)] rfl rfl FK AM) ?_;rintro _ _ ⟨HC1,EK,EJ,rfl,rfl,EH⟩;refine⟨_,_,rfl,rfl,?_⟩))|refine B3 5 BY Al ?_|refine Cm (fun b=> ?_)|refine B0 ?_|apply B5)
  have LD:=hc HC1 EK EJ HL EH G9
  repeat' (first|apply B4|(refine gk 4 rfl ?_;(refine B9 rfl rfl rfl rfl rfl rfl rfl rfl (LD) ?_;rintro _ _ ⟨HC2,IT,IS,HL2,rfl,rfl,GC,osL2⟩;refine⟨_,_,rfl,rfl,?_⟩))|apply B5)
  rw [e4];haveI slC2:=GC.sl;have hkk:((s.code.length+1:Nat):Int).toNat*3<(Cp r.code).length:=by rw [CW];simp;omega
  have hkk1:((s.code.length+1:Nat):Int).toNat*3+1<(Cp r.code).length:=by rw [CW];simp;omega
  refine Cu [.q [0,1,2,3,4,5,6,7,8,9,10,11],.h true 12] [mB p r IT IS] Ac Ac Ac Ac ?_
  repeat' (first|refine B3 0 BY Am ?_|refine B3 3 BY Bz ?_|refine B3 4 BY Ag ?_|(refine gk 4 rfl ?_;(refine B9 rfl rfl rfl rfl rfl rfl rfl rfl (RO p (r.to (s.code.length+1) r.code.length) r.at_ r.loops IT r.code.length IS UA _ _ _ [i64 2,i64 2,i64 3,i64 2] [(2,2),(3,2)] (r.code.length+2) rfl rfl (by simp only [Dw,FJ,Mk.lock,Mk.to,Mk.nx,List.length_cons,List.length_nil]) Be rfl rfl XV Ab) ?_;rintro _ _ ⟨HC3,kb3,kc3,rfl,rfl,RX⟩;refine⟨_,_,rfl,rfl,?_⟩))|refine B3 5 BY Al ?_|refine Cm (fun b=> ?_)|refine B0 ?_|refine Cz ?_|refine CQ rfl ?_|refine D3 rfl rfl rfl rfl rfl rfl GC rfl rfl rfl (Nat.succ_pos _) Aq (MD (r.code.length:Int) Ab) (fun UA XV=> ?_)|apply B5)
  have e6:((r.to (s.code.length+1) r.code.length).put [(2,2),(3,2)]).code.length=r.code.length+2:=by rw [Dw];simp [Mk.to,FJ]
  refine GB [mC p r.at_ r.loops kb3 (r.code.length+2) kc3,HC3,HL2,J] CU ⟨HC3,kb3,kc3,HL2,?_,rfl,?_,osL2⟩
  · rw [<-e6];rfl
  · rw [e6];exact RX
end
end Go.Proofs.YtcnmnmjmpocepaaGreatDoor
end
section
namespace Go.Proofs.YtcnmnmjmpocepaaGreatDoor
open Go.SL
open Kd
attribute [local irreducible] SL.T C7 Dc C6 Db DS Du
theorem Uf(p:HB)(J:B6)(bs:List Nat)(L A X:Nat)(d:Int)(rec:Mk->Mk)(fk:1≤d)(SN:d≤100)(hB:Nt p J L A X (d - 1) rec)(hL:L≤1000)(hA:A≤10000)
    [O1:Sl J p.bb (bs.map Mx)] (J4:bs.length=p.bn) (Km:p.bn≤1000000) (hb:∀x∈bs,x≤255)
    (s:Mk) (hs:s.code.length<150) (J1:s.locked.length=5) (E5:s.at_+1≤X) (hX:X≤900000) (WK:s.loops≤3):MT p J 102 [i64 d] s (HZ bs rec s):=by
  intro HC kb kc HL FK G9;by_cases h3:s.loops=3
  · have e:HZ bs rec s=s.put [(0,7),(3,2)]:=by unfold HZ;rw [if_pos h3]
    rw [e];refine Ch Tryz.func102 rfl (Nat.le_of_ble_eq_true rfl) fun F=> ?_
    repeat' (first|apply B4|refine B3 0 BY Am ?_|refine Cs 2 BY Ao Ab ?_|refine B3 3 BY Ah ?_|(refine gk 4 rfl ?_;(refine B9 rfl rfl rfl rfl rfl rfl rfl rfl (Dh p s kb kc HC _ _ _ [i64 0,i64 7,i64 3,i64 2] [(0,7),(3,2)] rfl rfl FK AM) ?_;rintro _ _ ⟨HC1,EK,EJ,rfl,rfl,EH⟩;refine⟨_,_,rfl,rfl,?_⟩))|refine B3 5 BY Al ?_|refine Cm (fun b=> ?_)|refine B0 ?_|apply B5|refine B8 ?_|refine Cl ?_|apply Cb|refine Cx ?_)
    exact Cj [mB p (s.put [(0,7),(3,2)]) EK EJ,HC1,HL,J] CU ⟨HC1,EK,EJ,HL,rfl,rfl,EH,G9⟩
  · obtain⟨s1,JZ⟩:∃z,z=(({s with loops:=s.loops+1}:Mk).nx).put [(0,(1+((CK bs s.at_%2:Nat):Int))),(3,(5+(s.loops:Int)))]:=⟨_,rfl⟩;have hs1l:s1.code.length=s.code.length+2:=by rw [JZ,Dw];rfl
    have hs1a:s1.at_=s.at_+1:=by rw [JZ];rfl
    have hs1o:s1.loops=s.loops+1:=by rw [JZ];rfl
    have hs1k:s1.locked=s.locked:=by rw [JZ];rfl
    obtain⟨s2,OV⟩:∃z,z=s1.put [(2,(5+(s.loops:Int))),(7,0)]:=⟨_,rfl⟩;have hs2l:s2.code.length=s.code.length+4:=by rw [OV,Dw,hs1l];rfl
    have hs2a:s2.at_=s.at_+1:=by rw [OV];exact hs1a
    have hs2o:s2.loops=s.loops+1:=by rw [OV];exact hs1o
    have hs2k:s2.locked=s.locked:=by rw [OV];exact hs1k
    have hc:=hB.calls s2 Ab (by rw [hs2k];exact J1) Ab Ab;have hf:=hB.fits s2 Ab;obtain⟨r,hr⟩:∃z,z=rec s2:=⟨_,rfl⟩;rw [<-hr] at hc hf
    have hfl:=hf.len;have hfe:=hf.le;have hfo:=hf.loops;rw [hs2l] at hfe
    rw [hs2o] at hfo
    have e:HZ bs rec s={(((r.put [(2,(5+(s.loops:Int))),(0,1),(5,0),(3,(5+(s.loops:Int))),(6,((s.code.length+2:Nat):Int))]).to (s.code.length+3) ((r.code.length+5:Nat):Int)).put [(0,0),(3,(5+(s.loops:Int)))]) with loops:=r.loops - 1}:=by
      unfold HZ;rw [if_neg h3];dsimp only;rw [<-JZ,<-OV,<-hr,hs1l,Dw]
      rfl
    rw [e];clear e;have e1:((s.loops:Nat):Int)+1=((s.loops+1:Nat):Int):=by omega
    have e4:(((s.code.length+4:Nat):Nat):Int) - 1=((s.code.length+3:Nat):Int):=by omega
    have e7:((r.loops:Nat):Int) - 1=((r.loops - 1:Nat):Int):=by omega
    refine Ch Tryz.func102 rfl (Nat.le_of_ble_eq_true rfl) fun F=> ?_
    repeat' (first|apply B4|refine B3 0 BY Af ?_|refine B3 1 BY Ap ?_|refine CE 2 BY Ao Ab ?_|refine B3 3 BY Ah ?_|refine B3 5 BY Al ?_|refine Ck ?_|refine B0 ?_|apply B5|refine B8 ?_|refine Cg ?_|apply Cc)
    rw [e1]
    repeat' (first|refine Cq rfl rfl rfl (Dm (b:=2) rfl rfl rfl Ae) ?_|apply B4|refine B3 0 BY Af ?_|refine B3 1 BY Ap ?_|refine B3 3 BY Ah ?_|refine B3 4 BY Ag ?_|(refine gk 4 rfl ?_;(refine B9 rfl rfl rfl rfl rfl rfl rfl rfl (Hc p J bs s.at_ (s.loops+1) kb s.code.length kc J4 Ab Km hb) ?_;rintro _ _ ⟨rfl,rfl⟩;refine⟨_,_,rfl,rfl,?_⟩))|(refine gk 4 rfl ?_;(refine B9 rfl rfl rfl rfl rfl rfl rfl rfl (RO p (({s with loops:=s.loops+1}:Mk).nx) (s.at_+1) (s.loops+1) kb s.code.length kc HC _ _ _ [i64 0,i64 (1+((CK bs s.at_%2:Nat):Int)),i64 3,i64 (5+(s.loops:Int))] [(0,(1+((CK bs s.at_%2:Nat):Int))),(3,(5+(s.loops:Int)))] (s.code.length+2) rfl rfl As Be rfl rfl FK Ab) ?_;rintro _ _ ⟨HC1,EK,EJ,rfl,rfl,EH⟩;refine⟨_,_,rfl,rfl,?_⟩))|refine B3 5 BY Al ?_|refine Cm (fun b=> ?_)|refine B0 ?_|apply B5)
    rw [<-JZ] at EH
    repeat' (first|apply B4|refine B3 0 BY Af ?_|refine B3 1 BY Aw ?_|refine B3 3 BY Ah ?_|refine B3 4 BY Ag ?_|(refine gk 4 rfl ?_;(refine B9 rfl rfl rfl rfl rfl rfl rfl rfl (RO p s1 (s.at_+1) (s.loops+1) EK (s.code.length+2) EJ HC1 _ _ _ [i64 2,i64 (5+(s.loops:Int)),i64 7,i64 0] [(2,(5+(s.loops:Int))),(7,0)] (s.code.length+4) Ad Ad Ad Be rfl rfl EH Ab) ?_;rintro _ _ ⟨HC2,IT,IS,rfl,rfl,GC⟩;refine⟨_,_,rfl,rfl,?_⟩))|refine B3 5 BY Al ?_|refine B0 ?_|apply B5)
    rw [<-OV] at GC
    have LD:SL.T Tryz.prog 59 [pM p,i64 (d - 1)] [mC p (s.at_+1) (s.loops+1) IT (s.code.length+4) IS,HC2,HL,J] (MQ p J r):=by
      have:=hc HC2 IT IS HL (by rw [hs2l];exact GC) (by rw [hs2k];exact G9);have e6:mB p s2 IT IS=mC p (s.at_+1) (s.loops+1) IT (s.code.length+4) IS:=by
        show mC p s2.at_ s2.loops IT s2.code.length IS=_;rw [hs2a,hs2o,hs2l]
      rwa [e6] at this
    repeat' (first|apply B4|refine B3 0 BY Am ?_|(refine gk 4 rfl ?_;(refine B9 rfl rfl rfl rfl rfl rfl rfl rfl (LD) ?_;rintro _ _ ⟨HC3,kb3,kc3,HL2,rfl,rfl,RX,osL2⟩;refine⟨_,_,rfl,rfl,?_⟩))|(refine gk 4 rfl ?_;(refine B9 rfl rfl rfl rfl rfl rfl rfl rfl (RO p r r.at_ r.loops kb3 r.code.length kc3 HC3 _ _ _ [i64 2,i64 (5+(s.loops:Int)),i64 0,i64 1,i64 5,i64 0,i64 3,i64 (5+(s.loops:Int)),i64 6,i64 ((s.code.length+2:Nat):Int)] [(2,(5+(s.loops:Int))),(0,1),(5,0),(3,(5+(s.loops:Int))),(6,((s.code.length+2:Nat):Int))] (r.code.length+5) rfl rfl As Be rfl rfl RX Ab) ?_;rintro _ _ ⟨HC4,kb4,kc4,rfl,rfl,os4⟩;refine⟨_,_,rfl,rfl,?_⟩))|refine Cm (fun b=> ?_)|refine B0 ?_|apply B5)
    rw [e4];haveI slC4:=os4.sl;have hll:(r.put [(2,(5+(s.loops:Int))),(0,1),(5,0),(3,(5+(s.loops:Int))),(6,((s.code.length+2:Nat):Int))]).code.length=r.code.length+5:=by rw [Dw];rfl
    have hll2:((r.put [(2,(5+(s.loops:Int))),(0,1),(5,0),(3,(5+(s.loops:Int))),(6,((s.code.length+2:Nat):Int))]).to (s.code.length+3) ((r.code.length+5:Nat):Int)).code.length=r.code.length+5:=by simp only [Mk.to,FJ];exact hll
    have hll3:(((r.put [(2,(5+(s.loops:Int))),(0,1),(5,0),(3,(5+(s.loops:Int))),(6,((s.code.length+2:Nat):Int))]).to (s.code.length+3) ((r.code.length+5:Nat):Int)).put [(0,0),(3,(5+(s.loops:Int)))]).code.length=r.code.length+7:=by rw [Dw,hll2];rfl
    have hkk:((s.code.length+3:Nat):Int).toNat*3<(Cp (r.put [(2,(5+(s.loops:Int))),(0,1),(5,0),(3,(5+(s.loops:Int))),(6,((s.code.length+2:Nat):Int))]).code).length:=by rw [CW,hll];simp;omega
    have hkk1:((s.code.length+3:Nat):Int).toNat*3+1<(Cp (r.put [(2,(5+(s.loops:Int))),(0,1),(5,0),(3,(5+(s.loops:Int))),(6,((s.code.length+2:Nat):Int))]).code).length:=by rw [CW,hll];simp;omega
    refine Cu [.q [0,1,2,3,4,5,6,7,8,9,10,11],.h true 12] [mC p r.at_ r.loops kb4 (r.code.length+5) kc4] Ac Ac Ac Ac ?_
    repeat' (first|apply B4|refine B3 0 BY Am ?_|refine B3 1 BY Aw ?_|refine B3 3 BY Bz ?_|refine B3 4 BY Ag ?_|(refine gk 4 rfl ?_;(refine B9 rfl rfl rfl rfl rfl rfl rfl rfl (RO p ((r.put [(2,(5+(s.loops:Int))),(0,1),(5,0),(3,(5+(s.loops:Int))),(6,((s.code.length+2:Nat):Int))]).to (s.code.length+3) ((r.code.length+5:Nat):Int)) r.at_ r.loops kb4 (r.code.length+5) kc4 UA _ _ _ [i64 0,i64 0,i64 3,i64 (5+(s.loops:Int))] [(0,0),(3,(5+(s.loops:Int)))] (r.code.length+7) rfl rfl Ad Be rfl rfl XV Ab) ?_;rintro _ _ ⟨HC5,kb5,kc5,rfl,rfl,os5⟩;refine⟨_,_,rfl,rfl,?_⟩))|refine B3 5 BY Al ?_|refine Cm (fun b=> ?_)|refine Ck ?_|refine B0 ?_|refine Cz ?_|refine CQ rfl ?_|refine D3 rfl rfl rfl rfl rfl rfl os4 rfl rfl rfl (Nat.succ_pos _) (by exact hkk1) (MD ((r.code.length+5:Nat):Int) (by rw [hll];omega)) (fun UA XV=> ?_)|apply B5)
    rw [e7];refine GB [mC p r.at_ (r.loops - 1) kb5 (r.code.length+7) kc5,HC5,HL2,J] CU ⟨HC5,kb5,kc5,HL2,?_,rfl,?_,osL2⟩
    · rw [<-hll3];rfl
    · show OS HC5 kb5 (((r.put [(2,(5+(s.loops:Int))),(0,1),(5,0),(3,(5+(s.loops:Int))),(6,((s.code.length+2:Nat):Int))]).to (s.code.length+3) ((r.code.length+5:Nat):Int)).put [(0,0),(3,(5+(s.loops:Int)))]).code.length kc5 24 3 _;rw [hll3];exact os5
end Go.Proofs.YtcnmnmjmpocepaaGreatDoor
end
