
import Derived.Test.YtcnmnmjmpocepaaGreatDoorV00
import Derived.Test.YtcnmnmjmpocepaaGreatDoorV09
import Derived.Test.YtcnmnmjmpocepaaGreatDoorV22
set_option linter.unusedVariables false
set_option linter.unusedSimpArgs false
set_option linter.unusedSectionVars false
set_option maxRecDepth 100000
set_option maxHeartbeats 16000000
section
namespace Go.Proofs.YtcnmnmjmpocepaaGreatDoor.Nd
open Go.SL
attribute [local irreducible] SL.T Dw DG DE DI Et D0
theorem TL(x:Ins)(k:Nat):(IF x k).Pairwise (· < ·):=KX _
theorem Zy{k:Nat}{x:Ins}{z:Int}:z∈J3 k x↔(jmp x.1/\z=x.2.1)∨((jmp x.1∨x.1=20)/\z=(k:Int)+1):=by
  unfold J3;rw [List.mem_append];constructor
  · rintro(h|h)
    · split at h
      · rename_i hj;exact .inl ⟨hj,by simpa using h⟩
      · cases h
    · split at h
      · rename_i hj;exact .inr ⟨hj,by simpa using h⟩
      · cases h
  · rintro(⟨h1,h2⟩|⟨h1,h2⟩)
    · left;rw [if_pos h1,h2];exact List.mem_singleton.2 rfl
    · right;rw [if_pos h1,h2];exact List.mem_singleton.2 rfl
structure ST where
  i:Nat
  is:Bool
theorem Uk(J:CA)(p:Value)(lo st:Int)(cb:Option Addr)(cl cc:Nat)(cs:List Ins)(at_:Int) [Sl J cb (CZ cs)](hl:cs.length=cl)(DO:cl≤4000000):
    Dw Tryz.prog 163 [MR p lo st cb cl cc,i64 at_] [J] (.bool (decide (at_∈leads cs))):=by
  by_cases FD:0≤at_/\at_<cl
  · have e0:decide (at_∈leads cs)=decide (at_∈G8 cs cl):=decide_eq_decide.2 (by rw [Sc,hl];exact⟨fun h=>h.2,fun h=>⟨FD,h⟩⟩);rw [e0];have Wt:∀b:Bool,b=decide (at_=0)->b=decide (at_∈G8 cs 0):=fun b hb=>by rw [hb];simp [G8]
    refine CL Tryz.func163 rfl (Nat.le_of_ble_eq_true rfl) fun F=> ?_
    obtain⟨b0,qa⟩:∃b:Bool,b=decide (at_=0):=⟨_,rfl⟩
    repeat' (first|refine CW rfl rfl rfl ((Ic rfl rfl rfl).to (congrArg Value.bool qa.symm)) ?_|apply Cv|refine Ct 0 Cr Az ?_|refine CY 2 Cr Ar Ab ?_|refine Ct 3 Cr Af ?_|refine Ct 4 Cr Ae ?_|refine C2 (fun β=> ?_)|refine Cu ?_|apply Cw|refine Cy ?_|refine CF ?_|refine CC ?_|apply CB)
    obtain⟨Ei,rfl⟩:∃x,x=β:=⟨_,rfl⟩;refine C4 (fun s:ST=> [(1,i64 at_),(2,.pointer (some ⟨Ei,0,none⟩)),(5,.bool s.is),(6,i64 (s.i:Int))])
      (fun _=> [J,F7 Ei p lo st cb cl cc]) (fun s=>s.i≤cl/\s.is=decide (at_∈G8 cs s.i)) (fun s=>cl - s.i) ⟨0,b0⟩ (by repeat first|exact Sub.nil _|refine Sub.cons rfl ?_) ⟨Nat.zero_le _,Wt _ qa⟩ ?_
    rintro⟨i,is⟩ ⟨NQ,his⟩;dsimp only at NQ his ⊢
    by_cases hi:i<cl
    · obtain⟨⟨op,a,b⟩,hx⟩:∃x,cs[i]?=some x:=⟨_,List.getElem?_eq_getElem Ab⟩;obtain⟨c0,c1,c2⟩:=D9 hx;have c0:(CZ cs)[((i:Nat):Int).toNat*3]?=some (i64 op):=c0;have c1:(CZ cs)[((i:Nat):Int).toNat*3+1]?=some (i64 a):=c1;have c2:(CZ cs)[((i:Nat):Int).toNat*3+2]?=some (i64 b):=c2;have hfl:=Dc cs;have hq:((i:Nat):Int).toNat*3<(CZ cs).length:=by simp;omega
      have hiff:at_∈G8 cs (i+1)↔at_∈G8 cs i∨((op=6∨op=7∨op=8)/\at_=a)∨(((op=6∨op=7∨op=8)∨op=20)/\at_=(i:Int)+1):=by
        rw [Qk hx,List.mem_append,Zy];simp [jmp]
      cases is with
      | true=>
        have hP:=of_decide_eq_true his.symm
        repeat' (first|apply Cv|refine Ct 0 Cr Ay ?_|refine CG 0 Cs ?_|refine Ct 1 Cr Ao ?_|refine CG 1 Cs ?_|refine CG 2 Cs ?_|refine CO 2 Cr AP Ab ?_|refine G5 2 Cr Al (fun h=> ?_) (fun h=> ?_)|refine Ct 3 Cr Bi ?_|refine CG 3 Cs ?_|refine Ct 4 Cr Ae ?_|refine CT (fun β=> ?_)|refine CN ?_|refine Cu ?_|apply Cw|refine Cy ?_|refine CH ?_|refine CC ?_|apply CB)
        all_goals exact⟨rfl,⟨i+1,true⟩,CX (by repeat first|exact Sub.nil _|refine Sub.cons rfl ?_),⟨hi,(decide_eq_true (hiff.2 (.inl hP))).symm⟩,by dsimp only;omega⟩
      | false=>
        have hP:=of_decide_eq_false his.symm;have hd:decide (at_∈G8 cs (i+1))=decide (((op=6∨op=7∨op=8)/\at_=a)∨(((op=6∨op=7∨op=8)∨op=20)/\at_=(i:Int)+1)):=
          decide_eq_decide.2 (by rw [hiff];exact⟨fun h=>h.resolve_left hP,.inr⟩)
        repeat' (first|apply Cv|refine Ct 0 Cr Ay ?_|refine CG 0 Cs ?_|refine Ct 1 Cr Ao ?_|refine CG 1 Cs ?_|refine CG 2 Cs ?_|refine CO 2 Cr AP Ab ?_|refine G5 2 Cr Al (fun h=> ?_) (fun h=> ?_)|refine Ct 3 Cr Bi ?_|refine CG 3 Cs ?_|refine Ct 4 Cr Ae ?_|refine CT (fun β=> ?_)|refine CN ?_|refine Cu ?_|apply Cw|refine Cy ?_|refine CH ?_|refine CC ?_|apply CB)
        all_goals
          refine⟨rfl,⟨i+1,_⟩,CX (by repeat first|exact Sub.nil _|refine Sub.cons rfl ?_),⟨hi,?_⟩,by dsimp only;omega⟩;dsimp only;rw [hd]
          symm
          first|exact decide_eq_true Ab|exact decide_eq_false Ab
    · obtain rfl:i=cl:=by omega
      repeat' (first|apply Cv|refine Ct 0 Cr Ag ?_|refine CY 2 Cr Aj Ab ?_|refine Ct 3 Cr Af ?_|refine Ct 4 Cr Ae ?_|refine Cu ?_|apply Cw|refine Cy ?_|refine CF ?_|apply Cz|refine C1 ?_)
      exact CJ [J] (CD (Cx rfl)) ⟨by rw [his],rfl⟩
  · have e:decide (at_∈leads cs)=false:=decide_eq_false fun h=>FD (by rw [<-hl];exact(Sc.1 h).1)
    rw [e];refine CL Tryz.func163 rfl (Nat.le_of_ble_eq_true rfl) fun F=> ?_
    repeat' (first|apply Cv|refine Ct 0 Cr Ay ?_|refine CG 0 Cs ?_|refine CG 2 Cs ?_|refine CO 2 Cr Ar Ab ?_|refine G5 2 Cr Aj (fun h=> ?_) (fun h=> ?_)|refine Ct 3 Cr Af ?_|refine CG 3 Cs ?_|refine CG 4 Cs ?_|refine Ct 4 Cr Ae ?_|refine C2 (fun β=> ?_)|refine Cu ?_|apply Cw|refine Cy ?_|refine CH ?_|apply Cz|refine CQ ?_)
    all_goals first|(exfalso;omega)|exact CJ [J] (CD (Cx rfl)) ⟨rfl,rfl⟩
end Go.Proofs.YtcnmnmjmpocepaaGreatDoor.Nd
end
section
namespace Go.Proofs.YtcnmnmjmpocepaaGreatDoor.Nd
open Go.SL
attribute [local irreducible] SL.T Dw DG DE DI Et D0
theorem fG{S:List Int}{a v:Int}(hs:S.Pairwise (· < ·))(h:∀z∈S,z=a∨z=v):S=(if min a v∈S then [min a v] else [])++(if a≠v/\max a v∈S then [max a v] else []):=by
  refine JG hs ?_ fun x=> ?_
  · split <;>split
    · rename_i h1 h2
      simp only [List.cons_append,List.nil_append,List.pairwise_cons,List.mem_singleton];refine⟨fun y hy=> ?_,?_⟩
      · subst hy;omega
      · simp
    all_goals simp
  · rw [List.mem_append];constructor
    · intro hx;rcases h x hx with e|e
      · subst e;by_cases hle:x≤v
        · left;have:min x v=x:=by omega
          rw [this,if_pos hx];exact List.mem_singleton.2 rfl
        · right;have:max x v=x:=by omega
          rw [this,if_pos ⟨by omega,hx⟩];exact List.mem_singleton.2 rfl
      · subst e;by_cases hle:x≤a
        · left;have:min a x=x:=by omega
          rw [this,if_pos hx];exact List.mem_singleton.2 rfl
        · right;have:max a x=x:=by omega
          rw [this,if_pos ⟨by omega,hx⟩];exact List.mem_singleton.2 rfl
    · rintro(hx|hx)
      · split at hx
        · rename_i h1;rw [List.mem_singleton.1 hx];exact h1
        · cases hx
      · split at hx
        · rename_i h1;rw [List.mem_singleton.1 hx];exact h1.2
        · cases hx
theorem US(J:CA)(p:Value)(lo st:Int)(cb:Option Addr)(cl cc:Nat)(cs:List Ins)(at_:Int) [Sl J cb (CZ cs)](hl:cs.length=cl)(DO:cl≤4000000):
    SL.T Tryz.prog 68 [MR p lo st cb cl cc,i64 at_] [J] fun e o=>∃N,o=J::N/\∃h b c,e= .returned (.slice b (Gp cs at_).length c)/\N= [h]/\OS h b (Gp cs at_).length c 3 1 ((Gp cs at_).map i64):=by
  by_cases FD:0≤at_/\at_<cl
  · obtain⟨k,rfl⟩:=Int.eq_ofNat_of_zero_le FD.1;have hk:k<cl:=by omega
    obtain⟨⟨op,a,b⟩,hx⟩:∃x,cs[k]?=some x:=⟨_,List.getElem?_eq_getElem Ab⟩;obtain⟨c0,c1,c2⟩:=D9 hx;have c1:(CZ cs)[((k:Nat):Int).toNat*3+1]?=some (i64 a):=c1;have hfl:=Dc cs;have hq:((k:Nat):Int).toNat*3<(CZ cs).length:=by simp;omega
    have g1:=Q6 J p lo st cb cl cc cs (k:Int) (min a ((k:Int)+1)) hl DO;have g2:=Q6 J p lo st cb cl cc cs (k:Int) (max a ((k:Int)+1)) hl DO;have e:=fG (S:=Gp cs (k:Int)) (a:=a) (v:=(k:Int)+1) (by rw [Pn hx];exact TL _ _) (fun z hz=>by
      rw [Pn hx,Sb] at hz
      rcases hz with ⟨-,h⟩|⟨-,h⟩
      · exact .inl h
      · exact .inr h)
    generalize Gp cs (k:Int)=S at*
    by_cases hm:min a ((k:Int)+1)∈S
    · rw [decide_eq_true hm] at g1
      rw [if_pos hm] at e
      by_cases kR:a=(k:Int)+1
      · rw [if_neg (fun h=>h.1 kR),List.append_nil] at e
        rw [e];refine CM Tryz.func68 rfl (Nat.le_of_ble_eq_true rfl) fun F=> ?_
        refine DH ?_
        repeat' (first|apply Cv|refine Ct 0 Cr Az ?_|refine CG 0 Cs ?_|refine Ct 1 Cr Ao ?_|refine CY 2 Cr AY Ab ?_|refine Ct 3 Cr AM ?_|refine CG 3 Cs ?_|refine CG 4 Cs ?_|refine Ct 4 Cr BC ?_|refine Ct 4 Cr (CE rfl rfl rfl rfl rfl (g1)) ?_|(refine gk 4 rfl ?_;(refine Ef rfl rfl rfl rfl rfl rfl rfl rfl rfl OS.nil Ah rfl Ah rfl Ab Ab (fun h1 b1 c1 E2=> ?_)))|refine CP (fun b=> ?_)|refine C2 (fun β=> ?_)|refine Cu ?_|apply Cw|refine Cy ?_|refine CH ?_|refine CF ?_|apply Cz|apply CB)
        exact CJ [J,h1] (CD (Cx rfl)) ⟨[h1],rfl,h1,_,_,rfl,rfl,E2⟩
      · by_cases hM:max a ((k:Int)+1)∈S
        · rw [decide_eq_true hM] at g2
          rw [if_pos ⟨kR,hM⟩] at e
          rw [e];refine CM Tryz.func68 rfl (Nat.le_of_ble_eq_true rfl) fun F=> ?_
          refine DH ?_
          repeat' (first|apply Cv|refine Ct 0 Cr Ay ?_|refine Ct 1 Cr Ao ?_|refine CO 2 Cr AY Ab ?_|refine CY 2 Cr Ar Ab ?_|refine Ct 3 Cr AM ?_|refine Ct 4 Cr Bm ?_|refine Ct 4 Cr (CE rfl rfl rfl rfl rfl (g1)) ?_|refine Ct 4 Cr (CE rfl rfl rfl rfl rfl (g2)) ?_|(refine gk 4 rfl ?_;(refine Ef rfl rfl rfl rfl rfl rfl rfl rfl rfl OS.nil Ah rfl Ah rfl Ab Ab (fun h1 b1 c1 E2=> ?_)))|(refine gk 4 rfl ?_;(refine Ef rfl rfl rfl rfl rfl rfl rfl rfl rfl E2 Ah rfl Ah rfl Ab Ab (fun h3 b3 c3 O3=> ?_)))|refine CP (fun b=> ?_)|refine C2 (fun β=> ?_)|refine Cu ?_|apply Cw|refine Cy ?_|refine CH ?_|refine CF ?_|apply Cz|apply CB)
          exact CJ [J,h3] (CD (Cx rfl)) ⟨[h3],rfl,h3,_,_,rfl,rfl,O3⟩
        · rw [decide_eq_false hM] at g2
          rw [if_neg (fun h=>hM h.2),List.append_nil] at e
          rw [e];refine CM Tryz.func68 rfl (Nat.le_of_ble_eq_true rfl) fun F=> ?_
          refine DH ?_
          repeat' (first|apply Cv|refine Ct 0 Cr Ay ?_|refine Ct 1 Cr Ao ?_|refine CO 2 Cr AY Ab ?_|refine CY 2 Cr Ar Ab ?_|refine Ct 3 Cr AM ?_|refine Ct 4 Cr Bm ?_|refine Ct 4 Cr (CE rfl rfl rfl rfl rfl (g1)) ?_|refine Ct 4 Cr (CE rfl rfl rfl rfl rfl (g2)) ?_|(refine gk 4 rfl ?_;(refine Ef rfl rfl rfl rfl rfl rfl rfl rfl rfl OS.nil Ah rfl Ah rfl Ab Ab (fun h1 b1 c1 E2=> ?_)))|refine CP (fun b=> ?_)|refine C2 (fun β=> ?_)|refine Cu ?_|apply Cw|refine Cy ?_|refine CH ?_|refine CF ?_|apply Cz|apply CB)
          exact CJ [J,h1] (CD (Cx rfl)) ⟨[h1],rfl,h1,_,_,rfl,rfl,E2⟩
    · rw [decide_eq_false hm] at g1
      rw [if_neg hm,List.nil_append] at e
      by_cases kR:a=(k:Int)+1
      · rw [if_neg (fun h=>h.1 kR)] at e
        rw [e];refine CM Tryz.func68 rfl (Nat.le_of_ble_eq_true rfl) fun F=> ?_
        refine DH ?_
        repeat' (first|apply Cv|refine Ct 0 Cr Az ?_|refine CG 0 Cs ?_|refine Ct 1 Cr Ao ?_|refine CY 2 Cr AY Ab ?_|refine Ct 3 Cr AM ?_|refine CG 3 Cs ?_|refine CG 4 Cs ?_|refine Ct 4 Cr BC ?_|refine Ct 4 Cr (CE rfl rfl rfl rfl rfl (g1)) ?_|refine C2 (fun β=> ?_)|refine Cu ?_|apply Cw|refine Cy ?_|refine CF ?_|apply Cz|apply CB)
        exact CJ [J,emp] (CD (Cx rfl)) ⟨[emp],rfl,emp,_,_,rfl,rfl,OS.nil⟩
      · by_cases hM:max a ((k:Int)+1)∈S
        · rw [decide_eq_true hM] at g2
          rw [if_pos ⟨kR,hM⟩] at e
          rw [e];refine CM Tryz.func68 rfl (Nat.le_of_ble_eq_true rfl) fun F=> ?_
          refine DH ?_
          repeat' (first|apply Cv|refine Ct 0 Cr Ay ?_|refine Ct 1 Cr Ao ?_|refine CO 2 Cr AY Ab ?_|refine CY 2 Cr Ar Ab ?_|refine Ct 3 Cr AM ?_|refine Ct 4 Cr Bm ?_|refine Ct 4 Cr (CE rfl rfl rfl rfl rfl (g1)) ?_|refine Ct 4 Cr (CE rfl rfl rfl rfl rfl (g2)) ?_|(refine gk 4 rfl ?_;(refine Ef rfl rfl rfl rfl rfl rfl rfl rfl rfl OS.nil Ah rfl Ah rfl Ab Ab (fun h1 b1 c1 E2=> ?_)))|refine CP (fun b=> ?_)|refine C2 (fun β=> ?_)|refine Cu ?_|apply Cw|refine Cy ?_|refine CH ?_|refine CF ?_|apply Cz|apply CB)
          exact CJ [J,h1] (CD (Cx rfl)) ⟨[h1],rfl,h1,_,_,rfl,rfl,E2⟩
        · rw [decide_eq_false hM] at g2
          rw [if_neg (fun h=>hM h.2)] at e
          rw [e];refine CM Tryz.func68 rfl (Nat.le_of_ble_eq_true rfl) fun F=> ?_
          refine DH ?_
          repeat' (first|apply Cv|refine Ct 0 Cr Ay ?_|refine Ct 1 Cr Ao ?_|refine CO 2 Cr AY Ab ?_|refine CY 2 Cr Ar Ab ?_|refine Ct 3 Cr AM ?_|refine Ct 4 Cr Bm ?_|refine Ct 4 Cr (CE rfl rfl rfl rfl rfl (g1)) ?_|refine Ct 4 Cr (CE rfl rfl rfl rfl rfl (g2)) ?_|refine C2 (fun β=> ?_)|refine Cu ?_|apply Cw|refine Cy ?_|refine CF ?_|apply Cz|apply CB)
          exact CJ [J,emp] (CD (Cx rfl)) ⟨[emp],rfl,emp,_,_,rfl,rfl,OS.nil⟩
  · rw [Xa (by rw [hl];exact FD)];refine CM Tryz.func68 rfl (Nat.le_of_ble_eq_true rfl) fun F=> ?_
    refine DH ?_
    repeat' (first|apply Cv|refine Ct 0 Cr Ay ?_|refine CG 0 Cs ?_|refine CG 2 Cs ?_|refine CO 2 Cr Ar Ab ?_|refine G5 2 Cr Aj (fun h=> ?_) (fun h=> ?_)|refine Ct 3 Cr Af ?_|refine CG 3 Cs ?_|refine CG 4 Cs ?_|refine Ct 4 Cr Ae ?_|refine C2 (fun β=> ?_)|refine Cu ?_|apply Cw|refine Cy ?_|refine CH ?_|apply Cz|refine CQ ?_)
    all_goals first|(exfalso;omega)|exact CJ [J,emp] (CD (Cx rfl)) ⟨[emp],rfl,emp,_,_,rfl,rfl,OS.nil⟩
theorem Tx(own:List CA)(p:Value)(lo st:Int)(cb:Option Addr)(cl cc:Nat)(cs:List Ins)(at_:Int) [s:Ds own cb (CZ cs)](hl:cs.length=cl)(DO:cl≤4000000):
    SL.T Tryz.prog 68 [MR p lo st cb cl cc,i64 at_] own fun e o=>∃N,o=own++N/\∃h b c,e= .returned (.slice b (Gp cs at_).length c)/\N= [h]/\OS h b (Gp cs at_).length c 3 1 ((Gp cs at_).map i64):=
  KH fun J hJ=>by
    haveI:=s.all hJ;exact US J p lo st cb cl cc cs at_ hl DO
def bad(cs:List Ins)(k:Nat):Bool:=(Gp cs (k:Int)).any fun t=> !NO cs.length t
def off(cs:List Ins):Int:=match(List.range cs.length).find? (bad cs) with
  |some k=>(k:Int)
  |none=>if cs.length=0 then 0 else -1
theorem bU{cs:List Ins}{k:Nat}(hk:k<cs.length)(h1:∀j<k,bad cs j=false)(h2:bad cs k=true):off cs=k:=by
  have:(List.range cs.length).find? (bad cs)=some k:=by
    rw [List.find?_range_eq_some];exact⟨h2,by simpa using hk,fun j hj=>by simpa using h1 j hj⟩
  rw [off,this]
theorem U5{cs:List Ins}(h1:∀j<cs.length,bad cs j=false):off cs=if cs.length=0 then 0 else -1:=by
  have:(List.range cs.length).find? (bad cs)=none:=by
    rw [List.find?_range_eq_none];exact fun j hj=>by simpa using h1 j hj
  rw [off,this]
end Go.Proofs.YtcnmnmjmpocepaaGreatDoor.Nd
end
section
namespace Go.Proofs.YtcnmnmjmpocepaaGreatDoor.Nd
open Go.SL
attribute [local irreducible] SL.T Dw DG DE DI Et D0
def Mq(cs:List Ins)(k:Nat):List (Nat×Int):=(List.range k).flatMap fun(j:Nat)=>(Gp cs (j:Int)).map fun(t:Int)=>((j,t):Nat×Int)
theorem P0(cs:List Ins)(k:Nat):Mq cs (k+1)=Mq cs k++(Gp cs (k:Int)).map (fun(t:Int)=>((k,t):Nat×Int)):=by simp [Mq,List.range_succ]
theorem Yg{cs:List Ins}:∀ {n k:Nat},k<n->∀ {i:Nat} {t:Int},(Gp cs (k:Int))[i]?=some t->(Mq cs n)[(Mq cs k).length+i]?=some (k,t)
  | n+1,k,hk,i,t,ht=>by
    rw [P0];by_cases e:k=n
    · subst e;rw [List.getElem?_append_right Ab,show(Mq cs k).length+i - (Mq cs k).length=i by omega];simp [ht]
    · have ih:=Yg (n:=n) (k:=k) Ab ht;rw [List.getElem?_append_left (List.getElem?_eq_some_iff.1 ih).1];exact ih
theorem Yh{cs:List Ins}{k:Nat}{q:Nat×Int}(h:q∈Mq cs k):q.1<k/\q.2∈Gp cs (q.1:Int):=by
  unfold Mq at h
  rw [List.mem_flatMap] at h
  obtain⟨j,hj,h⟩:=h;obtain⟨t,ht,rfl⟩:=List.mem_map.1 h;exact⟨List.mem_range.1 hj,ht⟩
theorem Yf{cs:List Ins}{n k:Nat}{t:Int}(hk:k<n)(ht:t∈Gp cs (k:Int)):(k,t)∈Mq cs n:=by
  unfold Mq;rw [List.mem_flatMap];exact⟨k,List.mem_range.2 hk,List.mem_map.2 ⟨t,ht,rfl⟩⟩
theorem TA{cs:List Ins}:∀ {n k:Nat},k≤n->∀ {p:Nat},p<(Mq cs k).length->(Mq cs n)[p]?=(Mq cs k)[p]?
  | 0, k, hk, p, hp => by have:k=0:=by omega
                          subst this;rfl
  | n+1,k,hk,p,hp=>by
    by_cases e:k=n+1
    · subst e;rfl
    · have ih:=TA (n:=n) (k:=k) Ab hp;rw [P0,List.getElem?_append_left,ih];have:=(List.getElem?_eq_some_iff.1 (ih.trans (List.getElem?_eq_getElem hp))).1;exact this
theorem bT{cs:List Ins}{p a:Nat}{t:Int}(hp:(Mq cs cs.length)[p]?=some (a,t))(ES:∀q<p,∀z,(Mq cs cs.length)[q]?=some z->NO cs.length z.2=true)(ht:NO cs.length t=false):off cs=a:=by
  obtain⟨h1,h2⟩:=Yh (List.mem_of_getElem? hp);refine bU h1 (fun j hj=> ?_) ?_
  · rw [bad,List.any_eq_false];intro u hu;have hm:=Yf (n:=a) hj hu;obtain⟨q,hq⟩:=List.mem_iff_getElem?.1 hm;have hql:=(List.getElem?_eq_some_iff.1 hq).1;have hlp:(Mq cs a).length≤p:=by
      rcases Nat.lt_or_ge p (Mq cs a).length with h|h
      · have:=TA (cs:=cs) (Nat.le_of_lt h1) h;rw [hp] at this
        have:=(Yh (List.mem_of_getElem? this.symm)).1;simp at this
      · exact h
    have:=ES q Ab _ ((TA (Nat.le_of_lt h1) hql).trans hq);simp [this]
  · rw [bad,List.any_eq_true];exact⟨t,h2,by simp [ht]⟩
theorem fE{cs:List Ins}(ES:∀q<(Mq cs cs.length).length,∀z,(Mq cs cs.length)[q]?=some z->NO cs.length z.2=true):off cs=if cs.length=0 then 0 else -1:=by
  refine U5 fun j hj=> ?_
  rw [bad,List.any_eq_false];intro u hu;obtain⟨q,hq⟩:=List.mem_iff_getElem?.1 (Yf hj hu);have:=ES q (List.getElem?_eq_some_iff.1 hq).1 _ hq;simp [this]
abbrev ns(q:Nat×Int):List Value:= [i64 (q.1:Int),i64 q.2]
theorem ZW(ET:Nat)(J0:CA)(p:Value)(lo st:Int)(cb:Option Addr)(cl cc:Nat)(cs:List Ins) [Sl J0 cb (CZ cs)](hl:cs.length=cl)(DO:cl≤4000000):
    Iter Tryz.prog 161 [] [.pointer (some ⟨ET,0,none⟩)] [F7 ET p lo st cb cl cc,J0] ((Mq cs cl).map ns):=by
  intro L J Jx hy H h0;refine CM Tryz.func161 rfl (Nat.le_of_ble_eq_true rfl) fun F=> ?_
  repeat' (first|apply Cv|refine Ct 0 Cr Ap ?_|refine Ct 3 Cr Af ?_|refine Ct 4 Cr Ae ?_|refine Cu ?_|apply Cw|refine Cy ?_|refine CC ?_)
  refine C4 (fun s:(Nat×CA)=> [(0,.func (.yield L) #[] #[]),(1,.pointer (some ⟨ET,0,none⟩)),(8,i64 (cl:Int)),(9,i64 (s.1:Int))])
    (fun s=> [s.2,F7 ET p lo st cb cl cc,J0]) (fun s=>s.1≤cl/\J (Mq cs s.1).length s.2) (fun s=>cl - s.1) (0,H) (by repeat first|exact Sub.nil _|refine Sub.cons rfl ?_) ⟨Nat.zero_le _,h0⟩ ?_
  clear h0;rintro⟨k,H⟩ ⟨Sz,hJ⟩;dsimp only at Sz hJ ⊢
  by_cases hk:k<cl
  · have Wu:=H6 cs (k:Int)
    repeat' (first|apply Cv|refine Ct 0 Cr Ag ?_|refine CO 2 Cr Aj Ab ?_|refine Ct 3 Cr AA ?_|refine Ct 4 Cr Ae ?_|(refine gk 4 rfl ?_;(refine Gg rfl rfl rfl rfl rfl rfl rfl rfl (XZ _ p lo st cb cl cc cs (k:Int) hl DO) ?_;rintro _ _ ⟨hN,bN,cN,rfl,rfl,osN⟩;haveI slN:=osN.sl;refine⟨_,_,rfl,rfl,?_⟩))|refine Cu ?_|apply Cw|refine Cy ?_|refine CH ?_|refine CC ?_|apply CB)
    refine C4 (fun s:(Nat×CA)=> [(0,.func (.yield L) #[] #[]),(1,.pointer (some ⟨ET,0,none⟩)),(8,i64 (cl:Int)),(9,i64 (k:Int)),(3,i64 (k:Int)),(14,.slice bN (Gp cs (k:Int)).length cN),(15,i64 ((Gp cs (k:Int)).length:Int)),(16,i64 (s.1:Int))])
      (fun s=> [s.2,hN,F7 ET p lo st cb cl cc,J0]) (fun s=>s.1≤(Gp cs (k:Int)).length/\J ((Mq cs k).length+s.1) s.2) (fun s=>(Gp cs (k:Int)).length - s.1) (0,H) (by repeat first|exact Sub.nil _|refine Sub.cons rfl ?_) ⟨Nat.zero_le _,hJ⟩ ?_
    clear hJ;rintro⟨i,H⟩ ⟨NQ,hJ⟩;dsimp only at NQ hJ ⊢
    by_cases hi:i<(Gp cs (k:Int)).length
    · obtain⟨t,ht⟩:∃t,(Gp cs (k:Int))[i]?=some t:=⟨_,List.getElem?_eq_getElem hi⟩;have hct:((Gp cs (k:Int)).map i64)[((i:Nat):Int).toNat*1]?=some (i64 t):=by simp [ht]
      have hx:((Mq cs cl).map ns)[(Mq cs k).length+i]?=some (ns (k,t)):=by rw [List.getElem?_map,Yg hk ht];rfl
      have hyy:=hy _ _ H hx hJ
      repeat' (first|apply Cv|refine Ct 0 Cr Ag ?_|refine CO 2 Cr Aj Ab ?_|refine Ct 3 Cr AK ?_|refine Cu ?_|apply Cw|refine CH ?_|refine CC ?_|apply CB)
      refine Mn (hs:= [H]) rfl rfl rfl (Su rfl rfl rfl rfl hyy) ?_;rintro v own' ⟨H',rfl,⟨rfl,hJ'⟩|⟨rfl,hJ'⟩⟩ <;>refine⟨_,rfl,?_⟩
      · repeat' (first|refine Ct 0 Cr Br ?_|refine Ct 1 Cr Ao ?_|refine Cu ?_|apply Cw|refine Cy ?_|refine CF ?_|apply CB)
        exact⟨rfl,(i+1,H'),CX (by repeat first|exact Sub.nil _|refine Sub.cons rfl ?_),⟨hi,hJ'⟩,by dsimp only;omega⟩
      · repeat' (first|refine Ct 0 Cr BT ?_|apply Cw|refine Cy ?_|refine CH ?_|apply Cz|refine CQ ?_|refine C3 ?_)
        exact CJ [H',F7 ET p lo st cb cl cc,J0] Dt ⟨rfl,H',rfl,.inr hJ'⟩
    · have e:(Mq cs k).length+i=(Mq cs (k+1)).length:=by rw [P0,List.length_append,List.length_map];omega
      rw [e] at hJ
      repeat' (first|apply Cv|refine Ct 0 Cr Ap ?_|refine Ct 1 Cr Ao ?_|refine CY 2 Cr Aj Ab ?_|refine Cu ?_|apply Cw|refine Cy ?_|refine CF ?_|refine C1 ?_)
      exact⟨rfl,(k+1,H),CX (by repeat first|exact Sub.nil _|refine Sub.cons rfl ?_),⟨hk,hJ⟩,by dsimp only;omega⟩
  · obtain rfl:k=cl:=by omega
    repeat' (first|apply Cv|refine CY 2 Cr Aj Ab ?_|refine Cu ?_|apply Cw|refine CF ?_|refine C1 ?_|refine Gf ?_|refine Gh ?_)
    refine HR [H,F7 ET p lo st cb k cc,J0] Dt ⟨rfl,H,rfl,.inl ?_⟩;rw [List.length_map];exact hJ
theorem MD(p:Value)(lo st:Int)(cb:Option Addr)(cl cc:Nat):
    SL.T Tryz.prog 115 [MR p lo st cb cl cc] [] fun e o=>∃β,e= .returned (.func (.func 161) #[] #[.pointer (some ⟨β,0,none⟩)])/\o= [F7 β p lo st cb cl cc]:=by
  refine CM Tryz.func115 rfl (Nat.le_of_ble_eq_true rfl) fun F=> ?_
  repeat' (first|apply Cv|refine Ct 0 Cr Bs ?_|refine C2 (fun β=> ?_)|refine Cu ?_|apply Cw|refine Cy ?_|apply Cz)
  exact CJ [F7 β p lo st cb cl cc] (CD (Cx rfl)) ⟨β,rfl,rfl⟩
theorem Tb(J:CA)(p:Value)(lo st:Int)(cb:Option Addr)(cl cc:Nat)(cs:List Ins) [Sl J cb (CZ cs)](hl:cs.length=cl)(DO:cl≤4000000):
    Dw Tryz.prog 65 [MR p lo st cb cl cc] [J] (i64 (off cs)):=by
  refine CL Tryz.func65 rfl (Nat.le_of_ble_eq_true rfl) fun F=> ?_
  repeat' (first|apply Cv|refine Ct 3 Cr AA ?_|(refine gk 4 rfl ?_;(refine CK rfl rfl rfl rfl rfl rfl rfl rfl (MD p lo st cb cl cc) ?_;rintro _ _ ⟨βg,rfl,rfl⟩;refine⟨_,_,rfl,rfl,?_⟩))|refine C2 (fun β=> ?_)|refine CT (fun β=> ?_)|refine Cu ?_|apply Cw|refine Cy ?_|refine CC ?_)
  rename_i ET
  obtain⟨Ei,rfl⟩:∃x,x=β:=⟨_,rfl⟩;have OR:Mq cs cl=Mq cs cs.length:=by rw [hl]
  refine Y1 (hsI:= [F7 βg p lo st cb cl cc,J]) (xs:=(Mq cs cl).map ns)
    (fun k own1=>own1= [CV Ei (.cells ⟨[i64 0]⟩ 3 (0,0)),F7 ET p lo st cb cl cc]/\∀q<k,∀z,(Mq cs cl)[q]?=some z->NO cl z.2=true)
    (fun c own1=>c= .ret/\own1= [CV Ei (.cells ⟨[i64 (off cs)]⟩ 3 (0,0)),F7 ET p lo st cb cl cc]) rfl (ZW _ _ _ _ _ _ _ _ _ hl DO) rfl ?_ ?_ ?_ ?_ ?_
  · exact fun x hx=>by obtain⟨q, -,rfl⟩:=List.mem_map.1 hx;rfl
  · exact⟨rfl,fun q hq=>absurd hq (Nat.not_lt_zero _)⟩
  · rintro L k x own1 hx ⟨rfl,ES⟩ F1;rw [List.getElem?_map,Option.map_eq_some_iff] at hx
    obtain⟨⟨a,t⟩,hq,rfl⟩:=hx;refine⟨_,rfl,?_⟩
    repeat' (first|apply Cv|refine Ct 0 Cr Au ?_|refine Cu ?_|apply Cw|refine Cy ?_)
    intro F2;have hth:=KT p lo st cb cl cc t;have e:decide (0≤t/\t<cl)=NO cl t:=rfl;rw [e] at hth
    by_cases ht:NO cl t=true
    · rw [ht] at hth
      repeat' (first|apply Cv|refine Ct 0 Cr Br ?_|refine Ct 3 Cr AA ?_|refine Ct 4 Cr (CE rfl rfl rfl rfl rfl (hth)) ?_|refine Cu ?_|apply Cw|refine Cy ?_|refine CF ?_|refine CC ?_|apply CB|refine Ja ?_)
      refine Lx [CV Ei (.cells ⟨[i64 0]⟩ 3 (0,0)),F7 ET p lo st cb cl cc] ⟨rfl,fun q sY z hz=> ?_⟩;by_cases e:q=k
      · subst e;rw [hq] at hz;cases hz;exact ht
      · exact ES q Ab z hz
    · rw [Bool.not_eq_true] at ht
      rw [ht] at hth
      have ho:off cs=a:=by
        rw [OR] at hq ES
        rw [<-hl] at ES ht
        exact bT hq ES ht
      repeat' (first|apply Cv|refine Ct 0 Cr BO ?_|refine Ct 3 Cr AA ?_|refine Ct 4 Cr (CE rfl rfl rfl rfl rfl (hth)) ?_|refine CN ?_|refine Cu ?_|apply Cw|refine Cy ?_|refine CH ?_|refine CC ?_|apply Cz|refine C3 ?_)
      exact JV [CV Ei (.cells ⟨[i64 (a:Int)]⟩ 3 (0,0)),F7 ET p lo st cb cl cc] ⟨rfl,by rw [ho]⟩
  · rintro D own1 ⟨rfl,ES⟩;refine⟨_,rfl,?_⟩;rw [List.length_map] at ES
    have ho:off cs=if cs.length=0 then 0 else -1:=by
      rw [OR] at ES
      rw [<-hl] at ES
      exact fE ES
    by_cases h0:cl=0
    · rw [if_pos Ab] at ho
      rw [ho]
      repeat' (first|apply Cv|refine CO 2 Cr Al Ab ?_|refine Ct 3 Cr Af ?_|refine Ct 4 Cr Ae ?_|refine CN ?_|refine Cu ?_|apply Cw|refine Cy ?_|refine CH ?_|apply Cz|refine CQ ?_)
      exact CJ [J] (CD (Gn rfl rfl rfl)) ⟨rfl,rfl⟩
    · rw [if_neg Ab] at ho
      rw [ho]
      repeat' (first|apply Cv|refine CY 2 Cr Al Ab ?_|refine Ct 3 Cr Af ?_|refine Ct 4 Cr Ae ?_|refine CN ?_|refine Cu ?_|apply Cw|refine Cy ?_|refine CF ?_|apply Cz|apply CB)
      exact CJ [J] (CD (Gn rfl rfl rfl)) ⟨rfl,rfl⟩
  · rintro D c own1 ⟨rfl,rfl⟩;refine⟨_,rfl,?_⟩
    repeat' (first|apply Cz|refine CQ ?_|refine C3 ?_)
    exact CJ [J] (CD (Gn rfl rfl rfl)) ⟨rfl,rfl⟩
end Go.Proofs.YtcnmnmjmpocepaaGreatDoor.Nd
end
section
namespace Go.Proofs.YtcnmnmjmpocepaaGreatDoor.Nd
open Go.SL
attribute [local irreducible] SL.T Dw DG DE DI Et D0
def Li(op:Int):Prop:=op∈ [12,13,14,15,(16:Int)]
instance (op:Int):Decidable (Li op):=inferInstanceAs (Decidable (op∈ [12,13,14,15,(16:Int)]))
theorem Jf{op:Int}:Li op↔op=12∨op=13∨op=14∨op=15∨op=16:=by
  unfold Li;simp
theorem D2(op:Int):Dw Tryz.prog 141 [i64 op] [] (.bool (decide (Li op))):=by
  refine CL Tryz.func141 rfl (Nat.le_of_ble_eq_true rfl) fun F=> ?_
  repeat' (first|apply Cv|refine Ct 0 Cr Ag ?_|refine Ct 4 Cr (Eh rfl rfl rfl rfl rfl (FB _ _ _ _ [12,13,14,15,16] op rfl Ah)) ?_|refine CP (fun b=> ?_)|refine Cu ?_|apply Cw|refine Cy ?_|apply Cz)
  exact CJ [] (CD (Cx rfl)) ⟨rfl,rfl⟩
theorem D3(op:Int):Dw Tryz.prog 123 [i64 op] [] (.bool (decide (Li op))):=by
  refine CL Tryz.func123 rfl (Nat.le_of_ble_eq_true rfl) fun F=> ?_
  repeat' (first|apply Cv|refine Ct 0 Cr Ay ?_|refine CG 0 Cs ?_|refine CG 2 Cs ?_|refine G5 2 Cr Al (fun h=> ?_) (fun h=> ?_)|refine Cu ?_|apply Cw|refine Cy ?_|apply Cz)
  all_goals
    refine CJ [] (CD (Cx rfl)) ⟨?_,rfl⟩;refine congrArg _ (congrArg Value.bool ?_)
    first|exact(decide_eq_true (Jf.2 Ab)).symm|exact(decide_eq_false (fun h=>by have:=Jf.1 h;omega)).symm
theorem LL(own:List CA)(b:Option Addr)(n c:Nat)(xs:List Int)(v:Int) [Ds own b (xs.map i64)](h1:xs.length=n)(DO:n≤9223372036854775807):
    Dw Tryz.prog 124 [.slice b n c,i64 v] own (.bool (decide (v∈xs))):=by
  refine CL Tryz.func124 rfl (Nat.le_of_ble_eq_true rfl) fun F=> ?_
  repeat' (first|apply Cv|refine Ct 0 Cr Au ?_|refine Cu ?_|apply Cw|refine Cy ?_|refine CC ?_)
  refine C4 (fun j:Nat=> [(0,.slice b n c),(1,i64 v),(5,i64 (j:Int))])
    (fun _=>own) (fun j=>j≤n/\v∉xs.take j) (fun j=>n - j) 0 (by repeat first|exact Sub.nil _|refine Sub.cons rfl ?_) ⟨Nat.zero_le _,by simp⟩ ?_
  rintro j ⟨LV,FF⟩;by_cases hj:j<n
  · obtain⟨x,hx⟩:∃z,xs[j]?=some z:=⟨_,List.getElem?_eq_getElem Ab⟩;have hcx:(xs.map i64)[((j:Nat):Int).toNat*1]?=some (i64 x):=by simp [hx]
    by_cases Jb:x=v
    · subst Jb
      repeat' (first|apply Cv|refine Ct 0 Cr Ag ?_|refine CO 2 Cr AP Ab ?_|refine Ct 3 Cr AK ?_|refine Ct 4 Cr Ae ?_|refine Cu ?_|apply Cw|refine Cy ?_|refine CH ?_|refine CC ?_|apply Cz|apply CB|refine CQ ?_|refine C3 ?_)
      refine CS (CD (Cx rfl)) ?_;rw [decide_eq_true (List.mem_of_getElem? hx)]
    · repeat' (first|apply Cv|refine Ct 0 Cr Ag ?_|refine Ct 1 Cr Ao ?_|refine CO 2 Cr AP Ab ?_|refine CY 2 Cr Al Ab ?_|refine Ct 3 Cr AK ?_|refine Ct 4 Cr Ae ?_|refine Cu ?_|apply Cw|refine Cy ?_|refine CH ?_|refine CF ?_|refine CC ?_|apply CB)
      refine⟨rfl,j+1,CX (by repeat first|exact Sub.nil _|refine Sub.cons rfl ?_),⟨by omega,?_⟩,by omega⟩;rw [List.take_add_one,hx];simp [FF,Ne.symm Jb]
  · repeat' (first|apply Cv|refine Ct 0 Cr Ag ?_|refine CY 2 Cr Aj Ab ?_|refine Ct 4 Cr Ae ?_|refine Cu ?_|apply Cw|refine Cy ?_|refine CF ?_|apply Cz|refine C1 ?_)
    refine CS (CD (Cx rfl)) ?_;rw [List.take_of_length_le Ab] at FF
    rw [decide_eq_false FF]
end Go.Proofs.YtcnmnmjmpocepaaGreatDoor.Nd
end
section
namespace Go.Proofs.YtcnmnmjmpocepaaGreatDoor.Nd
open Go.SL
theorem Ds.je{own:List CA}{b:Option Addr}{n:Nat}{xs:List Int} [s:Ds own b (xs.map i64)](h1:xs.length=n)(hp:0<n):
    ∃bb off,b=some ⟨bb,off,none⟩/\∀X w,Sat (own++X) w->∀j,j<xs.length->w.cell? ⟨bb,off+j,none⟩=some (.int .i64 (xs.getD j 0)):=by
  have hz:(xs.map i64)[0]?=some (i64 (xs.getD 0 0)):=by
    rw [List.getElem?_map,List.getD_eq_getElem?_getD,List.getElem?_eq_getElem Ab];rfl
  obtain⟨h,hm,e⟩:=s.mem;obtain⟨⟨bb,off,sp⟩,arr,T,fz,h1,h2,h3,h4⟩:=e.cell 0 _ hz;subst h1;obtain rfl:sp=none:=h2;refine⟨bb,off,rfl,fun X w st j hj=> ?_⟩;have hzj:(xs.map i64)[j]?=some (i64 (xs.getD j 0)):=by
    rw [List.getElem?_map,List.getD_eq_getElem?_getD,List.getElem?_eq_getElem hj];rfl
  obtain⟨a,ha,hb,hc⟩:=s.cell st hzj;cases ha;exact hc
theorem Uh(own:List CA)(b:Option Addr)(n c:Nat)(xs:List Int)(v:Int) [Ds own b (xs.map i64)](h1:xs.length=n)(DO:n≤4000000)(hs:xs.Pairwise (· ≤ ·)):
    Dw Tryz.prog 177 [.slice b n c,i64 v] own (.tuple #[i64 (xs.countP (· <v):Nat),.bool (decide (v∈xs))]):=by
  intro w X s;rcases Nat.eq_zero_or_pos n with h0|hp
  · subst h0;obtain rfl:xs= []:=List.length_eq_zero_iff.1 h1;refine(Tryz.slices_BinarySearch_int_empty b c v w).mono ?_;rintro e w' ⟨h1,h2⟩;subst h2;exact⟨own,s,h1,rfl⟩
  · obtain⟨bb,off,rfl,hc⟩:=Ds.je (own:=own) (b:=b) h1 hp;have ht:xs.take n=xs:=List.take_of_length_le Ab;have:=Tryz.slices_BinarySearch_int bb off n c xs v w Ab Ab (hc X w s) (by rw [ht];exact hs);rw [ht] at this
    refine this.mono ?_;rintro e w' ⟨h1,q,rfl⟩;refine⟨own,s.heap rfl rfl rfl,?_,rfl⟩;rw [h1,List.contains_eq_mem]
theorem Hx(own:List CA)(b1 b2:Option Addr)(n m c d:Nat)(xs ys:List Int) [Ds own b1 (xs.map i64)] [Ds own b2 (ys.map i64)](h1:xs.length=n)(h2:ys.length=m)(Kp:n≤4000000)(MS:m≤4000000):
    Dw Tryz.prog 138 [.slice b1 n c,.slice b2 m d] own (.bool (decide (xs=ys))):=by
  intro w X s;by_cases lU:n=m
  · rcases Nat.eq_zero_or_pos n with h0|hp
    · subst h0;subst lU;obtain rfl:xs= []:=List.length_eq_zero_iff.1 h1;obtain rfl:ys= []:=List.length_eq_zero_iff.1 h2;refine(Tryz.slices_Equal_int_empty b1 b2 c 0 d w Ab).mono ?_;rintro e w' ⟨h1,h2⟩;subst h2;exact⟨own,s,h1,rfl⟩
    · obtain⟨bb,off,rfl,hc⟩:=Ds.je (own:=own) (b:=b1) h1 hp;obtain⟨sh,bV,rfl,L8⟩:=Ds.je (own:=own) (b:=b2) h2 Ab;have:=Tryz.slices_Equal_int bb off n c sh bV m d xs ys w Ab Ab Ab Ab (hc X w s) (L8 X w s);rw [List.take_of_length_le (show xs.length≤n by omega),List.take_of_length_le (show ys.length≤m by omega)] at this
      refine this.mono ?_;rintro e w' ⟨h1,q,rfl⟩;refine⟨own,s.heap rfl rfl rfl,?_,rfl⟩;rw [h1];by_cases e:xs=ys <;>simp [e]
  · refine(Tryz.slices_Equal_int_lens b1 b2 n c m d w lU).mono ?_;rintro e w' ⟨h3,h4⟩;subst h4;refine⟨own,s,?_,rfl⟩;rw [h3,decide_eq_false];rintro rfl;exact lU (h1.symm.trans h2)
end Go.Proofs.YtcnmnmjmpocepaaGreatDoor.Nd
end
section
namespace Go.Proofs.YtcnmnmjmpocepaaGreatDoor.Nd
open Go.SL
attribute [local irreducible] SL.T Dw DG DE DI Et D0
def KF(cs:List Ins)(z:Int):Option Int:=
  if 1≤z/\z<cs.length/\Li (cs.getD z.toNat (0,0,0)).1/\z∉leads cs/\(cs.getD (z - 1).toNat (0,0,0)).1=2 then some (cs.getD (z - 1).toNat (0,0,0)).2.1 else none
abbrev mF(o:Option Int):Value:= .tuple ⟨[i64 (o.getD 0),.bool o.isSome]⟩
theorem S8{cs:List Ins}{z:Int}(h:¬(1≤z/\z<cs.length)):KF cs z=none:=if_neg fun⟨a,b,_⟩=>h ⟨a,b⟩
theorem YO{cs:List Ins}{k:Nat}{op a b Uo a0 b0:Int}(h:cs[k+1]?=some (op,a,b))(h0:cs[k]?=some (Uo,a0,b0)):
    KF cs ((k+1:Nat):Int)=if Li op/\((k+1:Nat):Int)∉leads cs/\Uo=2 then some a0 else none:=by
  have hl:=(List.getElem?_eq_some_iff.1 h).1;unfold KF;have e1:(((k+1:Nat):Int)).toNat=k+1:=by omega
  have e2:(((k+1:Nat):Int) - 1).toNat=k:=by omega
  rw [e1,e2,List.getD_eq_getElem?_getD,List.getD_eq_getElem?_getD,h,h0];have p1:(1:Int)≤((k+1:Nat):Int):=by omega
  have p2:((k+1:Nat):Int)<cs.length:=by omega
  simp only [p1,p2,true_and,Option.getD_some]
theorem Vl(cs:List Ins):(leads cs).Pairwise (· ≤ ·):=(TP cs).imp fun h=>by omega
theorem Wj(own:List CA)(b:Option Addr)(n c:Nat)(xs:List Int)(v:Int) [Ds own b (xs.map i64)](h1:xs.length=n)(DO:n≤4000000)(hs:xs.Pairwise (· ≤ ·)){bb:Bool}(hb:decide (v∈xs)=bb):
    Dw Tryz.prog 177 [.slice b n c,i64 v] own (.tuple ⟨[i64 (xs.countP (· <v):Nat),.bool bb]⟩):=by
  rw [<-hb];exact Uh own b n c xs v h1 DO hs
theorem MM(J:CA)(p:Value)(lo st:Int)(cb:Option Addr)(cl cc:Nat)(cs:List Ins)(z:Int) [Sl J cb (CZ cs)](hl:cs.length=cl)(DO:cl≤1000000):
    Dw Tryz.prog 140 [MR p lo st cb cl cc,i64 z] [J] (mF (KF cs z)):=by
  by_cases hz:1≤z/\z<cl
  · obtain⟨k,rfl⟩:∃k:Nat,z=((k+1:Nat):Int):=⟨(z - 1).toNat,by omega⟩;obtain⟨⟨op,a,b⟩,hx⟩:∃x,cs[k+1]?=some x:=⟨_,List.getElem?_eq_getElem Ab⟩;obtain⟨⟨Uo,a0,b0⟩,O4⟩:∃x,cs[k]?=some x:=⟨_,List.getElem?_eq_getElem Ab⟩;rw [YO hx O4];obtain⟨c0,c1,c2⟩:=D9 hx;have c0:(CZ cs)[((k+1:Nat):Int).toNat*3]?=some (i64 op):=c0;obtain⟨d0,d1,d2⟩:=D9 O4;have ek:(((k+1:Nat):Int) - 1).toNat=k:=by omega
    have d0:(CZ cs)[(((k+1:Nat):Int) - 1).toNat*3]?=some (i64 Uo):=by rw [ek];exact d0
    have d1:(CZ cs)[(((k+1:Nat):Int) - 1).toNat*3+1]?=some (i64 a0):=by rw [ek];exact d1
    have hfl:=Dc cs;have hq:((k+1:Nat):Int).toNat*3<(CZ cs).length:=by rw [hfl];omega
    have hq0:(((k+1:Nat):Int) - 1).toNat*3<(CZ cs).length:=by rw [hfl];omega
    have hll:=Nn cs;have hle:=Vl cs;refine CL Tryz.func140 rfl (Nat.le_of_ble_eq_true rfl) fun F=> ?_
    by_cases h5:Li op
    · by_cases h2:Uo=2
      · by_cases hm:((k+1:Nat):Int)∈leads cs
        · have hb:=decide_eq_true hm
          repeat' (first|apply Cv|refine Ct 0 Cr BZ ?_|refine Ct 1 Cr AF ?_|refine CY 2 Cr AY Ab ?_|refine Ct 3 Cr AM ?_|refine Ct 4 Cr Ae ?_|refine CO 4 Cr (CE rfl rfl rfl rfl rfl (D2 _)) Ab ?_|(refine gk 4 rfl ?_;(refine Gg rfl rfl rfl rfl rfl rfl rfl rfl (Tc _ _ _ _ _ _ _ cs Ad Ab) ?_;rintro _ _ ⟨hL,bL,cL,rfl,rfl,IA⟩;haveI slL:=IA.sl;refine⟨_,_,rfl,rfl,?_⟩))|refine Ct 4 Cr (Eh rfl rfl rfl rfl rfl (Wj _ _ _ _ (leads cs) _ rfl Ab Ad hb)) ?_|refine C2 (fun β=> ?_)|refine Cu ?_|apply Cw|refine Cy ?_|refine CH ?_|refine CF ?_|apply Cz|apply CB|refine CQ ?_)
          exact CJ [J] (CU (Cx rfl) (Cx rfl)) ⟨by rw [if_neg fun h=>h.2.1 hm];rfl,rfl⟩
        · have hb:=decide_eq_false hm
          repeat' (first|apply Cv|refine Ct 0 Cr BZ ?_|refine Ct 1 Cr AF ?_|refine CY 2 Cr AY Ab ?_|refine Ct 3 Cr AM ?_|refine Ct 4 Cr Ae ?_|refine CO 4 Cr (CE rfl rfl rfl rfl rfl (D2 _)) Ab ?_|(refine gk 4 rfl ?_;(refine Gg rfl rfl rfl rfl rfl rfl rfl rfl (Tc _ _ _ _ _ _ _ cs Ad Ab) ?_;rintro _ _ ⟨hL,bL,cL,rfl,rfl,IA⟩;haveI slL:=IA.sl;refine⟨_,_,rfl,rfl,?_⟩))|refine Ct 4 Cr (Eh rfl rfl rfl rfl rfl (Wj _ _ _ _ (leads cs) _ rfl Ab Ad hb)) ?_|refine C2 (fun β=> ?_)|refine Cu ?_|apply Cw|refine Cy ?_|refine CF ?_|apply Cz|apply CB)
          exact CJ [J] (CU (Cx rfl) (Cx rfl)) ⟨by rw [if_pos ⟨h5,hm,h2⟩];rfl,rfl⟩
      · repeat' (first|apply Cv|refine Ct 0 Cr AO ?_|refine Ct 1 Cr AF ?_|refine CO 2 Cr AY Ab ?_|refine CY 2 Cr Ar Ab ?_|refine Ct 3 Cr AL ?_|refine Ct 4 Cr Ae ?_|refine CO 4 Cr (CE rfl rfl rfl rfl rfl (D2 _)) Ab ?_|refine C2 (fun β=> ?_)|refine Cu ?_|apply Cw|refine Cy ?_|refine CH ?_|apply Cz|refine CQ ?_)
        exact CJ [J] (CU (Cx rfl) (Cx rfl)) ⟨by rw [if_neg fun h=>h2 h.2.2];rfl,rfl⟩
    · repeat' (first|apply Cv|refine Ct 0 Cr Bp ?_|refine CG 0 Cs ?_|refine CG 1 Cs ?_|refine CG 2 Cs ?_|refine CY 2 Cr Ar Ab ?_|refine Ct 3 Cr AL ?_|refine CG 3 Cs ?_|refine Ct 4 Cr Ae ?_|refine CY 4 Cr (CE rfl rfl rfl rfl rfl (D2 _)) Ab ?_|refine C2 (fun β=> ?_)|refine Cu ?_|apply Cw|refine Cy ?_|refine CH ?_|apply Cz|refine CQ ?_)
      exact CJ [J] (CU (Cx rfl) (Cx rfl)) ⟨by rw [if_neg fun h=>h5 h.1];rfl,rfl⟩
  · rw [S8 (by rw [hl];exact hz)];refine CL Tryz.func140 rfl (Nat.le_of_ble_eq_true rfl) fun F=> ?_
    repeat' (first|apply Cv|refine Ct 0 Cr Ay ?_|refine CG 0 Cs ?_|refine CG 1 Cs ?_|refine CG 2 Cs ?_|refine CO 2 Cr Ar Ab ?_|refine G5 2 Cr Aj (fun h=> ?_) (fun h=> ?_)|refine Ct 3 Cr Af ?_|refine CG 3 Cs ?_|refine CG 4 Cs ?_|refine Ct 4 Cr Ae ?_|refine C2 (fun β=> ?_)|refine Cu ?_|apply Cw|refine Cy ?_|refine CH ?_|apply Cz|refine CQ ?_)
    all_goals first|(exfalso;omega)|exact CJ [J] (CU (Cx rfl) (Cx rfl)) ⟨rfl,rfl⟩
end Go.Proofs.YtcnmnmjmpocepaaGreatDoor.Nd
end
section
namespace Go.Proofs.YtcnmnmjmpocepaaGreatDoor.Nd
open Go.SL
attribute [local irreducible] SL.T Dw DG DE DI Et D0
theorem Q4(own:List CA)(p:Value)(lo st:Int)(cb:Option Addr)(cl cc:Nat)(cs:List Ins)(at_:Int){b:Bool}(hb:decide (at_∈leads cs)=b) [s:Ds own cb (CZ cs)](hl:cs.length=cl)(DO:cl≤4000000):Dw Tryz.prog 163 [MR p lo st cb cl cc,i64 at_] own (.bool b):=
  JB fun J hJ=>by
    haveI:=s.all hJ;rw [<-hb];exact Uk J p lo st cb cl cc cs at_ hl DO
theorem KZ(J:CA)(p:Value)(lo st:Int)(cb:Option Addr)(cl cc:Nat)(cs:List Ins)(z:Int) [Sl J cb (CZ cs)](hl:cs.length=cl)(DO:cl≤1000000):
    Dw Tryz.prog 122 [MR p lo st cb cl cc,i64 z] [J] (mF (KF cs z)):=by
  by_cases hz:1≤z/\z<cl
  · obtain⟨k,rfl⟩:∃k:Nat,z=((k+1:Nat):Int):=⟨(z - 1).toNat,by omega⟩;obtain⟨⟨op,a,b⟩,hx⟩:∃x,cs[k+1]?=some x:=⟨_,List.getElem?_eq_getElem Ab⟩;obtain⟨⟨Uo,a0,b0⟩,O4⟩:∃x,cs[k]?=some x:=⟨_,List.getElem?_eq_getElem Ab⟩;rw [YO hx O4];obtain⟨c0,c1,c2⟩:=D9 hx;have c0:(CZ cs)[((k+1:Nat):Int).toNat*3]?=some (i64 op):=c0;obtain⟨d0,d1,d2⟩:=D9 O4;have ek:(((k+1:Nat):Int) - 1).toNat=k:=by omega
    have d0:(CZ cs)[(((k+1:Nat):Int) - 1).toNat*3]?=some (i64 Uo):=by rw [ek];exact d0
    have d1:(CZ cs)[(((k+1:Nat):Int) - 1).toNat*3+1]?=some (i64 a0):=by rw [ek];exact d1
    have hfl:=Dc cs;have hq:((k+1:Nat):Int).toNat*3<(CZ cs).length:=by rw [hfl];omega
    have hq0:(((k+1:Nat):Int) - 1).toNat*3<(CZ cs).length:=by rw [hfl];omega
    have hll:=Nn cs;have hle:=Vl cs;refine CL Tryz.func122 rfl (Nat.le_of_ble_eq_true rfl) fun F=> ?_
    by_cases h5:Li op
    · by_cases hm:((k+1:Nat):Int)∈leads cs
      · have hb:=decide_eq_true hm
        repeat' (first|apply Cv|refine Ct 0 Cr A9 ?_|refine CG 0 Cs ?_|refine CG 1 Cs ?_|refine CG 2 Cs ?_|refine CY 2 Cr Ar Ab ?_|refine Ct 3 Cr AM ?_|refine CG 3 Cs ?_|refine Ct 4 Cr Ae ?_|refine CO 4 Cr (CE rfl rfl rfl rfl rfl (D3 _)) Ab ?_|refine Ct 4 Cr (Eh rfl rfl rfl rfl rfl (Q4 _ _ _ _ _ _ _ cs _ hb Ad Ab)) ?_|refine C2 (fun β=> ?_)|refine Cu ?_|apply Cw|refine Cy ?_|refine CH ?_|apply Cz|refine CQ ?_)
        exact CJ [J] (CU (Cx rfl) (Cx rfl)) ⟨by rw [if_neg fun h=>h.2.1 hm];rfl,rfl⟩
      · have hb:=decide_eq_false hm;by_cases h2:Uo=2
        · repeat' (first|apply Cv|refine Ct 0 Cr AO ?_|refine Ct 1 Cr AF ?_|refine CY 2 Cr AY Ab ?_|refine Ct 3 Cr AM ?_|refine Ct 4 Cr Ae ?_|refine CO 4 Cr (CE rfl rfl rfl rfl rfl (D3 _)) Ab ?_|refine Ct 4 Cr (Eh rfl rfl rfl rfl rfl (Q4 _ _ _ _ _ _ _ cs _ hb Ad Ab)) ?_|refine C2 (fun β=> ?_)|refine Cu ?_|apply Cw|refine Cy ?_|refine CF ?_|apply Cz|apply CB)
          exact CJ [J] (CU (Cx rfl) (Cx rfl)) ⟨by rw [if_pos ⟨h5,hm,h2⟩];rfl,rfl⟩
        · repeat' (first|apply Cv|refine Ct 0 Cr AO ?_|refine Ct 1 Cr AF ?_|refine CO 2 Cr AY Ab ?_|refine CY 2 Cr Ar Ab ?_|refine Ct 3 Cr AM ?_|refine Ct 4 Cr Ae ?_|refine CO 4 Cr (CE rfl rfl rfl rfl rfl (D3 _)) Ab ?_|refine Ct 4 Cr (Eh rfl rfl rfl rfl rfl (Q4 _ _ _ _ _ _ _ cs _ hb Ad Ab)) ?_|refine C2 (fun β=> ?_)|refine Cu ?_|apply Cw|refine Cy ?_|refine CH ?_|apply Cz|refine CQ ?_)
          exact CJ [J] (CU (Cx rfl) (Cx rfl)) ⟨by rw [if_neg fun h=>h2 h.2.2];rfl,rfl⟩
    · repeat' (first|apply Cv|refine Ct 0 Cr Bp ?_|refine CG 0 Cs ?_|refine CG 1 Cs ?_|refine CG 2 Cs ?_|refine CY 2 Cr Ar Ab ?_|refine Ct 3 Cr AM ?_|refine CG 3 Cs ?_|refine CG 4 Cs ?_|refine Ct 4 Cr Ae ?_|refine CY 4 Cr (CE rfl rfl rfl rfl rfl (D3 _)) Ab ?_|refine C2 (fun β=> ?_)|refine Cu ?_|apply Cw|refine Cy ?_|refine CH ?_|apply Cz|refine CQ ?_)
      exact CJ [J] (CU (Cx rfl) (Cx rfl)) ⟨by rw [if_neg fun h=>h5 h.1];rfl,rfl⟩
  · rw [S8 (by rw [hl];exact hz)];refine CL Tryz.func122 rfl (Nat.le_of_ble_eq_true rfl) fun F=> ?_
    repeat' (first|apply Cv|refine Ct 0 Cr Ay ?_|refine CG 0 Cs ?_|refine CG 1 Cs ?_|refine CG 2 Cs ?_|refine CO 2 Cr Ar Ab ?_|refine G5 2 Cr Aj (fun h=> ?_) (fun h=> ?_)|refine Ct 3 Cr AE ?_|refine CG 3 Cs ?_|refine CG 4 Cs ?_|refine Ct 4 Cr Ae ?_|refine C2 (fun β=> ?_)|refine Cu ?_|apply Cw|refine Cy ?_|refine CH ?_|apply Cz|refine CQ ?_)
    all_goals first|(exfalso;omega)|exact CJ [J] (CU (Cx rfl) (Cx rfl)) ⟨rfl,rfl⟩
end Go.Proofs.YtcnmnmjmpocepaaGreatDoor.Nd
end
section
namespace Go.Proofs.YtcnmnmjmpocepaaGreatDoor.Nd
open Go.SL
attribute [local irreducible] SL.T Dw DG DE DI Et D0
theorem W0(J:CA)(p:Value)(lo st:Int)(cb:Option Addr)(cl cc:Nat)(cs:List Ins) [Sl J cb (CZ cs)](hl:cs.length=cl)(DO:cl≤4000000):
    Dw Tryz.prog 36 [MR p lo st cb cl cc] [J] (i64 (off cs)):=by
  refine CL Tryz.func36 rfl (Nat.le_of_ble_eq_true rfl) fun F=> ?_
  repeat' (first|apply Cv|refine Ct 0 Cr Au ?_|refine C2 (fun β=> ?_)|refine Cu ?_|apply Cw|refine Cy ?_|refine CC ?_)
  obtain⟨ET,rfl⟩:∃x,x=β:=⟨_,rfl⟩;refine C4 (fun k:Nat=> [(1,.pointer (some ⟨ET,0,none⟩)),(3,i64 (k:Int))])
    (fun _=> [J,F7 ET p lo st cb cl cc]) (fun k=>k≤cl/\∀j<k,bad cs j=false) (fun k=>cl - k) 0 (by repeat first|exact Sub.nil _|refine Sub.cons rfl ?_) ⟨Nat.zero_le _,fun j hj=>absurd hj (Nat.not_lt_zero _)⟩ ?_
  rintro k ⟨Sz,hB⟩;by_cases hk:k<cl
  · have Wu:=H6 cs (k:Int)
    repeat' (first|apply Cv|refine Ct 0 Cr Ag ?_|refine CO 2 Cr Aj Ab ?_|refine Ct 3 Cr AE ?_|refine Ct 4 Cr Ae ?_|(refine gk 4 rfl ?_;(refine Gg rfl rfl rfl rfl rfl rfl rfl rfl (Tx _ p lo st cb cl cc cs (k:Int) hl DO) ?_;rintro _ _ ⟨hN,bN,cN,rfl,rfl,osN⟩;haveI slN:=osN.sl;refine⟨_,_,rfl,rfl,?_⟩))|refine Cu ?_|apply Cw|refine Cy ?_|refine CH ?_|refine CC ?_|apply CB)
    refine C4 (fun i:Nat=> [(1,.pointer (some ⟨ET,0,none⟩)),(3,i64 (k:Int)),(4,.slice bN (Gp cs (k:Int)).length cN),(5,i64 (i:Int))])
      (fun _=> [hN,J,F7 ET p lo st cb cl cc]) (fun i=>i≤(Gp cs (k:Int)).length/\∀t∈(Gp cs (k:Int)).take i,NO cl t=true) (fun i=>(Gp cs (k:Int)).length - i) 0 (by repeat first|exact Sub.nil _|refine Sub.cons rfl ?_) ⟨Nat.zero_le _,by simp⟩ ?_
    rintro i ⟨NQ,hI⟩;by_cases hi:i<(Gp cs (k:Int)).length
    · obtain⟨t,ht⟩:∃t,(Gp cs (k:Int))[i]?=some t:=⟨_,List.getElem?_eq_getElem hi⟩;have hct:((Gp cs (k:Int)).map i64)[((i:Nat):Int).toNat*1]?=some (i64 t):=by simp [ht]
      by_cases htr:0≤t/\t<cl
      · repeat' (first|apply Cv|refine Ct 0 Cr Ap ?_|refine CO 2 Cr Aj Ab ?_|refine Ct 4 Cr Ae ?_|refine Cu ?_|apply Cw|refine Cy ?_|refine CH ?_|refine CC ?_|apply CB)
        refine De Ac Ac rfl ?_
        repeat' (first|refine Ct 0 Cr Az ?_|refine Ct 1 Cr Ao ?_|refine CY 2 Cr Ar Ab ?_|refine Ct 3 Cr A8 ?_|refine Ct 4 Cr Ae ?_|refine Cu ?_|apply Cw|refine Cy ?_|refine CF ?_|apply CB)
        refine⟨rfl,i+1,CX (by repeat first|exact Sub.nil _|refine Sub.cons rfl ?_),⟨hi,fun u hu=> ?_⟩,by omega⟩;rw [List.take_add_one,ht] at hu
        rcases List.mem_append.1 hu with hu|hu
        · exact hI u hu
        · simp at hu;subst hu;exact decide_eq_true htr
      · have hbad:bad cs k=true:=by
          rw [bad,List.any_eq_true];exact⟨t,List.mem_of_getElem? ht,by rw [hl];simp only [NO,decide_eq_false htr,Bool.not_false]⟩
        have ho:=bU Ab hB hbad;rw [ho]
        repeat' (first|apply Cv|refine Ct 0 Cr Ap ?_|refine CO 2 Cr Aj Ab ?_|refine Ct 4 Cr Ae ?_|refine Cu ?_|apply Cw|refine Cy ?_|refine CH ?_|refine CC ?_|apply CB)
        refine De Ac Ac rfl ?_
        repeat' (first|apply Cv|refine Ct 0 Cr Ay ?_|refine CG 0 Cs ?_|refine CG 2 Cs ?_|refine CO 2 Cr Ar Ab ?_|refine G5 2 Cr Aj (fun h=> ?_) (fun h=> ?_)|refine Ct 3 Cr A8 ?_|refine CG 3 Cs ?_|refine CG 4 Cs ?_|refine Ct 4 Cr Ae ?_|refine Cu ?_|apply Cw|refine Cy ?_|refine CH ?_|apply Cz|refine CQ ?_|refine C3 ?_)
        all_goals exact CJ [J] (CD (Cx rfl)) ⟨rfl,rfl⟩
    · rw [List.take_of_length_le Ab] at hI
      repeat' (first|apply Cv|refine Ct 0 Cr Ag ?_|refine Ct 1 Cr Ao ?_|refine CY 2 Cr Aj Ab ?_|refine Ct 4 Cr Ae ?_|refine Cu ?_|apply Cw|refine Cy ?_|refine CF ?_|refine C1 ?_)
      refine⟨rfl,k+1,CX (by repeat first|exact Sub.nil _|refine Sub.cons rfl ?_),⟨by omega,fun j hj=> ?_⟩,by omega⟩;by_cases e:j=k
      · subst e;rw [bad,List.any_eq_false];intro t ht;rw [hl];simp [hI t ht]
      · exact hB j Ab
  · obtain rfl:k=cl:=by omega
    have ho:=U5 (cs:=cs) (by rw [hl];exact hB);by_cases h0:k=0
    · rw [if_pos Ab] at ho
      rw [ho]
      repeat' (first|apply Cv|refine Ct 0 Cr Ag ?_|refine CO 2 Cr AP Ab ?_|refine CY 2 Cr Aj Ab ?_|refine Ct 3 Cr Af ?_|refine Ct 4 Cr Ae ?_|refine Cu ?_|apply Cw|refine Cy ?_|refine CH ?_|refine CF ?_|apply Cz|refine C1 ?_|refine CQ ?_)
      exact CJ [J] (CD (Cx rfl)) ⟨rfl,rfl⟩
    · rw [if_neg Ab] at ho
      rw [ho]
      repeat' (first|apply Cv|refine Ct 0 Cr Ag ?_|refine CY 2 Cr AP Ab ?_|refine Ct 3 Cr Af ?_|refine Ct 4 Cr Ae ?_|refine Cu ?_|apply Cw|refine Cy ?_|refine CF ?_|apply Cz|refine C1 ?_|apply CB)
      exact CJ [J] (CD (Cx rfl)) ⟨rfl,rfl⟩
end Go.Proofs.YtcnmnmjmpocepaaGreatDoor.Nd
end
