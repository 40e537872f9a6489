
import Derived.Test.YtcnmnmjmpocepaaGreatDoorU00
import Derived.Test.YtcnmnmjmpocepaaGreatDoorU11
import Derived.Test.YtcnmnmjmpocepaaGreatDoorU23
import Derived.Test.YtcnmnmjmpocepaaGreatDoorU08
set_option linter.unusedVariables false
set_option linter.unusedSimpArgs false
set_option linter.unusedSectionVars false
set_option maxRecDepth 100000
set_option maxHeartbeats 16000000
section
namespace Go.Proofs.YtcnmnmjmpocepaaGreatDoor.Nd
open Go.SL
attribute [local irreducible] SL.T C7 Dc C6 Db DS Du
def KF(cs:List Ins)(k:Nat):List (Nat×Int):=(List.range k).flatMap fun(j:Nat)=>(GG cs (j:Int)).map fun(t:Int)=>((j,t):Nat×Int)
theorem NP(cs:List Ins)(k:Nat):KF cs (k+1)=KF cs k++(GG cs (k:Int)).map (fun(t:Int)=>((k,t):Nat×Int)):=by simp [KF,List.range_succ]
theorem Vc{cs:List Ins}:∀ {n k:Nat},k<n->∀ {i:Nat} {t:Int},(GG cs (k:Int))[i]?=some t->(KF cs n)[(KF cs k).length+i]?=some (k,t)
  | n+1,k,hk,i,t,ht=>by
    rw [NP];by_cases e:k=n
    · subst e;rw [List.getElem?_append_right Ab,show(KF cs k).length+i - (KF cs k).length=i by omega];simp [ht]
    · have ih:=Vc (n:=n) (k:=k) Ab ht;rw [List.getElem?_append_left (List.getElem?_eq_some_iff.1 ih).1];exact ih
theorem Vd{cs:List Ins}{k:Nat}{q:Nat×Int}(h:q∈KF cs k):q.1<k/\q.2∈GG cs (q.1:Int):=by
  unfold KF at h
  rw [List.mem_flatMap] at h
  obtain⟨j,hj,h⟩:=h;obtain⟨t,ht,rfl⟩:=List.mem_map.1 h;exact⟨List.mem_range.1 hj,ht⟩
theorem Vb{cs:List Ins}{n k:Nat}{t:Int}(hk:k<n)(ht:t∈GG cs (k:Int)):(k,t)∈KF cs n:=by
  unfold KF;rw [List.mem_flatMap];exact⟨k,List.mem_range.2 hk,List.mem_map.2 ⟨t,ht,rfl⟩⟩
theorem Qz{cs:List Ins}:∀ {n k:Nat},k≤n->∀ {p:Nat},p<(KF cs k).length->(KF cs n)[p]?=(KF cs k)[p]?
  | 0, k, hk, p, hp => by have:k=0:=by omega
                          subst this;rfl
  | n+1,k,hk,p,hp=>by
    by_cases e:k=n+1
    · subst e;rfl
    · have ih:=Qz (n:=n) (k:=k) Ab hp;rw [NP,List.getElem?_append_left,ih];have:=(List.getElem?_eq_some_iff.1 (ih.trans (List.getElem?_eq_getElem hp))).1;exact this
theorem X0{cs:List Ins}{p a:Nat}{t:Int}(hp:(KF cs cs.length)[p]?=some (a,t))(Eh:∀q<p,∀z,(KF cs cs.length)[q]?=some z->L1 cs.length z.2=true)(ht:L1 cs.length t=false):off cs=a:=by
  obtain⟨h1,h2⟩:=Vd (List.mem_of_getElem? hp);refine cw h1 (fun j hj=> ?_) ?_
  · rw [bad,List.any_eq_false];intro u hu;have hm:=Vb (n:=a) hj hu;obtain⟨q,hq⟩:=List.mem_iff_getElem?.1 hm;have hql:=(List.getElem?_eq_some_iff.1 hq).1;have hlp:(KF cs a).length≤p:=by
      rcases Nat.lt_or_ge p (KF cs a).length with h|h
      · have:=Qz (cs:=cs) (Nat.le_of_lt h1) h;rw [hp] at this
        have:=(Vd (List.mem_of_getElem? this.symm)).1;simp at this
      · exact h
    have:=Eh q Ab _ ((Qz (Nat.le_of_lt h1) hql).trans hq);simp [this]
  · rw [bad,List.any_eq_true];exact⟨t,h2,by simp [ht]⟩
theorem QJ{cs:List Ins}(Eh:∀q<(KF cs cs.length).length,∀z,(KF cs cs.length)[q]?=some z->L1 cs.length z.2=true):off cs=if cs.length=0 then 0 else -1:=by
  refine R4 fun j hj=> ?_
  rw [bad,List.any_eq_false];intro u hu;obtain⟨q,hq⟩:=List.mem_iff_getElem?.1 (Vb hj hu);have:=Eh q (List.getElem?_eq_some_iff.1 hq).1 _ hq;simp [this]
abbrev gF(q:Nat×Int):List Value:= [i64 (q.1:Int),i64 q.2]
theorem WT(Eu:Nat)(J0:B6)(p:Value)(lo st:Int)(cb:Option Addr)(cl cc:Nat)(cs:List Ins) [Sl J0 cb (Cp cs)](hl:cs.length=cl)(DE:cl≤4000000):
    Iter Tryz.prog 161 [] [.pointer (some ⟨Eu,0,none⟩)] [FX Eu p lo st cb cl cc,J0] ((KF cs cl).map gF):=by
  intro L J Jx hy H h0;refine Ch Tryz.func161 rfl (Nat.le_of_ble_eq_true rfl) fun F=> ?_
  repeat' (first|apply B4|refine B3 0 BY Am ?_|refine B3 3 BY Ah ?_|refine B3 4 BY Ag ?_|refine B0 ?_|apply B5|refine B8 ?_|refine Cf ?_)
  refine CH (fun s:(Nat×B6)=> [(0,.func (.yield L) #[] #[]),(1,.pointer (some ⟨Eu,0,none⟩)),(8,i64 (cl:Int)),(9,i64 (s.1:Int))])
    (fun s=> [s.2,FX Eu p lo st cb cl cc,J0]) (fun s=>s.1≤cl/\J (KF cs s.1).length s.2) (fun s=>cl - s.1) (0,H) (by repeat first|exact Sub.nil _|refine Sub.cons rfl ?_) ⟨Nat.zero_le _,h0⟩ ?_
  clear h0;rintro⟨k,H⟩ ⟨br,hJ⟩;dsimp only at br hJ ⊢
  by_cases hk:k<cl
  · have Rq:=HJ cs (k:Int)
    repeat' (first|apply B4|refine B3 0 BY Af ?_|refine Cs 2 BY Aj Ab ?_|refine B3 3 BY Az ?_|refine B3 4 BY Ag ?_|(refine gk 4 rfl ?_;(refine FI rfl rfl rfl rfl rfl rfl rfl rfl (OP _ p lo st cb cl cc cs (k:Int) hl DE) ?_;rintro _ _ ⟨hN,bN,cN,rfl,rfl,osN⟩;haveI slN:=osN.sl;refine⟨_,_,rfl,rfl,?_⟩))|refine B0 ?_|apply B5|refine B8 ?_|refine Cl ?_|refine Cf ?_|apply Cc)
    refine CH (fun s:(Nat×B6)=> [(0,.func (.yield L) #[] #[]),(1,.pointer (some ⟨Eu,0,none⟩)),(8,i64 (cl:Int)),(9,i64 (k:Int)),(3,i64 (k:Int)),(14,.slice bN (GG cs (k:Int)).length cN),(15,i64 ((GG cs (k:Int)).length:Int)),(16,i64 (s.1:Int))])
      (fun s=> [s.2,hN,FX Eu p lo st cb cl cc,J0]) (fun s=>s.1≤(GG cs (k:Int)).length/\J ((KF cs k).length+s.1) s.2) (fun s=>(GG cs (k:Int)).length - s.1) (0,H) (by repeat first|exact Sub.nil _|refine Sub.cons rfl ?_) ⟨Nat.zero_le _,hJ⟩ ?_
    clear hJ;rintro⟨i,H⟩ ⟨Pn,hJ⟩;dsimp only at Pn hJ ⊢
    by_cases hi:i<(GG cs (k:Int)).length
    · obtain⟨t,ht⟩:∃t,(GG cs (k:Int))[i]?=some t:=⟨_,List.getElem?_eq_getElem hi⟩;have hct:((GG cs (k:Int)).map i64)[((i:Nat):Int).toNat*1]?=some (i64 t):=by simp [ht]
      have hx:((KF cs cl).map gF)[(KF cs k).length+i]?=some (gF (k,t)):=by rw [List.getElem?_map,Vc hk ht];rfl
      have hyy:=hy _ _ H hx hJ
      repeat' (first|apply B4|refine B3 0 BY Af ?_|refine Cs 2 BY Aj Ab ?_|refine B3 3 BY AE ?_|refine B0 ?_|apply B5|refine Cl ?_|refine Cf ?_|apply Cc)
      refine KB (hs:= [H]) rfl rfl rfl (P2 rfl rfl rfl rfl hyy) ?_;rintro v own' ⟨H',rfl,⟨rfl,hJ'⟩|⟨rfl,hJ'⟩⟩ <;>refine⟨_,rfl,?_⟩
      · repeat' (first|refine B3 0 BY Bi ?_|refine B3 1 BY Ap ?_|refine B0 ?_|apply B5|refine B8 ?_|refine Cg ?_|apply Cc)
        exact⟨rfl,(i+1,H'),CA (by repeat first|exact Sub.nil _|refine Sub.cons rfl ?_),⟨hi,hJ'⟩,by dsimp only;omega⟩
      · repeat' (first|refine B3 0 BY Bv ?_|apply B5|refine B8 ?_|refine Cl ?_|apply Cb|refine Cx ?_|refine Dd ?_)
        exact Cj [H',FX Eu p lo st cb cl cc,J0] CU ⟨rfl,H',rfl,.inr hJ'⟩
    · have e:(KF cs k).length+i=(KF cs (k+1)).length:=by rw [NP,List.length_append,List.length_map];omega
      rw [e] at hJ
      repeat' (first|apply B4|refine B3 0 BY Am ?_|refine B3 1 BY Ap ?_|refine CE 2 BY Aj Ab ?_|refine B0 ?_|apply B5|refine B8 ?_|refine Cg ?_|refine CC ?_)
      exact⟨rfl,(k+1,H),CA (by repeat first|exact Sub.nil _|refine Sub.cons rfl ?_),⟨hk,hJ⟩,by dsimp only;omega⟩
  · obtain rfl:k=cl:=by omega
    repeat' (first|apply B4|refine CE 2 BY Aj Ab ?_|refine B0 ?_|apply B5|refine Cg ?_|refine CC ?_|refine Fl ?_|refine Fp ?_)
    refine GB [H,FX Eu p lo st cb k cc,J0] CU ⟨rfl,H,rfl,.inl ?_⟩;rw [List.length_map];exact hJ
theorem KQ(p:Value)(lo st:Int)(cb:Option Addr)(cl cc:Nat):
    SL.T Tryz.prog 115 [Ua p lo st cb cl cc] [] fun e o=>∃β,e= .returned (.func (.func 161) #[] #[.pointer (some ⟨β,0,none⟩)])/\o= [FX β p lo st cb cl cc]:=by
  refine Ch Tryz.func115 rfl (Nat.le_of_ble_eq_true rfl) fun F=> ?_
  repeat' (first|apply B4|refine B3 0 BY Ba ?_|refine CF (fun β=> ?_)|refine B0 ?_|apply B5|refine B8 ?_|apply Cb)
  exact Cj [FX β p lo st cb cl cc] (Ce (B7 rfl)) ⟨β,rfl,rfl⟩
theorem Qk(J:B6)(p:Value)(lo st:Int)(cb:Option Addr)(cl cc:Nat)(cs:List Ins) [Sl J cb (Cp cs)](hl:cs.length=cl)(DE:cl≤4000000):
    C7 Tryz.prog 65 [Ua p lo st cb cl cc] [J] (i64 (off cs)):=by
  refine Ci Tryz.func65 rfl (Nat.le_of_ble_eq_true rfl) fun F=> ?_
  repeat' (first|apply B4|refine B3 3 BY Az ?_|(refine gk 4 rfl ?_;(refine B9 rfl rfl rfl rfl rfl rfl rfl rfl (KQ p lo st cb cl cc) ?_;rintro _ _ ⟨βg,rfl,rfl⟩;refine⟨_,_,rfl,rfl,?_⟩))|refine CF (fun β=> ?_)|refine Cn (fun β=> ?_)|refine B0 ?_|apply B5|refine B8 ?_|refine Cf ?_)
  rename_i Eu
  obtain⟨DZ,rfl⟩:∃x,x=β:=⟨_,rfl⟩;have OW:KF cs cl=KF cs cs.length:=by rw [hl]
  refine VR (hsI:= [FX βg p lo st cb cl cc,J]) (xs:=(KF cs cl).map gF)
    (fun k own1=>own1= [Co DZ (.cells ⟨[i64 0]⟩ 3 (0,0)),FX Eu p lo st cb cl cc]/\∀q<k,∀z,(KF cs cl)[q]?=some z->L1 cl z.2=true)
    (fun c own1=>c= .ret/\own1= [Co DZ (.cells ⟨[i64 (off cs)]⟩ 3 (0,0)),FX Eu p lo st cb cl cc]) rfl (WT _ _ _ _ _ _ _ _ _ hl DE) rfl ?_ ?_ ?_ ?_ ?_
  · exact fun x hx=>by obtain⟨q, -,rfl⟩:=List.mem_map.1 hx;rfl
  · exact⟨rfl,fun q hq=>absurd hq (Nat.not_lt_zero _)⟩
  · rintro L k x own1 hx ⟨rfl,Eh⟩ F1;rw [List.getElem?_map,Option.map_eq_some_iff] at hx
    obtain⟨⟨a,t⟩,hq,rfl⟩:=hx;refine⟨_,rfl,?_⟩
    repeat' (first|apply B4|refine B3 0 BY Au ?_|refine B0 ?_|apply B5|refine B8 ?_)
    intro F2;have hth:=Jl p lo st cb cl cc t;have e:decide (0≤t/\t<cl)=L1 cl t:=rfl;rw [e] at hth
    by_cases ht:L1 cl t=true
    · rw [ht] at hth
      repeat' (first|apply B4|refine B3 0 BY Bi ?_|refine B3 3 BY Az ?_|refine B3 4 BY (Ca rfl rfl rfl rfl rfl (hth)) ?_|refine B0 ?_|apply B5|refine B8 ?_|refine Cg ?_|refine Cf ?_|apply Cc|refine H4 ?_)
      refine JQ [Co DZ (.cells ⟨[i64 0]⟩ 3 (0,0)),FX Eu p lo st cb cl cc] ⟨rfl,fun q nG z hz=> ?_⟩;by_cases e:q=k
      · subst e;rw [hq] at hz;cases hz;exact ht
      · exact Eh q Ab z hz
    · rw [Bool.not_eq_true] at ht
      rw [ht] at hth
      have ho:off cs=a:=by
        rw [OW] at hq Eh
        rw [<-hl] at Eh ht
        exact X0 hq Eh ht
      repeat' (first|apply B4|refine B3 0 BY Bs ?_|refine B3 3 BY Az ?_|refine B3 4 BY (Ca rfl rfl rfl rfl rfl (hth)) ?_|refine Ck ?_|refine B0 ?_|apply B5|refine B8 ?_|refine Cl ?_|refine Cf ?_|apply Cb|refine Dd ?_)
      exact Is [Co DZ (.cells ⟨[i64 (a:Int)]⟩ 3 (0,0)),FX Eu p lo st cb cl cc] ⟨rfl,by rw [ho]⟩
  · rintro D own1 ⟨rfl,Eh⟩;refine⟨_,rfl,?_⟩;rw [List.length_map] at Eh
    have ho:off cs=if cs.length=0 then 0 else -1:=by
      rw [OW] at Eh
      rw [<-hl] at Eh
      exact QJ Eh
    by_cases h0:cl=0
    · rw [if_pos Ab] at ho
      rw [ho]
      repeat' (first|apply B4|refine Cs 2 BY Ao Ab ?_|refine B3 3 BY Ah ?_|refine B3 4 BY Ag ?_|refine Ck ?_|refine B0 ?_|apply B5|refine B8 ?_|refine Cl ?_|apply Cb|refine Cx ?_)
      exact Cj [J] (Ce (Fu rfl rfl rfl)) ⟨rfl,rfl⟩
    · rw [if_neg Ab] at ho
      rw [ho]
      repeat' (first|apply B4|refine CE 2 BY Ao Ab ?_|refine B3 3 BY Ah ?_|refine B3 4 BY Ag ?_|refine Ck ?_|refine B0 ?_|apply B5|refine B8 ?_|refine Cg ?_|apply Cb|apply Cc)
      exact Cj [J] (Ce (Fu rfl rfl rfl)) ⟨rfl,rfl⟩
  · rintro D c own1 ⟨rfl,rfl⟩;refine⟨_,rfl,?_⟩
    repeat' (first|apply Cb|refine Cx ?_|refine Dd ?_)
    exact Cj [J] (Ce (Fu rfl rfl rfl)) ⟨rfl,rfl⟩
end Go.Proofs.YtcnmnmjmpocepaaGreatDoor.Nd
end
section
namespace Go.Proofs.YtcnmnmjmpocepaaGreatDoor.Nd
open Go.SL
attribute [local irreducible] SL.T C7 Dc C6 Db DS Du
def GD(op:Int):Prop:=op∈ [12,13,14,15,(16:Int)]
instance (op:Int):Decidable (GD op):=inferInstanceAs (Decidable (op∈ [12,13,14,15,(16:Int)]))
theorem LH{op:Int}:GD op↔op=12∨op=13∨op=14∨op=15∨op=16:=by
  unfold GD;simp
theorem Dt(op:Int):C7 Tryz.prog 141 [i64 op] [] (.bool (decide (GD op))):=by
  refine Ci Tryz.func141 rfl (Nat.le_of_ble_eq_true rfl) fun F=> ?_
  repeat' (first|apply B4|refine B3 0 BY Af ?_|refine B3 4 BY (EI rfl rfl rfl rfl rfl (EF _ _ _ _ [12,13,14,15,16] op rfl Ae)) ?_|refine Cm (fun b=> ?_)|refine B0 ?_|apply B5|refine B8 ?_|apply Cb)
  exact Cj [] (Ce (B7 rfl)) ⟨rfl,rfl⟩
end Go.Proofs.YtcnmnmjmpocepaaGreatDoor.Nd
end
section
namespace Go.Proofs.YtcnmnmjmpocepaaGreatDoor.Nd
open Go.SL
theorem C0.cd{own:List B6}{b:Option Addr}{n:Nat}{xs:List Int} [s:C0 own b (xs.map i64)](h1:xs.length=n)(hp:0<n):
    ∃bb off,b=some ⟨bb,off,none⟩/\∀X w,Sat (own++X) w->∀j,j<xs.length->w.cell? ⟨bb,off+j,none⟩=some (.int .i64 (xs.getD j 0)):=by
  have hz:(xs.map i64)[0]?=some (i64 (xs.getD 0 0)):=by
    rw [List.getElem?_map,List.getD_eq_getElem?_getD,List.getElem?_eq_getElem Ab];rfl
  obtain⟨h,hm,e⟩:=s.mem;obtain⟨⟨bb,off,sp⟩,arr,T,fz,h1,h2,h3,h4⟩:=e.cell 0 _ hz;subst h1;obtain rfl:sp=none:=h2;refine⟨bb,off,rfl,fun X w st j hj=> ?_⟩;have hzj:(xs.map i64)[j]?=some (i64 (xs.getD j 0)):=by
    rw [List.getElem?_map,List.getD_eq_getElem?_getD,List.getElem?_eq_getElem hj];rfl
  obtain⟨a,ha,hb,hc⟩:=s.cell st hzj;cases ha;exact hc
theorem Rh(own:List B6)(b:Option Addr)(n c:Nat)(xs:List Int)(v:Int) [C0 own b (xs.map i64)](h1:xs.length=n)(DE:n≤4000000)(hs:xs.Pairwise (· ≤ ·)):
    C7 Tryz.prog 177 [.slice b n c,i64 v] own (.tuple #[i64 (xs.countP (· <v):Nat),.bool (decide (v∈xs))]):=by
  intro w X s;rcases Nat.eq_zero_or_pos n with h0|hp
  · subst h0;obtain rfl:xs= []:=List.length_eq_zero_iff.1 h1;refine(Tryz.slices_BinarySearch_int_empty b c v w).mono ?_;rintro e w' ⟨h1,h2⟩;subst h2;exact⟨own,s,h1,rfl⟩
  · obtain⟨bb,off,rfl,hc⟩:=C0.cd (own:=own) (b:=b) h1 hp;have ht:xs.take n=xs:=List.take_of_length_le Ab;have:=Tryz.slices_BinarySearch_int bb off n c xs v w Ab Ab (hc X w s) (by rw [ht];exact hs);rw [ht] at this
    refine this.mono ?_;rintro e w' ⟨h1,q,rfl⟩;refine⟨own,s.heap rfl rfl rfl,?_,rfl⟩;rw [h1,List.contains_eq_mem]
theorem Gq(own:List B6)(b1 b2:Option Addr)(n m c d:Nat)(xs ys:List Int) [C0 own b1 (xs.map i64)] [C0 own b2 (ys.map i64)](h1:xs.length=n)(h2:ys.length=m)(JZ:n≤4000000)(OV:m≤4000000):
    C7 Tryz.prog 138 [.slice b1 n c,.slice b2 m d] own (.bool (decide (xs=ys))):=by
  intro w X s;by_cases dR:n=m
  · rcases Nat.eq_zero_or_pos n with h0|hp
    · subst h0;subst dR;obtain rfl:xs= []:=List.length_eq_zero_iff.1 h1;obtain rfl:ys= []:=List.length_eq_zero_iff.1 h2;refine(Tryz.slices_Equal_int_empty b1 b2 c 0 d w Ab).mono ?_;rintro e w' ⟨h1,h2⟩;subst h2;exact⟨own,s,h1,rfl⟩
    · obtain⟨bb,off,rfl,hc⟩:=C0.cd (own:=own) (b:=b1) h1 hp;obtain⟨mL,X1,rfl,LD⟩:=C0.cd (own:=own) (b:=b2) h2 Ab;have:=Tryz.slices_Equal_int bb off n c mL X1 m d xs ys w Ab Ab Ab Ab (hc X w s) (LD X w s);rw [List.take_of_length_le (show xs.length≤n by omega),List.take_of_length_le (show ys.length≤m by omega)] at this
      refine this.mono ?_;rintro e w' ⟨h1,q,rfl⟩;refine⟨own,s.heap rfl rfl rfl,?_,rfl⟩;rw [h1];by_cases e:xs=ys <;>simp [e]
  · refine(Tryz.slices_Equal_int_lens b1 b2 n c m d w dR).mono ?_;rintro e w' ⟨h3,h4⟩;subst h4;refine⟨own,s,?_,rfl⟩;rw [h3,decide_eq_false];rintro rfl;exact dR (h1.symm.trans h2)
end Go.Proofs.YtcnmnmjmpocepaaGreatDoor.Nd
end
section
namespace Go.Proofs.YtcnmnmjmpocepaaGreatDoor.Nd
open Go.SL
attribute [local irreducible] SL.T C7 Dc C6 Db DS Du
def KW(cs:List Ins)(z:Int):Option Int:=
  if 1≤z/\z<cs.length/\GD (cs.getD z.toNat (0,0,0)).1/\z∉leads cs/\(cs.getD (z - 1).toNat (0,0,0)).1=2 then some (cs.getD (z - 1).toNat (0,0,0)).2.1 else none
abbrev jf(o:Option Int):Value:= .tuple ⟨[i64 (o.getD 0),.bool o.isSome]⟩
theorem W3{cs:List Ins}{z:Int}(h:¬(1≤z/\z<cs.length)):KW cs z=none:=if_neg fun⟨a,b,_⟩=>h ⟨a,b⟩
theorem VC{cs:List Ins}{k:Nat}{op a b T6 a0 b0:Int}(h:cs[k+1]?=some (op,a,b))(h0:cs[k]?=some (T6,a0,b0)):
    KW cs ((k+1:Nat):Int)=if GD op/\((k+1:Nat):Int)∉leads cs/\T6=2 then some a0 else none:=by
  have hl:=(List.getElem?_eq_some_iff.1 h).1;unfold KW;have e1:(((k+1:Nat):Int)).toNat=k+1:=by omega
  have e2:(((k+1:Nat):Int) - 1).toNat=k:=by omega
  rw [e1,e2,List.getD_eq_getElem?_getD,List.getD_eq_getElem?_getD,h,h0];have p1:(1:Int)≤((k+1:Nat):Int):=by omega
  have p2:((k+1:Nat):Int)<cs.length:=by omega
  simp only [p1,p2,true_and,Option.getD_some]
theorem Yf(cs:List Ins):(leads cs).Pairwise (· ≤ ·):=(QM cs).imp fun h=>by omega
theorem Ts(own:List B6)(b:Option Addr)(n c:Nat)(xs:List Int)(v:Int) [C0 own b (xs.map i64)](h1:xs.length=n)(DE:n≤4000000)(hs:xs.Pairwise (· ≤ ·)){bb:Bool}(hb:decide (v∈xs)=bb):
    C7 Tryz.prog 177 [.slice b n c,i64 v] own (.tuple ⟨[i64 (xs.countP (· <v):Nat),.bool bb]⟩):=by
  rw [<-hb];exact Rh own b n c xs v h1 DE hs
theorem K8(J:B6)(p:Value)(lo st:Int)(cb:Option Addr)(cl cc:Nat)(cs:List Ins)(z:Int) [Sl J cb (Cp cs)](hl:cs.length=cl)(DE:cl≤1000000):
    C7 Tryz.prog 140 [Ua p lo st cb cl cc,i64 z] [J] (jf (KW cs z)):=by
  by_cases hz:1≤z/\z<cl
  · obtain⟨k,rfl⟩:∃k:Nat,z=((k+1:Nat):Int):=⟨(z - 1).toNat,by omega⟩;obtain⟨⟨op,a,b⟩,hx⟩:∃x,cs[k+1]?=some x:=⟨_,List.getElem?_eq_getElem Ab⟩;obtain⟨⟨T6,a0,b0⟩,Rp⟩:∃x,cs[k]?=some x:=⟨_,List.getElem?_eq_getElem Ab⟩;rw [VC hx Rp];obtain⟨c0,c1,c2⟩:=E3 hx;have c0:(Cp cs)[((k+1:Nat):Int).toNat*3]?=some (i64 op):=c0;obtain⟨d0,d1,d2⟩:=E3 Rp;have ek:(((k+1:Nat):Int) - 1).toNat=k:=by omega
    have d0:(Cp cs)[(((k+1:Nat):Int) - 1).toNat*3]?=some (i64 T6):=by rw [ek];exact d0
    have d1:(Cp cs)[(((k+1:Nat):Int) - 1).toNat*3+1]?=some (i64 a0):=by rw [ek];exact d1
    have hfl:=CW cs;have hq:((k+1:Nat):Int).toNat*3<(Cp cs).length:=by rw [hfl];omega
    have hq0:(((k+1:Nat):Int) - 1).toNat*3<(Cp cs).length:=by rw [hfl];omega
    have hll:=QN cs;have hle:=Yf cs;refine Ci Tryz.func140 rfl (Nat.le_of_ble_eq_true rfl) fun F=> ?_
    by_cases h5:GD op
    · by_cases h2:T6=2
      · by_cases hm:((k+1:Nat):Int)∈leads cs
        · have hb:=decide_eq_true hm
          repeat' (first|apply B4|refine B3 0 BY Bw ?_|refine B3 1 BY Aw ?_|refine CE 2 BY Bm Ab ?_|refine B3 3 BY AX ?_|refine B3 4 BY Ag ?_|refine Cs 4 BY (Ca rfl rfl rfl rfl rfl (Dt _)) Ab ?_|(refine gk 4 rfl ?_;(refine FI rfl rfl rfl rfl rfl rfl rfl rfl (Qm _ _ _ _ _ _ _ cs Ad Ab) ?_;rintro _ _ ⟨hL,bL,cL,rfl,rfl,G9⟩;haveI slL:=G9.sl;refine⟨_,_,rfl,rfl,?_⟩))|refine B3 4 BY (EI rfl rfl rfl rfl rfl (Ts _ _ _ _ (leads cs) _ rfl Ab Ad hb)) ?_|refine CF (fun β=> ?_)|refine B0 ?_|apply B5|refine B8 ?_|refine Cl ?_|refine Cg ?_|apply Cb|apply Cc|refine Cx ?_)
          exact Cj [J] (Ct (B7 rfl) (B7 rfl)) ⟨by rw [if_neg fun h=>h.2.1 hm];rfl,rfl⟩
        · have hb:=decide_eq_false hm
          repeat' (first|apply B4|refine B3 0 BY Bw ?_|refine B3 1 BY Aw ?_|refine CE 2 BY Bm Ab ?_|refine B3 3 BY AX ?_|refine B3 4 BY Ag ?_|refine Cs 4 BY (Ca rfl rfl rfl rfl rfl (Dt _)) Ab ?_|(refine gk 4 rfl ?_;(refine FI rfl rfl rfl rfl rfl rfl rfl rfl (Qm _ _ _ _ _ _ _ cs Ad Ab) ?_;rintro _ _ ⟨hL,bL,cL,rfl,rfl,G9⟩;haveI slL:=G9.sl;refine⟨_,_,rfl,rfl,?_⟩))|refine B3 4 BY (EI rfl rfl rfl rfl rfl (Ts _ _ _ _ (leads cs) _ rfl Ab Ad hb)) ?_|refine CF (fun β=> ?_)|refine B0 ?_|apply B5|refine B8 ?_|refine Cg ?_|apply Cb|apply Cc)
          exact Cj [J] (Ct (B7 rfl) (B7 rfl)) ⟨by rw [if_pos ⟨h5,hm,h2⟩];rfl,rfl⟩
      · repeat' (first|apply B4|refine B3 0 BY AY ?_|refine B3 1 BY Aw ?_|refine Cs 2 BY Bm Ab ?_|refine CE 2 BY AG Ab ?_|refine B3 3 BY Bx ?_|refine B3 4 BY Ag ?_|refine Cs 4 BY (Ca rfl rfl rfl rfl rfl (Dt _)) Ab ?_|refine CF (fun β=> ?_)|refine B0 ?_|apply B5|refine B8 ?_|refine Cl ?_|apply Cb|refine Cx ?_)
        exact Cj [J] (Ct (B7 rfl) (B7 rfl)) ⟨by rw [if_neg fun h=>h2 h.2.2];rfl,rfl⟩
    · repeat' (first|apply B4|refine B3 0 BY Br ?_|refine Cw 0 BZ ?_|refine Cw 1 BZ ?_|refine Cw 2 BZ ?_|refine CE 2 BY AG Ab ?_|refine B3 3 BY Bx ?_|refine Cw 3 BZ ?_|refine B3 4 BY Ag ?_|refine CE 4 BY (Ca rfl rfl rfl rfl rfl (Dt _)) Ab ?_|refine CF (fun β=> ?_)|refine B0 ?_|apply B5|refine B8 ?_|refine Cl ?_|apply Cb|refine Cx ?_)
      exact Cj [J] (Ct (B7 rfl) (B7 rfl)) ⟨by rw [if_neg fun h=>h5 h.1];rfl,rfl⟩
  · rw [W3 (by rw [hl];exact hz)];refine Ci Tryz.func140 rfl (Nat.le_of_ble_eq_true rfl) fun F=> ?_
    repeat' (first|apply B4|refine B3 0 BY AP ?_|refine Cw 0 BZ ?_|refine Cw 1 BZ ?_|refine Cw 2 BZ ?_|refine Cs 2 BY AG Ab ?_|refine IC 2 BY Aj (fun h=> ?_) (fun h=> ?_)|refine B3 3 BY Ah ?_|refine Cw 3 BZ ?_|refine Cw 4 BZ ?_|refine B3 4 BY Ag ?_|refine CF (fun β=> ?_)|refine B0 ?_|apply B5|refine B8 ?_|refine Cl ?_|apply Cb|refine Cx ?_)
    all_goals first|(exfalso;omega)|exact Cj [J] (Ct (B7 rfl) (B7 rfl)) ⟨rfl,rfl⟩
end Go.Proofs.YtcnmnmjmpocepaaGreatDoor.Nd
end
section
namespace Go.Proofs.YtcnmnmjmpocepaaGreatDoor.Nd
open Go.SL
attribute [local irreducible] SL.T C7 Dc C6 Db DS Du
end Go.Proofs.YtcnmnmjmpocepaaGreatDoor.Nd
end
section
namespace Go.Proofs.YtcnmnmjmpocepaaGreatDoor.Nd
open Go.SL
attribute [local irreducible] SL.T C7 Dc C6 Db DS Du
abbrev Zi(b:Option Addr)(n c:Nat)(is:Bool):Value:= .tuple ⟨[.slice b n c,.bool is]⟩
theorem JG(own:List B6)(b:Option Addr)(n c:Nat)(xs:List Int)(v:Int) [C0 own b (xs.map i64)](h1:xs.length=n)(DE:n≤9223372036854775807):
    C7 Tryz.prog 179 [.slice b n c,i64 v] own (Zi b n c (decide (v∈xs))):=by
  refine Ci Tryz.func179 rfl (Nat.le_of_ble_eq_true rfl) fun F=> ?_
  repeat' (first|apply B4|refine B3 0 BY Af ?_|refine B3 4 BY (EI rfl rfl rfl rfl rfl (EF _ _ _ _ xs v h1 DE)) ?_|refine B0 ?_|apply B5|refine B8 ?_|apply Cb)
  exact Cr (Ct (B7 rfl) (B7 rfl)) rfl
theorem Ta(own:List B6)(b:Option Addr)(n c:Nat)(xs:List Int)(v:Int) [C0 own b (xs.map i64)](h1:xs.length=n)(DE:n≤9223372036854775807):
    C7 Tryz.prog 183 [.slice b n c,i64 v] own (Zi b n c (decide (v∉xs))):=by
  have hc:=EF own b n c xs v h1 DE;by_cases hv:v∈xs
  · rw [decide_eq_true hv] at hc
    rw [decide_eq_false fun h=>h hv];refine Ci Tryz.func183 rfl (Nat.le_of_ble_eq_true rfl) fun F=> ?_
    repeat' (first|apply B4|refine B3 0 BY AH ?_|refine B3 4 BY (EI rfl rfl rfl rfl rfl (hc)) ?_|refine B0 ?_|apply B5|refine B8 ?_|apply Cb)
    exact Cr (Ct (B7 rfl) (B7 rfl)) rfl
  · rw [decide_eq_false hv] at hc
    rw [decide_eq_true hv];refine Ci Tryz.func183 rfl (Nat.le_of_ble_eq_true rfl) fun F=> ?_
    repeat' (first|apply B4|refine B3 0 BY AW ?_|refine B3 4 BY (EI rfl rfl rfl rfl rfl (hc)) ?_|refine B0 ?_|apply B5|refine B8 ?_|apply Cb)
    exact Cr (Ct (B7 rfl) (B7 rfl)) rfl
theorem S9(b:Option Addr)(n c:Nat)(v:Int):
    C7 Tryz.prog 184 [.slice b n c,i64 v] [] (Zi b n c (decide (n=0))):=by
  by_cases hn:n=0
  · rw [decide_eq_true hn];subst hn;refine Ci Tryz.func184 rfl (Nat.le_of_ble_eq_true rfl) fun F=> ?_
    repeat' (first|apply B4|refine B3 0 BY Af ?_|refine Cs 2 BY Ao Ab ?_|refine B3 4 BY Ag ?_|refine B0 ?_|apply B5|refine B8 ?_|apply Cb)
    exact Cr (Ct (B7 rfl) (B7 rfl)) rfl
  · rw [decide_eq_false hn];refine Ci Tryz.func184 rfl (Nat.le_of_ble_eq_true rfl) fun F=> ?_
    repeat' (first|apply B4|refine B3 0 BY Af ?_|refine CE 2 BY Ao Ab ?_|refine B3 4 BY Ag ?_|refine B0 ?_|apply B5|refine B8 ?_|apply Cb)
    exact Cr (Ct (B7 rfl) (B7 rfl)) rfl
theorem Tb(own:List B6)(b:Option Addr)(c:Nat)(v:Int):
    C7 Tryz.prog 182 [.slice b 0 c,i64 v] own (Zi none 0 0 false):=by
  refine Ci Tryz.func182 rfl (Nat.le_of_ble_eq_true rfl) fun F=> ?_
  repeat' (first|apply B4|refine B3 0 BY AJ ?_|refine Cw 0 BZ ?_|refine Cw 1 BZ ?_|refine Cw 2 BZ ?_|refine Cs 2 BY Ao Ab ?_|refine Cw 3 BZ ?_|refine Cw 4 BZ ?_|refine B3 4 BY Ag ?_|refine B0 ?_|apply B5|refine B8 ?_|refine Cl ?_|apply Cb|refine Cx ?_)
  exact Cr (Ct (B7 rfl) (B7 rfl)) rfl
theorem Tc(own:List B6)(b:Option Addr)(n c:Nat)(xs:List Int)(x v:Int) [s:C0 own b ((xs++ [x]).map i64)](h1:xs.length=n)(DE:n≤4000000)(hc:n+1≤c):
    C7 Tryz.prog 182 [.slice b (n+1) c,i64 v] own (if x=v then Zi b n c true else Zi none 0 0 false):=by
  refine LW fun J hJ=> ?_
  haveI:=s.all hJ;have hcx:((xs++ [x]).map i64)[(((n+1:Nat):Int) - 1).toNat*1]?=some (i64 x):=by
    have e:(((n+1:Nat):Int) - 1).toNat*1=xs.length:=by omega
    rw [e];simp
  have hfl:((xs++ [x]).map i64).length=n+1:=by simp [h1]
  by_cases hx:x=v
  · rw [if_pos hx];refine Ci Tryz.func182 rfl (Nat.le_of_ble_eq_true rfl) fun F=> ?_
    repeat' (first|apply B4|refine B3 0 BY AO ?_|refine B3 1 BY Aw ?_|refine CE 2 BY BX Ab ?_|refine B3 3 BY A8 ?_|refine B3 4 BY Ag ?_|refine B3 5 BY Bt ?_|refine B0 ?_|apply B5|refine B8 ?_|refine Cg ?_|apply Cb|apply Cc)
    have e:(((n+1:Nat):Int) - 1).toNat=n:=by omega
    rw [e];exact Cr (Ct (B7 rfl) (B7 rfl)) rfl
  · rw [if_neg hx];refine Ci Tryz.func182 rfl (Nat.le_of_ble_eq_true rfl) fun F=> ?_
    repeat' (first|apply B4|refine B3 0 BY AO ?_|refine B3 1 BY Aw ?_|refine Cs 2 BY BX Ab ?_|refine CE 2 BY Ao Ab ?_|refine B3 3 BY A8 ?_|refine B3 4 BY Ag ?_|refine B0 ?_|apply B5|refine B8 ?_|refine Cl ?_|apply Cb|refine Cx ?_)
    exact Cr (Ct (B7 rfl) (B7 rfl)) rfl
end Go.Proofs.YtcnmnmjmpocepaaGreatDoor.Nd
end
section
namespace Go.Proofs.YtcnmnmjmpocepaaGreatDoor.Nd
open Go.SL
attribute [local irreducible] SL.T C7 Dc C6 Db DS Du
theorem Qy(J:B6)(b:Option Addr)(n c:Nat)(xs:List Int)(v:Int) [Sl J b (xs.map i64)](h1:xs.length=n)(DE:n≤4000000):
    SL.T Tryz.prog 181 [.slice b n c,i64 v] [J] fun e o=>∃N,o=J::N/\∃h b',e= .returned (.slice b' (n+1) (n+1))/\N= [h]/\OS h b' (n+1) (n+1) 3 1 ((xs++ [v]).map i64):=by
  refine Ch Tryz.func181 rfl (Nat.le_of_ble_eq_true rfl) fun F=> ?_
  repeat' (first|refine Qq (m:=n+1) rfl rfl rfl rfl rfl rfl rfl Ab Ab (fun b1 hS os=> ?_)|apply B4|refine B3 0 BY Af ?_|refine B3 1 BY Ap ?_|refine B3 4 BY Ag ?_|refine B0 ?_|apply B5)
  refine ZF rfl rfl rfl rfl rfl rfl rfl rfl rfl os ‹Sl J b (xs.map i64)› (by rw [List.length_map];exact h1) Ab Ab (Oe xs) (fun h2 GC=> ?_);haveI Wc:=GC.sl;have hd:(List.replicate (n+1) (Value.int .i64 0)).drop n= [i64 0]:=by rw [List.drop_replicate,show n+1 - n=1 by omega];rfl
  rw [hd] at GC
  have hfl:(xs.map i64++ [i64 0]).length=n+1:=by simp [h1]
  haveI sl3:=GC.sl
  repeat' (first|apply B4|refine B3 0 BY Am ?_|refine B3 3 BY BD ?_|refine B3 4 BY Ag ?_|refine B0 ?_|apply B5)
  refine Hw rfl rfl rfl rfl rfl GC rfl rfl rfl (Nat.succ_pos _) Aq (cs':=(xs++ [v]).map i64) ?_ (fun h3 RX=> ?_)
  · have e:((n:Int)).toNat*1=xs.length:=by omega
    rw [e,List.take_left' Ak,List.drop_eq_nil_of_le Ak];simp
  repeat' (first|apply B4|refine B3 0 BY Af ?_|refine B0 ?_|apply B5|refine B8 ?_|apply Cb)
  exact Cj [J,h3] (Ce (B7 rfl)) ⟨[h3],rfl,h3,_,rfl,rfl,RX⟩
theorem NO(own:List B6)(b:Option Addr)(n c:Nat)(xs:List Int)(v:Int) [s:C0 own b (xs.map i64)](h1:xs.length=n)(DE:n≤4000000):
    SL.T Tryz.prog 181 [.slice b n c,i64 v] own fun e o=>∃N,o=own++N/\∃h b',e= .returned (.slice b' (n+1) (n+1))/\N= [h]/\OS h b' (n+1) (n+1) 3 1 ((xs++ [v]).map i64):=
  J7 fun J hJ=>by
    haveI:=s.all hJ;exact Qy J b n c xs v h1 DE
theorem Td(J:B6)(b:Option Addr)(n c:Nat)(xs:List Int)(v:Int) [Sl J b (xs.map i64)](h1:xs.length=n)(DE:n≤4000000):
    SL.T Tryz.prog 180 [.slice b n c,i64 v] [J] fun e o=>∃N,o=J::N/\∃h b',e= .returned (Zi b' (n+1) (n+1) (decide (n<8/\v∉xs)))/\N= [h]/\OS h b' (n+1) (n+1) 3 1 ((xs++ [v]).map i64):=by
  have hc:∀ {bb:Bool},decide (v∈xs)=bb->∀own [C0 own b (xs.map i64)],C7 Tryz.prog 89 [.slice b n c,i64 v] own (.bool bb):=fun hb own _=>by
    rw [<-hb];exact EF own b n c xs v h1 Ab
  by_cases hv:v∈xs
  · have hb:=decide_eq_true hv;rw [decide_eq_false fun h:n<8/\v∉xs=>h.2 hv];refine Ch Tryz.func180 rfl (Nat.le_of_ble_eq_true rfl) fun F=> ?_
    repeat' (first|apply B4|refine B3 0 BY (by first|exact CS rfl rfl|exact CG rfl rfl|exact Ds rfl rfl rfl|exact DK rfl rfl rfl|exact DU rfl rfl) ?_|refine Cw 0 BZ ?_|refine IC 2 BY Aj (fun h=> ?_) (fun h=> ?_)|refine Cw 4 BZ ?_|refine B3 4 BY Ag ?_|(refine gk 4 rfl ?_;(refine FI rfl rfl rfl rfl rfl rfl rfl rfl (NO _ _ _ _ xs _ h1 DE) ?_;rintro _ _ ⟨hP,bP,rfl,rfl,osP⟩;refine⟨_,_,rfl,rfl,?_⟩))|refine B3 4 BY (EI rfl rfl rfl rfl rfl (hc hb _)) ?_|refine B0 ?_|apply B5|refine B8 ?_|apply Cb)
    all_goals exact Cj [J,hP] (Ct (B7 rfl) (B7 rfl)) ⟨[hP],rfl,hP,_,rfl,rfl,osP⟩
  · have hb:=decide_eq_false hv;by_cases hn:n<8
    · rw [decide_eq_true (show n<8/\v∉xs from⟨hn,hv⟩)];refine Ch Tryz.func180 rfl (Nat.le_of_ble_eq_true rfl) fun F=> ?_
      repeat' (first|apply B4|refine B3 0 BY Bq ?_|refine Cs 2 BY Aj Ab ?_|refine B3 4 BY Ag ?_|(refine gk 4 rfl ?_;(refine FI rfl rfl rfl rfl rfl rfl rfl rfl (NO _ _ _ _ xs _ h1 DE) ?_;rintro _ _ ⟨hP,bP,rfl,rfl,osP⟩;refine⟨_,_,rfl,rfl,?_⟩))|refine B3 4 BY (EI rfl rfl rfl rfl rfl (hc hb _)) ?_|refine B0 ?_|apply B5|refine B8 ?_|apply Cb)
      all_goals exact Cj [J,hP] (Ct (B7 rfl) (B7 rfl)) ⟨[hP],rfl,hP,_,rfl,rfl,osP⟩
    · rw [decide_eq_false fun h:n<8/\v∉xs=>hn h.1];refine Ch Tryz.func180 rfl (Nat.le_of_ble_eq_true rfl) fun F=> ?_
      repeat' (first|apply B4|refine B3 0 BY AO ?_|refine Cw 0 BZ ?_|refine CE 2 BY Aj Ab ?_|refine Cw 4 BZ ?_|refine B3 4 BY Ag ?_|(refine gk 4 rfl ?_;(refine FI rfl rfl rfl rfl rfl rfl rfl rfl (NO _ _ _ _ xs _ h1 DE) ?_;rintro _ _ ⟨hP,bP,rfl,rfl,osP⟩;refine⟨_,_,rfl,rfl,?_⟩))|refine B0 ?_|apply B5|refine B8 ?_|apply Cb)
      all_goals exact Cj [J,hP] (Ct (B7 rfl) (B7 rfl)) ⟨[hP],rfl,hP,_,rfl,rfl,osP⟩
end Go.Proofs.YtcnmnmjmpocepaaGreatDoor.Nd
end
section
namespace Go.Proofs.YtcnmnmjmpocepaaGreatDoor.Nd
open Go.SL
attribute [local irreducible] SL.T C7 Dc C6 Db DS Du
abbrev P9(f:FuncId):Value:= .func (.func f) #[] #[]
def YR(q:Int):Option Value:=
  if q=20 then some (P9 184) else if q=3 then some (P9 183) else if q=16 then some (P9 179) else if q=15 then some (P9 179) else if q=14 then some (P9 179) else if q=13 then some (P9 182) else if q=12 then some (P9 180) else none
theorem ES:SL.T Tryz.prog 142 [] [] fun e o=>∃h b,e= .returned (.map (some b))/\o= [h]/\MP h b .i64 YR:=by
  refine Ch Tryz.func142 rfl (Nat.le_of_ble_eq_true rfl) fun F=> ?_
  have mp0:∀b,MP (Co b (.map #[] 0)) b .i64 (fun _=>none):=fun b=>MP.nil
  repeat' (first|refine KA rfl rfl rfl rfl (fun bm=> ?_)|apply B4|refine B3 0 BY Au ?_|refine B0 ?_|apply B5)
  have mp1:=mp0 bm;clear mp0
  repeat' (first|refine Wa rfl rfl rfl rfl rfl rfl Ad (fun h2 dO=> ?_)|refine B3 0 BY Af ?_|apply B5|refine B8 ?_|apply Cb)
  rename_i h2 dO
  refine Cj [h2] (Ce (B7 rfl)) ⟨h2,bm,rfl,rfl,dO⟩
end Go.Proofs.YtcnmnmjmpocepaaGreatDoor.Nd
end
section
namespace Go.Proofs.YtcnmnmjmpocepaaGreatDoor.Nd
open Go.SL
attribute [local irreducible] SL.T C7 Dc C6 Db DS Du
def Qb(op k:Int)(s:List Int):Option (List Int):=
  if op=12 then if s.length<8/\k∉s then some (s++ [k]) else none
  else if op=13 then if s.getLast?=some k then some s.dropLast else none
  else if op=14∨op=15∨op=16 then if k∈s then some s else none
  else if op=3 then if k∉s then some s else none
  else if op=20 then if s= [] then some s else none
  else some s
def Hd(cs:List Ins)(z:Nat)(s:List Int):Option (List Int):=
  let x:=cs.getD z (0,0,0)
  if GD x.1/\KW cs z=none then none
  else Qb x.1 (if x.1=3 then x.2.1 else(KW cs z).getD 0) s
structure GS where
  V:List Int
  CX:Int->List Int
  i:Nat
  k:Nat
  res:Option Int
def GS.start:GS:=⟨[0],fun _=> [],0,0,none⟩
def GS.step(cs:List Ins)(g:GS):GS:=
  if g.res.isSome then g else
  match g.V[g.i]? with
  |none=>{g with res:=some (-1)}
  | some z=>match Hd cs z.toNat (g.CX z) with
    |none=>{g with res:=some z}
    | some s=>match(GG cs z)[g.k]? with
      |none=>{g with i:=g.i+1,k:=0}
      | some t=>
        if 0≤t/\t<cs.length then
          if t∈g.V then if g.CX t=s then{g with k:=g.k+1} else{g with res:=some t}
          else{g with V:=g.V++ [t],CX:=fun q=>if q=t then s else g.CX q,k:=g.k+1}
        else{g with k:=g.k+1}
def GS.run(cs:List Ins):Nat->GS
  |0=> .start
  |n+1=>(GS.run cs n).step cs
theorem GS.stays{cs:List Ins}{n:Nat}(h:(GS.run cs n).res.isSome):∀m,n≤m->GS.run cs m=GS.run cs n:=by
  intro m hm;induction m with
  | zero=>
    obtain rfl:n=0:=by omega
    rfl
  | succ m ih=>
    rcases Nat.lt_or_ge m n with Em|hge
    · obtain rfl:n=m+1:=by omega
      rfl
    · have e:=ih hge;rw [GS.run,e,GS.step,if_pos h]
theorem GS.one{cs:List Ins}{n m:Nat}(h1:(GS.run cs n).res.isSome)(h2:(GS.run cs m).res.isSome):GS.run cs n=GS.run cs m:=by
  rcases Nat.le_total n m with h|h
  · exact(GS.stays h1 m h).symm
  · exact GS.stays h2 n h
end Go.Proofs.YtcnmnmjmpocepaaGreatDoor.Nd
end
section
namespace Go.Proofs.YtcnmnmjmpocepaaGreatDoor.Nd
open Go.SL
attribute [local irreducible] SL.T C7 Dc C6 Db DS Du
end Go.Proofs.YtcnmnmjmpocepaaGreatDoor.Nd
end
