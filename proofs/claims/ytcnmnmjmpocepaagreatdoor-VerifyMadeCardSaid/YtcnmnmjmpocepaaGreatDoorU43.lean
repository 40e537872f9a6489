
import Derived.Test.YtcnmnmjmpocepaaGreatDoorU00
import Derived.Test.YtcnmnmjmpocepaaGreatDoorU11
import Derived.Test.YtcnmnmjmpocepaaGreatDoorU20
import Derived.Test.YtcnmnmjmpocepaaGreatDoorU18
import Derived.Test.YtcnmnmjmpocepaaGreatDoorU36
set_option linter.unusedVariables false
set_option linter.unusedSimpArgs false
set_option linter.unusedSectionVars false
set_option maxRecDepth 100000
set_option maxHeartbeats 16000000
section
namespace Go.Proofs.YtcnmnmjmpocepaaGreatDoor
open Kd
def Win(f F:Fm):Prop:=f.1.length=F.1.length/\f.2=F.2/\CP F.1 f.1=F.1
theorem joinL_same(l:List Int):CP l l=l:=by
  induction l with
  |nil=>rfl
  |cons a l ih=>rw [KM,if_pos rfl,ih]
theorem Win.refl(f:Fm):Win f f:=⟨rfl,rfl,joinL_same _⟩
theorem join_known:∀ {F f:List Int},F.length=f.length->(CP F f=F↔∀(i:Nat) (x:Int),F[i]?=some x->x= -1∨f[i]?=some x)
  | [],[],_=>by simp [CP]
  | a ::F,b::f,h=>by
    have ih:=join_known (F:=F) (f:=f) (by simpa using h);rw [KM];constructor
    · intro q i x hx;have q1:(if a=b then a else -1)=a:=List.head_eq_of_cons_eq q;have q2:CP F f=F:=List.tail_eq_of_cons_eq q;cases i with
      | zero=>
        simp at hx;subst hx
        by_cases e:a=b
        · right;simp [e]
        · rw [if_neg e] at q1;exact .inl q1.symm
      |succ i=>simpa using ih.1 q2 i x (by simpa using hx)
    · intro q;have q2:=ih.2 fun i x hx=>by simpa using q (i+1) x (by simpa using hx)
      rw [q2]
      congr 1
      rcases q 0 a rfl with e|e
      · subst e;split <;>rfl
      · have:b=a:=by simpa using e
        rw [if_pos this.symm]
theorem win_iff{f F:Fm}:Win f F↔f.1.length=F.1.length/\f.2=F.2/\∀(i:Nat) (x:Int),F.1[i]?=some x->x= -1∨f.1[i]?=some x:=
  ⟨fun h=>⟨h.1,h.2.1,(join_known h.1.symm).1 h.2.2⟩,fun h=>⟨h.1,h.2.1,(join_known h.1.symm).2 h.2.2⟩⟩
theorem Win.trans{f F G:Fm}(h:Win f F)(h':Win F G):Win f G:=by
  rw [win_iff] at*
  refine⟨h.1.trans h'.1,h.2.1.trans h'.2.1,fun i x hx=> ?_⟩;rcases h'.2.2 i x hx with q|q
  · exact .inl q
  · exact h.2.2 i x q
theorem win_join{f F:Fm}(h:F.1.length=f.1.length)(h2:F.2=f.2):Win F (CP F.1 f.1,F.2)/\Win f (CP F.1 f.1,F.2):=by
  have hx:∀(i:Nat) (x:Int),(CP F.1 f.1)[i]?=some x->x= -1∨(F.1[i]?=some x/\f.1[i]?=some x):=by
    intro i x hx;simp only [CP,List.getElem?_zipWith] at hx
    split at hx
    · rename_i a b ea eb
      simp at hx
      by_cases e:a=b
      · rw [if_pos e] at hx;subst hx;exact .inr ⟨ea,by rw [eb,e]⟩
      · rw [if_neg e] at hx;exact .inl hx.symm
    · cases hx
  rw [win_iff,win_iff];refine⟨⟨(Dz h).symm,rfl,fun i x q=>(hx i x q).imp id (·.1)⟩,⟨h.symm.trans (Dz h).symm,h2.symm,fun i x q=>(hx i x q).imp id (·.2)⟩⟩
theorem win_step{im:Im}{mi at_:Int}{f F G:Fm}(h:Win f F)(hs:Dv im mi at_ F.1 F.2= .inr G):∃g,Dv im mi at_ f.1 f.2= .inr g/\Win g G:=by
  obtain⟨h1,h2,h3⟩:=h;have:=TU im mi at_ F.1 f.1 F.2 h1.symm;rw [h3,hs] at this
  rcases this with ⟨q,_⟩|q|⟨lA,lB,s,q1,q2,q3,q4,q5,_⟩
  · cases q
  · cases q
  · cases q1
    have e:CP lA lB=lA:=congrArg Prod.fst (Sum.inr.inj q2);refine⟨(lB,s),by rw [h2];exact q3,?_,rfl,?_⟩
    · show lB.length=(CP lA lB).length;rw [e];omega
    · show CP (CP lA lB) lB=CP lA lB;rw [e,e]
def Weak(σ Dj:Fs):Prop:=Dj.length=σ.length/\∀(a:Nat) F,σ[a]?=some (some F)->∃F',Dj[a]?=some (some F')/\Win F F'
theorem Weak.refl(σ:Fs):Weak σ σ:=⟨rfl,fun _ F h=>⟨F,h,Win.refl F⟩⟩
theorem Weak.trans{σ τ υ:Fs}(h:Weak σ τ)(h':Weak τ υ):Weak σ υ:=
  ⟨h'.1.trans h.1,fun a F q=>by
    obtain⟨F1,q1,w1⟩:=h.2 a F q;obtain⟨F2,q2,w2⟩:=h'.2 a F1 q1;exact⟨F2,q2,w1.trans w2⟩⟩
theorem goesV_weak{σ Dj:Fs}{t:Nat}{f:Fm}{c:Bool}(h:E1 σ t f= .ok (Dj,c)):
    Weak σ Dj/\(t<σ.length->∃F,Dj[t]?=some (some F)/\Win f F)/\(c=false->Dj=σ):=by
  unfold E1 at h
  split at h
  · rename_i e
    cases h
    exact⟨Weak.refl _,fun q=>absurd (List.getElem?_eq_none_iff.1 e) Ab,fun _=>rfl⟩
  · rename_i e
    cases h
    have Em:t<σ.length:=(List.getElem?_eq_some_iff.1 e).1;refine⟨⟨by simp,fun a F q=> ?_⟩,fun _=>⟨f,by rw [List.getElem?_set_self Em],Win.refl f⟩,fun h=>by cases h⟩;by_cases ea:a=t
    · subst ea;rw [e] at q;cases q
    · exact⟨F,by rw [List.getElem?_set_ne Ab];exact q,Win.refl F⟩
  · rename_i g e
    have Em:t<σ.length:=(List.getElem?_eq_some_iff.1 e).1
    split at h
    · rename_i hj
      cases h
      obtain⟨w1,w2⟩:=win_join (f:=f) (F:=g) hj.1 hj.2;refine⟨⟨by simp,fun a F q=> ?_⟩,fun _=>⟨_,by rw [List.getElem?_set_self Em],w2⟩,fun hc=> ?_⟩
      · by_cases ea:a=t
        · subst ea;rw [e] at q;cases q
          exact⟨_,by rw [List.getElem?_set_self Em],w1⟩
        · exact⟨F,by rw [List.getElem?_set_ne Ab];exact q,Win.refl F⟩
      · have:CP g.1 f.1=g.1:=by simpa using hc
        rw [this];apply List.ext_getElem?;intro i;by_cases ei:i=t
        · subst ei;rw [List.getElem?_set_self Em,e]
        · rw [List.getElem?_set_ne Ab]
    · cases h
theorem goAll_weak{f:Fm}:∀ {ts:List Nat} {σ Dj:Fs} {b c:Bool},Gb σ f ts b= .ok (Dj,c)->
    Weak σ Dj/\(∀t∈ts,t<σ.length->∃F,Dj[t]?=some (some F)/\Win f F)/\(c=false->b=false/\Dj=σ)
  | [],σ,Dj,b,c,h=>by cases h;exact⟨Weak.refl _,fun t h=>(List.not_mem_nil h).elim,fun h=>⟨h,rfl⟩⟩
  | t ::ts,σ,Dj,b,c,h=>by
    unfold Gb at h
    split at h
    · cases h
    · rename_i Rl c1 e
      obtain⟨a1,a2,a3⟩:=goesV_weak e;obtain⟨b1,b2,b3⟩:=goAll_weak h;refine⟨a1.trans b1,fun t' ht hl=> ?_,fun hc=> ?_⟩
      · rcases List.mem_cons.1 ht with rfl|ht
        · obtain⟨F,q1,q2⟩:=a2 hl;obtain⟨F',q3,q4⟩:=b1.2 _ F q1;exact⟨F',q3,q2.trans q4⟩
        · exact b2 t' ht (by rw [a1.1];exact hl)
      · obtain⟨q1,q2⟩:=b3 hc;have:b=false/\c1=false:=by simpa using q1
        exact⟨this.1,by rw [q2,a3 this.2]⟩
theorem placeV_weak{im:Im}{mi:Int}{nx:Nat->List Nat}{σ Dj:Fs}{a:Nat}{b c:Bool}(h:Fw im mi nx σ a b= .ok (Dj,c)):
    Weak σ Dj/\(c=false->b=false/\Dj=σ/\∀g,σ[a]?=some (some g)->∃f,Dv im mi a g.1 g.2= .inr f/\∀t∈nx a,t<σ.length->∃F,σ[t]?=some (some F)/\Win f F):=by
  unfold Fw at h
  split at h
  · rename_i g e
    split at h
    · cases h
    · rename_i f ef
      obtain⟨a1,a2,a3⟩:=goAll_weak h;refine⟨a1,fun hc=> ?_⟩;obtain⟨q1,q2⟩:=a3 hc;refine⟨q1,q2,fun g' hg=> ?_⟩;rw [e] at hg;cases hg
      exact⟨f,ef,fun t ht hl=>by rw [<-q2];exact a2 t ht hl⟩
  · rename_i LC
    cases h
    exact⟨Weak.refl _,fun hc=>⟨hc,rfl,fun g hg=>absurd hg (LC g)⟩⟩
theorem roundV_weak{im:Im}{mi:Int}{nx:Nat->List Nat}:∀ {l:List Nat} {σ Dj:Fs} {b c:Bool},D1 im mi nx σ l b= .ok (Dj,c)->
    Weak σ Dj/\(c=false->b=false/\Dj=σ/\∀a∈l,∀g,σ[a]?=some (some g)->∃f,Dv im mi a g.1 g.2= .inr f/\∀t∈nx a,t<σ.length->∃F,σ[t]?=some (some F)/\Win f F)
  | [],σ,Dj,b,c,h=>by cases h;exact⟨Weak.refl _,fun h=>⟨h,rfl,fun a h=>(List.not_mem_nil h).elim⟩⟩
  | a ::l,σ,Dj,b,c,h=>by
    unfold D1 at h
    split at h
    · cases h
    · rename_i Rl c1 e
      obtain⟨a1,a2⟩:=placeV_weak e;obtain⟨b1,b2⟩:=roundV_weak h;refine⟨a1.trans b1,fun hc=> ?_⟩;obtain⟨q1,q2,q3⟩:=b2 hc;obtain⟨p1,p2,p3⟩:=a2 q1;subst p2;refine⟨p1,q2,fun a' ha=> ?_⟩;rcases List.mem_cons.1 ha with rfl|ha
      · exact p3
      · exact q3 a' ha
theorem Ew.fix{im:Im}{mi:Int}{nx:Nat->List Nat}{n:Nat}{σ:Fs}{r:Except Er Fs}(h:Ew im mi nx n σ r):∀Dj,r= .ok Dj->Weak σ Dj/\
    ∀a,a<n->∀g,Dj[a]?=some (some g)->∃f,Dv im mi a g.1 g.2= .inr f/\∀t∈nx a,t<Dj.length->∃F,Dj[t]?=some (some F)/\Win f F:=by
  induction h with
  |bad h=>intro Dj e;cases e
  | done h=>
    intro Dj e;cases e;obtain⟨h1,h2⟩:=roundV_weak h;obtain⟨_,q2,q3⟩:=h2 rfl;subst q2;exact⟨h1,fun a ha=>q3 a (List.mem_range.2 ha)⟩
  | more h _ ih=>
    intro Dj e;obtain⟨h1,_⟩:=roundV_weak h;obtain⟨h2,h3⟩:=ih Dj e;exact⟨h1.trans h2,h3⟩
end Go.Proofs.YtcnmnmjmpocepaaGreatDoor
end
section
namespace Go.Proofs.YtcnmnmjmpocepaaGreatDoor
open Go.SL
open Kd
attribute [local irreducible] SL.T C7 Dc C6 Db DS Du
theorem DG(K:B6)(b1 b2 d1 d2:Option Addr)(n1 n2 c1 c2 e1 e2:Nat)(f g:Fm)(h1:f.1.length=n1)(h2:f.2.length=n2)(s1:Sl K b1 (f.1.map i64))(s2:Sl K b2 (f.2.map i64))(s3:Sl K d1 (g.1.map i64))(s4:Sl K d2 (g.2.map i64))(JZ:n1≤4000000)(OV:n2≤4000000)(hw:Win f g):
    C7 Tryz.prog 19 [fr b1 b2 n1 n2 c1 c2,fr d1 d2 n1 n2 e1 e2] [K] (.bool true):=by
  obtain⟨w1,w2,w3⟩:=win_iff.1 hw;rw [<-w2] at s4
  haveI:=s1;haveI:=s2;haveI:=s3;haveI:=s4;refine Ci Tryz.func19 rfl (Nat.le_of_ble_eq_true rfl) fun F=> ?_
  repeat' (first|apply B4|refine B3 0 BY AO ?_|refine CE 2 BY Av Ab ?_|refine B3 3 BY Ah ?_|refine B3 4 BY Ag ?_|refine CF (fun β=> ?_)|refine B0 ?_|apply B5|refine B8 ?_|refine Cg ?_|refine Cf ?_|apply Cc)
  obtain⟨Io,rfl⟩:∃x,x=β:=⟨_,rfl⟩;obtain⟨DZ,rfl⟩:∃x,x=β:=⟨_,rfl⟩;refine CH (fun i:Nat=> [(2,.pointer (some ⟨DZ,0,none⟩)),(3,.pointer (some ⟨Io,0,none⟩)),(5,i64 (i:Int))])
    (fun _=> [Co Io (.cells ⟨[.slice d1 n1 e1,.slice d2 n2 e2]⟩ 59 (0,0)),Co DZ (.cells ⟨[.slice b1 n1 c1,.slice b2 n2 c2]⟩ 59 (0,0)),K]) (fun i=>i≤n1) (fun i=>n1 - i) 0 (by repeat first|exact Sub.nil _|refine Sub.cons rfl ?_) (Nat.zero_le _) ?_
  intro i hi;by_cases hj:i<n1
  · obtain⟨x,hx⟩:∃z,f.1[i]?=some z:=⟨_,List.getElem?_eq_getElem Ab⟩;obtain⟨y,hy⟩:∃z,g.1[i]?=some z:=⟨_,List.getElem?_eq_getElem Ab⟩;have hcx:(f.1.map i64)[((i:Nat):Int).toNat*1]?=some (i64 x):=by simp [hx]
    have hcy:(g.1.map i64)[((i:Nat):Int).toNat*1]?=some (i64 y):=by simp [hy]
    have hkx:((i:Nat):Int).toNat*1<(f.1.map i64).length:=by simp;omega
    have hky:((i:Nat):Int).toNat*1<(g.1.map i64).length:=by simp;omega
    by_cases hm:y= -1
    · subst hm
      repeat' (first|apply B4|refine B3 0 BY Am ?_|refine Cs 2 BY Aj Ab ?_|refine B3 3 BY Ah ?_|refine B3 4 BY Ag ?_|refine B0 ?_|apply B5|refine B8 ?_|refine Cl ?_|refine Cf ?_|apply Cc)
      refine Cu [.q [0,1,2,3,4,5,6,7,8,9,10,11,12,13,14,15,16,17,18]] [Co Io (.cells ⟨[.slice d1 n1 e1,.slice d2 n2 e2]⟩ 59 (0,0)),Co DZ (.cells ⟨[.slice b1 n1 c1,.slice b2 n2 c2]⟩ 59 (0,0)),K] Ac Ac Ac Ac ?_
      repeat' (first|refine B3 0 BY AO ?_|refine Cw 0 BZ ?_|refine B3 1 BY Ap ?_|refine Cw 2 BZ ?_|refine CE 2 BY Av Ab ?_|refine B3 3 BY AA ?_|refine Cw 3 BZ ?_|refine B0 ?_|refine Cz ?_|refine CQ rfl ?_|apply B5|refine B8 ?_|refine Cg ?_|apply Cc)
      exact⟨rfl,i+1,CA (by repeat first|exact Sub.nil _|refine Sub.cons rfl ?_),hj,by omega⟩
    · have Ju:x=y:=by
        rcases w3 i y hy with q|q
        · exact absurd q hm
        · rw [hx] at q;cases q;rfl
      subst Ju
      repeat' (first|apply B4|refine B3 0 BY Am ?_|refine Cs 2 BY Aj Ab ?_|refine B3 3 BY Ah ?_|refine B3 4 BY Ag ?_|refine B0 ?_|apply B5|refine B8 ?_|refine Cl ?_|refine Cf ?_|apply Cc)
      refine Cu [.q [0,1,2,3,4,5,6,7,8,9,10,11,12,13,14,15,16,17,18]] [Co Io (.cells ⟨[.slice d1 n1 e1,.slice d2 n2 e2]⟩ 59 (0,0)),Co DZ (.cells ⟨[.slice b1 n1 c1,.slice b2 n2 c2]⟩ 59 (0,0)),K] Ac Ac Ac Ac ?_
      repeat' (first|refine B3 0 BY AJ ?_|refine B3 1 BY Ap ?_|refine Cs 2 BY Av Ab ?_|refine CE 2 BY Av Ab ?_|refine B3 3 BY AA ?_|refine B0 ?_|refine Cz ?_|refine CQ rfl ?_|apply B5|refine B8 ?_|refine Cg ?_|apply Cc)
      exact⟨rfl,i+1,CA (by repeat first|exact Sub.nil _|refine Sub.cons rfl ?_),hj,by omega⟩
  · obtain rfl:i=n1:=by omega
    repeat' (first|apply B4|refine B3 0 BY Af ?_|refine CE 2 BY Aj Ab ?_|refine B3 3 BY Ah ?_|refine B3 4 BY Ag ?_|refine B0 ?_|apply B5|refine B8 ?_|refine Cg ?_|refine Cf ?_|refine CC ?_)
    refine CH (fun j:Nat=> [(2,.pointer (some ⟨DZ,0,none⟩)),(3,.pointer (some ⟨Io,0,none⟩)),(6,i64 (j:Int))])
      (fun _=> [Co Io (.cells ⟨[.slice d1 i e1,.slice d2 n2 e2]⟩ 59 (0,0)),Co DZ (.cells ⟨[.slice b1 i c1,.slice b2 n2 c2]⟩ 59 (0,0)),K]) (fun j=>j≤n2) (fun j=>n2 - j) 0 (by repeat first|exact Sub.nil _|refine Sub.cons rfl ?_) (Nat.zero_le _) ?_
    intro j Gs;by_cases hj3:j<n2
    · obtain⟨x,hx⟩:∃z,f.2[j]?=some z:=⟨_,List.getElem?_eq_getElem Ab⟩;have hcx:(f.2.map i64)[((j:Nat):Int).toNat*1]?=some (i64 x):=by simp [hx]
      have hkx:((j:Nat):Int).toNat*1<(f.2.map i64).length:=by simp;omega
      repeat' (first|apply B4|refine B3 0 BY Am ?_|refine Cs 2 BY Aj Ab ?_|refine B3 3 BY Ah ?_|refine B3 4 BY Ag ?_|refine B0 ?_|apply B5|refine B8 ?_|refine Cl ?_|refine Cf ?_|apply Cc)
      refine Cu [.q [0,1,2,3,4,5,6,7,8,9,10]] [Co Io (.cells ⟨[.slice d1 i e1,.slice d2 n2 e2]⟩ 59 (0,0)),Co DZ (.cells ⟨[.slice b1 i c1,.slice b2 n2 c2]⟩ 59 (0,0)),K] Ac Ac Ac Ac ?_
      repeat' (first|refine B3 0 BY Af ?_|refine B3 1 BY Ap ?_|refine CE 2 BY Av Ab ?_|refine B3 3 BY AA ?_|refine B0 ?_|refine Cz ?_|refine CQ rfl ?_|apply B5|refine B8 ?_|refine Cg ?_|apply Cc)
      exact⟨rfl,j+1,CA (by repeat first|exact Sub.nil _|refine Sub.cons rfl ?_),hj3,by omega⟩
    · obtain rfl:j=n2:=by omega
      repeat' (first|apply B4|refine B3 0 BY Af ?_|refine CE 2 BY Aj Ab ?_|refine B3 3 BY Ah ?_|refine B3 4 BY Ag ?_|refine B0 ?_|apply B5|refine B8 ?_|refine Cg ?_|apply Cb|refine CC ?_)
      exact Cj [K] (Ce (B7 rfl)) ⟨rfl,rfl⟩
end Go.Proofs.YtcnmnmjmpocepaaGreatDoor
end
