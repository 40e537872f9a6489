
import Derived.Test.YtcnmnmjmpocepaaGreatDoorU00
import Derived.Test.YtcnmnmjmpocepaaGreatDoorU11
import Derived.Test.YtcnmnmjmpocepaaGreatDoorU43
import Derived.Test.YtcnmnmjmpocepaaGreatDoorU31
import Derived.Test.YtcnmnmjmpocepaaGreatDoorU22
set_option linter.unusedVariables false
set_option linter.unusedSimpArgs false
set_option linter.unusedSectionVars false
set_option maxRecDepth 100000
set_option maxHeartbeats 16000000
section
namespace Go.Proofs.YtcnmnmjmpocepaaGreatDoor
open Kd
abbrev Kn:=Fm×List Int
abbrev La:=Kn×Bool
def Kn.le(x y:Kn):Prop:=Win x.1 y.1/\x.2=y.2
theorem Kn.le_refl(x:Kn):Kn.le x x:=⟨Win.refl _,rfl⟩
theorem Kn.le.le_trans{x y z:Kn}(h:Kn.le x y)(h':Kn.le y z):Kn.le x z:=⟨h.1.trans h'.1,h.2.trans h'.2⟩
def im0:Im:=⟨[[0,0,2],[0,1]],[⟨IK 0,8,6,[]⟩,⟨IK 1,8,6,[]⟩,⟨IK 2,8,6,[]⟩]⟩
def m0:Me:=⟨[],8,6,[]⟩
def afterC(st:Int)(y:Ins)(loc CX:List Int)(r:Row):Option Fm:=
  if r.is=false then none
  else if CX.length<r.take.length∨¬JB (CX.drop (CX.length - r.take.length)) r.take=true∨ -1∈r.put then none
  else if st<((CX.length - r.take.length+r.put.length:Nat):Int) then none
  else some (if y.op=3 then loc.set y.a.toNat (CX.getD (CX.length - r.take.length) 0) else loc,CX.take (CX.length - r.take.length)++r.put)
def goesOn(op:Int):Prop:=op≠6/\op≠7/\op≠8/\op≠20
instance (op:Int):Decidable (goesOn op):=by unfold goesOn;infer_instance
def stepA(y:Ins)(f:Fm):Option Fm:=
  if goesOn y.op then match rowOf im0 m0 f.1 y.op y.a y.b with
    |none=>none
    |some r=>afterC 6 y f.1 f.2 r
  else none
def lockA(p:Option Ins)(y:Ins)(lk:List Int):Option (List Int):=
  if Nd.GD y.op then match p with
    |none=>none
    |some q=>if q.op=2 then Nd.Qb y.op q.a lk else none
  else Nd.Qb y.op y.a lk
def stA(p:Option Ins)(y:Ins)(x:Kn):Option Kn:=match stepA y x.1,lockA p y x.2 with
  |some f,some l=>some (f,l)
  |_,_=>none
def runL:Option Ins->List Ins->Kn->Option (List La×Kn)
  |_,[],x=>some ([],x)
  | p,y::l,x=>match stA p y x with
    |none=>none
    | some x'=>match runL (some y) l x' with
      |none=>none
      |some (μ,z)=>some ((x,p.isNone)::μ,z)
def May(E:Nat->Option Kn)(o:Nat)(M:List La)(a:Int)(x:Kn):Prop:=
  (∃j w,a=((o+j:Nat):Int)/\M[j]?=some (w,true)/\Kn.le x w)∨(∃k w,a=((k:Nat):Int)/\E k=some w/\Kn.le x w)
inductive Ok (E:Nat->Option Kn) (o:Nat) (d:List Ins) (M:List La) (i:Nat) (x:Kn) (t:Bool):Ins->Prop
  |plain {y:Ins} {x':Kn} {n:La} (hs:stA (if i=0 then none else d[i - 1]?) y x=some x') (hn:M[i+1]?=some n) (hl:Kn.le x' n.1) (h5:Nd.GD y.op->t=false):Ok E o d M i x t y
  |jump {a b:Int} {n:La} (hx:x.1.2= []) (hm:May E o M a x) (hn:M[i+1]?=some n) (ht:n.2=true):Ok E o d M i x t ⟨6,a,b⟩
  |zero {a b:Int} {loc:List Int} {n:La} (hx:x.1.2= [0]) (hm:May E o M a ((x.1.1,[]),x.2)) (hn:M[i+1]?=some n) (ht:n.2=true) (hl:Kn.le ((x.1.1,[]),x.2) n.1):Ok E o d M i x t ⟨7,a,b⟩
  |ret {a b:Int} (hx:x.1.2= [0]) (hl:x.2= []) (hi:i+1=d.length):Ok E o d M i x t ⟨20,a,b⟩
structure Fr(E:Nat->Option Kn)(o:Nat)(d:List Ins)(μ:List La)(pre:Kn)(post:List La):Prop where
  len:μ.length=d.length
  first:∃x,(μ++post)[0]?=some (x,true)/\Kn.le pre x
  ok:∀(i:Nat) (y:Ins),d[i]?=some y->∃x t,μ[i]?=some (x,t)/\Ok E o d (μ++post) i x t y
theorem Ok.mono{E E':Nat->Option Kn}{o i i':Nat}{d d':List Ins}{M M':List La}{x:Kn}{t:Bool}{y:Ins}(h:Ok E o d M i x t y){o':Nat}
    (hE:∀a x,May E o M a x->May E' o' M' a x)
    (hM:∀n:La,M[i+1]?=some n->∃n':La,M'[i'+1]?=some n'/\Kn.le n.1 n'.1/\(n.2=true->n'.2=true))
    (hp:∀q,(if i=0 then none else d[i - 1]?)=some q->(if i'=0 then none else d'[i' - 1]?)=some q) (h0:y.op=20->i'+1=d'.length):Ok E' o' d' M' i' x t y:=by
  have pp:∀ {x':Kn},stA (if i=0 then none else d[i - 1]?) y x=some x'->stA (if i'=0 then none else d'[i' - 1]?) y x=some x':=by
    intro x' hs;cases hq:(if i=0 then none else d[i - 1]?) with
    |some q=>rw [hp q hq];rw [hq] at hs;exact hs
    | none=>
      rw [hq] at hs
      unfold stA lockA at hs ⊢
      by_cases h5:Nd.GD y.op
      · rw [if_pos h5] at hs
        split at hs <;>simp_all
      · rw [if_neg h5] at hs ⊢;exact hs
  cases h with
  | plain hs hn hl h5=>
    obtain⟨n',q1,q2,_⟩:=hM _ hn;exact .plain (pp hs) q1 (hl.le_trans q2) h5
  | jump hx hm hn ht=>
    obtain⟨n',q1,_,q3⟩:=hM _ hn;exact .jump hx (hE _ _ hm) q1 (q3 ht)
  | @zero a b loc n hx hm hn ht hl=>
    obtain⟨n',q1,q2,q3⟩:=hM _ hn;exact .zero (loc:=loc) hx (hE _ _ hm) q1 (q3 ht) (hl.le_trans q2)
  |ret hx hl hi=>exact .ret hx hl (h0 rfl)
theorem Fr.append{E:Nat->Option Kn}{o:Nat}{d1 d2:List Ins}{U1 bV:List La}{pre cE:Kn}{post:List La}(h1:Fr E o d1 U1 pre [(cE,true)])(h2:Fr E (o+d1.length) d2 bV cE post)(hr:∀y∈d1,y.op≠20):
    Fr E o (d1++d2) (U1++bV) pre post:=by
  have e:(U1++bV)++post=U1++(bV++post):=List.append_assoc ..;obtain⟨z,z1,z2⟩:=h2.first;have l1:=h1.len;have look:∀(j:Nat) (n:La),(U1++ [(cE,true)])[j]?=some n->∃n':La,(U1++(bV++post))[j]?=some n'/\Kn.le n.1 n'.1/\(n.2=true->n'.2=true):=by
    intro j n hn;rcases Nat.lt_or_ge j U1.length with q|q
    · rw [List.getElem?_append_left q] at hn
      exact⟨n,by rw [List.getElem?_append_left q];exact hn,Kn.le_refl _,id⟩
    · rw [List.getElem?_append_right q] at hn
      have:j=U1.length:=by
        have:=(List.getElem?_eq_some_iff.1 hn).1;simp at this;omega
      subst this;simp at hn
      subst hn;exact⟨(z,true),by rw [List.getElem?_append_right (Nat.le_refl _),Nat.sub_self];exact z1,z2,fun _=>rfl⟩
  refine⟨by rw [List.length_append,List.length_append,l1,h2.len],?_,fun i y hy=> ?_⟩
  · obtain⟨x,q1,q2⟩:=h1.first;obtain⟨n',r1,r2,r3⟩:=look 0 _ q1;obtain⟨n1,n2⟩:=n';have r3:=r3 rfl;dsimp only at r3
    subst r3;exact⟨n1,by rw [e];exact r1,q2.le_trans r2⟩
  · rw [e];rcases Nat.lt_or_ge i d1.length with q|q
    · rw [List.getElem?_append_left q] at hy
      obtain⟨x,t,m1,m2⟩:=h1.ok i y hy;refine⟨x,t,by rw [List.getElem?_append_left Ab];exact m1,?_⟩;refine m2.mono (fun a x' hm=> ?_) (fun n hn=>look (i+1) n hn) (fun q' cV=> ?_) (fun h0=>absurd h0 (hr y (List.mem_of_getElem? hy)))
      · rcases hm with ⟨j,l',e1,e2,e3⟩|hm
        · obtain⟨n',r1,r2,r3⟩:=look j _ e2;obtain⟨n1,n2⟩:=n';have r3:=r3 rfl;dsimp only at r3
          subst r3;exact .inl ⟨j,n1,e1,r1,e3.le_trans r2⟩
        · exact .inr hm
      · split at cV
        · cases cV
        · rename_i hi0
          rw [if_neg hi0,List.getElem?_append_left Ab];exact cV
    · obtain⟨k,rfl⟩:∃k,i=d1.length+k:=⟨i - d1.length,by omega⟩;rw [List.getElem?_append_right q,Nat.add_sub_cancel_left] at hy
      obtain⟨x,t,m1,m2⟩:=h2.ok k y hy;have at_:∀j,(U1++(bV++post))[d1.length+j]?=(bV++post)[j]?:=by
        intro j;rw [List.getElem?_append_right Ab];congr 1;omega
      refine⟨x,t,by rw [List.getElem?_append_right Ab,show d1.length+k - U1.length=k by omega];exact m1,?_⟩;refine m2.mono (fun a x' hm=> ?_) (fun n hn=>⟨n,by rw [Nat.add_assoc,at_];exact hn,Kn.le_refl _,id⟩) (fun q' cV=> ?_) (fun h0=> ?_)
      · rcases hm with ⟨j,l',e1,e2,e3⟩|hm
        · exact .inl ⟨d1.length+j,l',by rw [e1];congr 1;omega,by rw [at_];exact e2,e3⟩
        · exact .inr hm
      · split at cV
        · cases cV
        · rename_i fe
          rw [if_neg Ab,List.getElem?_append_right Ab,show d1.length+k - 1 - d1.length=k - 1 by omega];exact cV
      · cases m2 with
        |ret _ _ hi=>rw [List.length_append];omega
        | plain hs=>
          exfalso;unfold stA stepA at hs
          rw [if_neg (by unfold goesOn;omega)] at hs
          cases hs
        |jump=>cases h0
        |zero=>cases h0
theorem Fr.weak{E:Nat->Option Kn}{o:Nat}{d:List Ins}{μ:List La}{pre pre' cE mid':Kn}(h:Fr E o d μ pre [(cE,true)])(h1:Kn.le pre' pre)(h2:Kn.le cE mid')(hr:∀y∈d,y.op≠20):Fr E o d μ pre' [(mid',true)]:=by
  have e:Fr E (o+d.length) [] [] cE [(mid',true)]:=⟨rfl,⟨mid',rfl,h2⟩,fun i y hy=>by simp at hy⟩;have:=h.append e hr;rw [List.append_nil,List.append_nil] at this
  obtain⟨x,q1,q2⟩:=this.first;exact⟨this.len,⟨x,q1,h1.le_trans q2⟩,this.ok⟩
theorem Fr.close{E E':Nat->Option Kn}{o:Nat}{d:List Ins}{μ:List La}{pre:Kn}{post:List La}(h:Fr E o d μ pre post)(hE:∀k x,E k=some x->May E' o (μ++post) ((k:Nat):Int) x):Fr E' o d μ pre post:=by
  refine⟨h.len,h.first,fun i y hy=> ?_⟩;obtain⟨x,t,m1,m2⟩:=h.ok i y hy;refine⟨x,t,m1,m2.mono (fun a x' hm=> ?_) (fun n hn=>⟨n,hn,Kn.le_refl _,id⟩) (fun _ q=>q) (fun h0=> ?_)⟩
  · rcases hm with hm|⟨k,l',e1,e2,e3⟩
    · exact .inl hm
    · subst e1;rcases hE k l' e2 with ⟨j,l2,f1,f2,f3⟩|⟨j,l2,f1,f2,f3⟩
      · exact .inl ⟨j,l2,f1,f2,e3.le_trans f3⟩
      · exact .inr ⟨j,l2,f1,f2,e3.le_trans f3⟩
  · cases m2 with
    |ret _ _ hi=>exact hi
    | plain hs=>
      exfalso;unfold stA stepA at hs
      rw [if_neg (by unfold goesOn;omega)] at hs
      cases hs
    |jump=>cases h0
    |zero=>cases h0
theorem Fr.more{E:Nat->Option Kn}{o:Nat}{d:List Ins}{μ:List La}{pre:Kn}{post:List La}(h:Fr (fun _=>none) o d μ pre post):Fr E o d μ pre post:=h.close fun k x q=>by cases q
theorem runL_at:∀ {l:List Ins} {p:Option Ins} {x z:Kn} {μ:List La},runL p l x=some (μ,z)->μ.length=l.length/\(∃t,(μ++ [(z,true)])[0]?=some (x,t)/\(l= []∨p=none->t=true))/\
    ∀(i:Nat) (y:Ins),l[i]?=some y->∃(xi dJ:Kn) (t:Bool) (n:La),μ[i]?=some (xi,t)/\stA (if i=0 then p else l[i - 1]?) y xi=some dJ/\(μ++ [(z,true)])[i+1]?=some n/\n.1=dJ/\(t=true->i=0/\p=none)
  | [],p,x,z,μ,h=>by
    cases h
    exact⟨rfl,⟨true,rfl,fun _=>rfl⟩,fun i y hy=>by simp at hy⟩
  | y0 :: l,p,x,z,μ,h=>by
    unfold runL at h
    split at h
    · cases h
    · rename_i x' hx
      split at h
      · cases h
      · rename_i μ' z' hz
        cases h
        obtain⟨a1,⟨t,a2,a3⟩,a4⟩:=runL_at hz;refine⟨by simp [a1],⟨p.isNone,rfl,fun q=>by rcases q with q|q;cases q;subst q;rfl⟩,fun i y hy=> ?_⟩;cases i with
        | zero=>
          simp at hy;subst hy
          exact⟨x,x',p.isNone,(x',t),rfl,hx,a2,rfl,fun q=>⟨rfl,by simpa using q⟩⟩
        | succ i=>
          obtain⟨xi,dJ,t',n,b1,b2,b3,b4,b5⟩:=a4 i y (by simpa using hy);refine⟨xi,dJ,t',n,by simpa using b1,?_,by simpa using b3,b4,fun q=> ?_⟩
          · rw [if_neg Ab];cases i with
            |zero=>simpa using b2
            |succ i=>simpa using b2
          · have:=(b5 q).2;cases this
theorem Fr.line{E:Nat->Option Kn}{o:Nat}{l:List Ins}{x z:Kn}{μ:List La}(h:runL none l x=some (μ,z)):Fr E o l μ x [(z,true)]:=by
  obtain⟨a1,⟨t,a2,a3⟩,a4⟩:=runL_at h;refine⟨a1,⟨x,by rw [a2,a3 (.inr rfl)],Kn.le_refl _⟩,fun i y hy=> ?_⟩;obtain⟨xi,dJ,t',n,b1,b2,b3,b4,b5⟩:=a4 i y hy;refine⟨xi,t',b1,.plain (x':=dJ) b2 b3 (by rw [b4];exact Kn.le_refl _) fun h5=> ?_⟩;cases t' with
  |false=>rfl
  | true=>
    obtain⟨rfl,_⟩:=b5 rfl;exfalso;rw [if_pos rfl] at b2
    unfold stA lockA at b2
    rw [if_pos h5] at b2
    split at b2 <;>simp_all
end Go.Proofs.YtcnmnmjmpocepaaGreatDoor
end
section
namespace Go.Proofs.YtcnmnmjmpocepaaGreatDoor
open Kd
theorem Fr.end_{E:Nat->Option Kn}{o:Nat}{d:List Ins}{μ:List La}{pre P:Kn}(h:Fr E o d μ pre [(P,true)]):(μ++ [(P,true)])[d.length]?=some (P,true):=by
  rw [<-h.len,List.getElem?_append_right (Nat.le_refl _),Nat.sub_self];rfl
theorem Fr.zero{E:Nat->Option Kn}{o k:Nat}{b:Int}{loc:List Int}{lk:List Int}{z w:Kn}(hE:E k=some w)(hw:Kn.le ((loc,[]),lk) w)(hz:Kn.le ((loc,[]),lk) z):
    Fr E o [⟨7,(k:Int),b⟩] [(((loc,[0]),lk),true)] ((loc,[0]),lk) [(z,true)]:=
  ⟨rfl,⟨_,rfl,Kn.le_refl _⟩,fun i y hy=>by
    cases i with
    | zero=>
      simp at hy;subst hy
      exact⟨_,_,rfl,.zero (loc:=loc) rfl (.inr ⟨k,w,rfl,hE,hw⟩) rfl rfl hz⟩
    |succ i=>simp at hy⟩
theorem Fr.jump{E:Nat->Option Kn}{o k:Nat}{b:Int}{x z w:Kn}(hx:x.1.2= [])(hE:E k=some w)(hw:Kn.le x w):Fr E o [⟨6,(k:Int),b⟩] [(x,true)] x [(z,true)]:=
  ⟨rfl,⟨_,rfl,Kn.le_refl _⟩,fun i y hy=>by
    cases i with
    | zero=>
      simp at hy;subst hy
      exact⟨_,_,rfl,.jump hx (.inr ⟨k,w,rfl,hE,hw⟩) rfl rfl⟩
    |succ i=>simp at hy⟩
def lineOk(l:List Ins)(x z:Kn):Bool:=match runL none l x with
  |none=>false
  |some (_,z')=>decide (z'=z) && l.all fun y=>decide (y.op≠20)
theorem Fr.of{E:Nat->Option Kn}{o:Nat}{l:List Ins}{x z:Kn}(h:lineOk l x z=true):(∀y∈l,y.op≠20)/\∃μ,Fr E o l μ x [(z,true)]:=by
  unfold lineOk at h
  split at h
  · cases h
  · rename_i μ z' hr
    rw [Bool.and_eq_true,decide_eq_true_iff,List.all_eq_true] at h
    obtain⟨rfl,h2⟩:=h;exact⟨fun y hy=>by simpa using h2 y hy,μ,Fr.line hr⟩
def locs(l:Nat):List Int:= [1,2,0,0,1]++(List.replicate l 0++List.replicate (3 - l) (-1))
def PK(l:Nat)(lk:List Int):Kn:=((locs l,[]),lk)
def lks:List (List Int):= [[],[0],[1],[4],[0,1],[0,4],[1,0],[1,4],[4,0],[4,1],[0,1,4],[0,4,1],[1,0,4],[1,4,0],[4,0,1],[4,1,0]]
structure SOk(s:Mk)(lk:List Int):Prop where
  GD:s.locked.length=5
  mem:lk∈lks
  lk:∀k,k<5->s.locked.getD k false=decide ((k:Int)∈lk)
  loops:s.loops≤3
structure Made(s s':Mk)(lk:List Int)(d:List Ins):Prop where
  code:s'.code=s.code++d
  no:∀y∈d,y.op≠20
  fr:∃μ,Fr (fun _=>none) s.code.length d μ (PK s.loops lk) [(PK s.loops lk,true)]
  loops:s'.loops=s.loops
  lock:s'.locked=s.locked
def Makes(f:Mk->Mk):Prop:=∀s lk,SOk s lk->∃d,Made s (f s) lk d
theorem SOk.of{s s':Mk}{lk:List Int}(h:SOk s lk)(h1:s'.loops=s.loops)(h2:s'.locked=s.locked):SOk s' lk:=⟨by rw [h2];exact h.GD,h.mem,by rw [h2];exact h.lk,by rw [h1];exact h.loops⟩
theorem Made.trans{s t u:Mk}{lk:List Int}{d e:List Ins}(h:Made s t lk d)(h':Made t u lk e):Made s u lk (d++e):=by
  obtain⟨μ,f1⟩:=h.fr;obtain⟨ν,f2⟩:=h'.fr;refine⟨by rw [h'.code,h.code,List.append_assoc],fun y hy=> ?_,⟨μ++ν,?_⟩,h'.loops.trans h.loops,h'.lock.trans h.lock⟩
  · rcases List.mem_append.1 hy with q|q
    · exact h.no y q
    · exact h'.no y q
  · rw [h.loops,h.code,List.length_append] at f2
    exact f1.append f2 h.no
theorem Made.refl{s s':Mk}{lk:List Int}(h1:s'.code=s.code)(h2:s'.loops=s.loops)(h3:s'.locked=s.locked):Made s s' lk []:=
  ⟨by rw [h1,List.append_nil],fun y hy=>by simp at hy,⟨[],rfl,⟨_,rfl,Kn.le_refl _⟩,fun i y hy=>by simp at hy⟩,h2,h3⟩
theorem Made.put{s:Mk}{lk:List Int}{l:List (Int×Int)}(h:lineOk (CJ l) (PK s.loops lk) (PK s.loops lk)=true):Made s (s.put l) lk (CJ l):=
  ⟨rfl,(Fr.of (E:=fun _=>none) (o:=0) h).1,(Fr.of h).2,rfl,rfl⟩
theorem Made.from{s t u:Mk}{lk:List Int}{d:List Ins}(h:Made t u lk d)(h1:t.code=s.code)(h2:t.loops=s.loops)(h3:t.locked=s.locked):Made s u lk d:=
  ⟨by rw [h.code,h1],h.no,by rw [<-h1,<-h2];exact h.fr,h.loops.trans h2,h.lock.trans h3⟩
theorem put_put(s:Mk)(l l2:List (Int×Int)):(s.put l).put l2=s.put (l++l2):=by simp [Mk.put,CJ]
theorem setA_at(p v:List Ins)(y:Ins)(a:Int):L8 (p++y::v) p.length a=p++⟨y.op,a,y.b⟩::v:=by
  have:(p++y::v)[p.length]?=some y:=by simp
  unfold L8;rw [this];simp
theorem lks_pos:∀lk∈lks,∀z∈lk,(0:Int)≤z:=by decide
theorem lks_nat{lk:List Int}(h:lk∈lks)(k:Nat):k∈lk.map Int.toNat↔(k:Int)∈lk:=by
  constructor
  · intro q;obtain⟨z,hz,e⟩:=List.mem_map.1 q;have:=lks_pos lk h z hz;rw [show(k:Int)=z by omega];exact hz
  · intro q;exact List.mem_map.2 ⟨_,q,by omega⟩
theorem ln_const:∀l<4,∀lk∈lks,∀n<5,lineOk (CJ [(0,(n:Nat)),(3,2)]) (PK l lk) (PK l lk)=true:=by decide +kernel
theorem ln_add:∀l<4,∀lk∈lks,lineOk (CJ [(2,2),(2,3),(4,0),(3,3)]) (PK l lk) (PK l lk)=true:=by decide +kernel
theorem ln_out:∀l<4,∀lk∈lks,lineOk (CJ [(2,3),(19,0)]) (PK l lk) (PK l lk)=true:=by decide +kernel
theorem ln_out2:∀l<4,∀lk∈lks,lineOk (CJ [(2,2),(19,0)]) (PK l lk) (PK l lk)=true:=by decide +kernel
theorem ln_get:∀l<4,∀lk∈lks,∀n<2,lineOk (CJ [(2,0),(10,(n:Nat)),(3,2)]) (PK l lk) (PK l lk)=true:=by decide +kernel
theorem ln_set:∀l<4,∀lk∈lks,∀n<2,lineOk (CJ [(2,0),(2,3),(11,(n:Nat))]) (PK l lk) (PK l lk)=true:=by decide +kernel
theorem ln_set2:∀l<4,∀lk∈lks,lineOk (CJ [(2,1),(2,0)]++ [⟨11,1,1⟩]) (PK l lk) (PK l lk)=true:=by decide +kernel
theorem ln_waits:∀l<4,∀lk∈lks,∀n<5,∀k<5,(!decide ((k:Nat)∈lk.map Int.toNat) ||lineOk (CJ (Fb n k)) (PK l lk) (PK l lk))=true:=by decide +kernel
theorem ln_lock:∀l<4,∀lk∈lks,∀k∈([0,1,4]:List Nat),(decide (k∈lk.map Int.toNat) ||((decide (lk++ [(k:Int)]∈lks) && lineOk (CJ [(2,(k:Nat)),(12,0)]) (PK l lk) (PK l (lk++ [(k:Int)]))) && lineOk (CJ [(2,(k:Nat)),(13,0)]) (PK l (lk++ [(k:Int)])) (PK l lk)))=true:=by decide +kernel
theorem ln_when:∀l<4,∀lk∈lks,lineOk (CJ [(2,2)]) (PK l lk) ((locs l,[0]),lk)=true/\lineOk (CJ [(2,2),(3,2)]) (PK l lk) (PK l lk)=true:=by decide +kernel
theorem ln_loop:∀l<3,∀lk∈lks,(∀n<2,lineOk (CJ [(0,1+(n:Nat)),(3,5+(l:Nat))]) (PK l lk) (PK (l+1) lk)=true)/\lineOk (CJ [(2,5+(l:Nat))]) (PK (l+1) lk) ((locs (l+1),[0]),lk)=true/\
    lineOk (CJ [(2,5+(l:Nat)),(0,1),(5,0),(3,5+(l:Nat))]) (PK (l+1) lk) (PK (l+1) lk)=true/\lineOk (CJ [(0,0),(3,5+(l:Nat))]) (PK (l+1) lk) (PK (l+1) lk)=true:=by decide +kernel
theorem ln_seven:∀lk∈lks,lineOk (CJ [(0,7),(3,2)]) (PK 3 lk) (PK 3 lk)=true:=by decide +kernel
theorem ln_call:∀l<4,∀lk∈lks,∀n<2,lineOk (CJ [(0,5),(3,3)]) (PK l lk) (PK l lk)=true/\lineOk (CJ [(2,0),(2,1),(17+(n:Nat),1),(3,2)]) (PK l lk) (PK l lk)=true/\lineOk (CJ [(2,0),(2,1),(2,2),(2,2),(17+(n:Nat),2),(3,2)]) (PK l lk) (PK l lk)=true:=by decide +kernel
theorem win_locs:∀l<3,Win (locs (l+1),[]) (locs l,[]):=by unfold Win;decide +kernel
section
variable {s:Mk} {lk:List Int} (h:SOk s lk)
include h
theorem lock_made{rec:Mk->Mk}(hr:Makes rec){k:Nat}(hk:k∈ [0,1,4]):∃d,Made s (FA rec k s) lk d:=by
  have hk5:k<5:=by simp at hk;omega
  unfold FA;by_cases hl:s.locked.getD k false=true
  · rw [if_pos hl];exact⟨_,Made.put (ln_out2 _ (by have:=h.loops;omega) _ h.mem)⟩
  · rw [if_neg hl];have Nn:s.locked.getD k false=false:=by simpa using hl
    have hn:(k:Int)∉lk:=by rw [h.lk k hk5] at hl;simpa using hl
    have q:=ln_lock s.loops (by have:=h.loops;omega) lk h.mem k hk;rw [Bool.or_eq_true,decide_eq_true_iff,lks_nat h.mem,Bool.and_eq_true,Bool.and_eq_true,decide_eq_true_iff] at q
    obtain⟨⟨q1,q2⟩,q3⟩:=q.resolve_left hn;have JZ:SOk ((s.put [(2,(k:Int)),(12,0)]).lock k true) (lk++ [(k:Int)]):=by
      refine⟨by simp [Mk.lock,Mk.put,h.GD],q1,fun j hj=> ?_,h.loops⟩;show(s.locked.set k true).getD j false=_;by_cases e:j=k
      · subst e;simp [List.getD_eq_getElem?_getD,h.GD,hj]
      · have:=h.lk j hj;rw [List.getD_eq_getElem?_getD] at this ⊢
        rw [List.getElem?_set_ne Ab,this]
        congr 1
        simp;omega
    obtain⟨d,c1,c2,⟨μ,c3⟩,c4,c5⟩:=hr _ _ JZ;obtain⟨n1,U1,f1⟩:=Fr.of (E:=fun _=>none) (o:=s.code.length) q2;obtain⟨n3,ji,f3⟩:=Fr.of (E:=fun _=>none) (o:=s.code.length+(CJ [(2,(k:Int)),(12,0)]++d).length) q3;have e1:((s.put [(2,(k:Int)),(12,0)]).lock k true).code.length=s.code.length+(CJ [(2,(k:Int)),(12,0)]).length:=by simp [Mk.lock,Mk.put]
    rw [e1] at c3
    have nn:∀y∈CJ [(2,(k:Int)),(12,0)]++d,y.op≠20:=fun y hy=>(List.mem_append.1 hy).elim (n1 y) (c2 y)
    refine⟨(CJ [(2,(k:Int)),(12,0)]++d)++CJ [(2,(k:Int)),(13,0)],?_,fun y hy=>(List.mem_append.1 hy).elim (nn y) (n3 y),⟨_,(f1.append c3 n1).append f3 nn⟩,c4,?_⟩
    · show((rec _).code++_)=_;rw [c1];simp [Mk.lock,Mk.put]
    · show(rec _).locked.set k false=s.locked;rw [c5];exact RE Nn
theorem when_made{rec:Mk->Mk}(hr:Makes rec):∃d,Made s (Jj rec s) lk d:=by
  obtain⟨q1,q2⟩:=ln_when s.loops (by have:=h.loops;omega) lk h.mem;obtain⟨d,c1,c2,⟨μ,c3⟩,c4,c5⟩:=hr (s.put [(2,2),(7,0)]) lk (h.of rfl rfl);have e1:(s.put [(2,2),(7,0)]).code.length=s.code.length+(1+1):=by simp [Mk.put,CJ]
  rw [e1] at c3
  obtain⟨T,hT⟩:∃T,T=s.code.length+(2+d.length):=⟨_,rfl⟩;obtain⟨n1,U1,f1⟩:=Fr.of (E:=fun a=>if a=T then some (PK s.loops lk) else none) (o:=s.code.length) q1;have f2:Fr (fun a=>if a=T then some (PK s.loops lk) else none) (s.code.length+1) [⟨7,(T:Int),0⟩] [(((locs s.loops,[0]),lk),true)] ((locs s.loops,[0]),lk) [(PK s.loops lk,true)]:=
    Fr.zero (w:=PK s.loops lk) (if_pos rfl) (Kn.le_refl _) (Kn.le_refl _)
  have nz:∀y∈([⟨7,(T:Int),0⟩]:List Ins),y.op≠20:=by simp
  have f12:=f1.append f2 n1;have n12:∀y∈CJ [(2,2)]++([⟨7,(T:Int),0⟩]:List Ins),y.op≠20:=fun y hy=>(List.mem_append.1 hy).elim (n1 y) (nz y)
  have f123:=f12.append (c3.more (E:=fun a=>if a=T then some (PK s.loops lk) else none)) n12;have fc:=f123.close (E':=fun _=>none) fun k x hk=>by
    split at hk
    · cases hk
      rename_i ek
      exact .inl ⟨_,_,by rw [ek,hT];simp [CJ];omega,f123.end_,Kn.le_refl _⟩
    · cases hk
  have n123:∀y∈(CJ [(2,2)]++([⟨7,(T:Int),0⟩]:List Ins))++d,y.op≠20:=fun y hy=>(List.mem_append.1 hy).elim (n12 y) (c2 y)
  obtain⟨n3,ji,f3⟩:=Fr.of (E:=fun _=>none) (o:=s.code.length+((CJ [(2,2)]++([⟨7,(T:Int),0⟩]:List Ins))++d).length) q2;refine⟨_,?_,fun y hy=>(List.mem_append.1 hy).elim (n123 y) (n3 y),⟨_,fc.append f3 n123⟩,c4,c5⟩;unfold Jj;show(L8 (rec _).code (s.code.length+1) ((rec _).code.length:Int))++CJ [(2,2),(3,2)]=_;rw [c1];have e2:(s.put [(2,2),(7,0)]).code++d=(s.code++CJ [(2,2)])++(⟨7,0,0⟩:Ins)::d:=by simp [Mk.put,CJ]
  have e3:(s.code++CJ [(2,2)]).length=s.code.length+1:=by simp [CJ]
  rw [e2,<-e3,setA_at];have e4:((s.code++CJ [(2,2)]++(⟨7,0,0⟩:Ins)::d).length:Int)=(T:Int):=by rw [hT];simp [CJ];omega
  rw [e4];simp
theorem loop_made{b:List Nat}{rec:Mk->Mk}(hr:Makes rec):∃d,Made s (HZ b rec s) lk d:=by
  unfold HZ;by_cases h3:s.loops=3
  · rw [if_pos h3];exact⟨_,Made.put (by rw [h3];exact ln_seven _ h.mem)⟩
  · rw [if_neg h3];dsimp only;have hl3:s.loops<3:=by have:=h.loops;omega
    obtain⟨q1,q2,q3,q4⟩:=ln_loop s.loops hl3 lk h.mem;have q1:=q1 (CK b s.at_%2) Ab;obtain⟨K,hK⟩:∃K:Int,K=5+(s.loops:Nat):=⟨_,rfl⟩;rw [<-hK] at q1 q2 q3 q4 ⊢
    obtain⟨B,hB⟩:∃B:Int,B=1+(CK b s.at_%2:Nat):=⟨_,rfl⟩;rw [<-hB] at q1 ⊢
    generalize JZ:(({s with loops:=s.loops+1}:Mk).nx).put [(0,B),(3,K)]=s1
    have g1:s1.code=s.code++CJ [(0,B),(3,K)]:=by subst JZ;rfl
    have g2:s1.loops=s.loops+1:=by subst JZ;rfl
    have g3:s1.locked=s.locked:=by subst JZ;rfl
    have gl:s1.code.length=s.code.length+2:=by rw [g1];simp [CJ]
    have OV:SOk (s1.put [(2,K),(7,0)]) lk:=⟨by show s1.locked.length=5;rw [g3];exact h.GD,h.mem,by show ∀k,k<5->s1.locked.getD k false=_;rw [g3];exact h.lk,by show s1.loops≤3;omega⟩;obtain⟨d,c1,c2,⟨μ,c3⟩,c4,c5⟩:=hr _ lk OV;have e1:(s1.put [(2,K),(7,0)]).code.length=s1.code.length+(1+1):=by simp [Mk.put,CJ]
    have e1':(s1.put [(2,K),(7,0)]).loops=s.loops+1:=g2;rw [e1,e1'] at c3
    obtain⟨T,hT⟩:∃T,T=s1.code.length+(2+d.length+5):=⟨_,rfl⟩;obtain⟨o,ho⟩:∃o,o=s1.code.length:=⟨_,rfl⟩;obtain⟨E,hE⟩:∃E:Nat->Option Kn,E=fun a=>if a=T then some (PK (s.loops+1) lk) else if a=o then some (PK (s.loops+1) lk) else none:=⟨_,rfl⟩
    have hE1:E T=some (PK (s.loops+1) lk):=by rw [hE];exact if_pos rfl
    have hE2:E o=some (PK (s.loops+1) lk):=by rw [hE];dsimp only;rw [if_neg Ab,if_pos rfl]
    obtain⟨n1,U1,f1⟩:=Fr.of (E:=E) (o:=o) q2;have f2:Fr E (o+1) [⟨7,(T:Int),0⟩] [(((locs (s.loops+1),[0]),lk),true)] ((locs (s.loops+1),[0]),lk) [(PK (s.loops+1) lk,true)]:=Fr.zero hE1 (Kn.le_refl _) (Kn.le_refl _);have nz:∀y∈([⟨7,(T:Int),0⟩]:List Ins),y.op≠20:=by simp
    have f12:=f1.append f2 n1;have n12:∀y∈CJ [(2,K)]++([⟨7,(T:Int),0⟩]:List Ins),y.op≠20:=fun y hy=>(List.mem_append.1 hy).elim (n1 y) (nz y)
    rw [<-ho] at c3
    have f123:=f12.append (c3.more (E:=E)) n12;have n123:∀y∈(CJ [(2,K)]++([⟨7,(T:Int),0⟩]:List Ins))++d,y.op≠20:=fun y hy=>(List.mem_append.1 hy).elim (n12 y) (c2 y)
    obtain⟨n4,mT,f4⟩:=Fr.of (E:=E) (o:=o+((CJ [(2,K)]++([⟨7,(T:Int),0⟩]:List Ins))++d).length) q3;have f1234:=f123.append f4 n123;have n1234:∀y∈((CJ [(2,K)]++([⟨7,(T:Int),0⟩]:List Ins))++d)++CJ [(2,K),(0,1),(5,0),(3,K)],y.op≠20:=fun y hy=>(List.mem_append.1 hy).elim (n123 y) (n4 y)
    have f5:Fr E (o+(((CJ [(2,K)]++([⟨7,(T:Int),0⟩]:List Ins))++d)++CJ [(2,K),(0,1),(5,0),(3,K)]).length) [⟨6,(o:Int),0⟩] [(PK (s.loops+1) lk,true)] (PK (s.loops+1) lk) [(PK (s.loops+1) lk,true)]:=Fr.jump rfl hE2 (Kn.le_refl _);have nj:∀y∈([⟨6,(o:Int),0⟩]:List Ins),y.op≠20:=by simp
    have fl:=f1234.append f5 n1234;have fc:=fl.close (E':=fun _=>none) fun k x hk=>by
      rw [hE] at hk
      dsimp only at hk
      split at hk
      · cases hk
        rename_i ek
        exact .inl ⟨_,_,by rw [ek,hT,ho];simp [CJ];omega,fl.end_,Kn.le_refl _⟩
      · split at hk
        · cases hk
          rename_i ek
          obtain⟨x,r1,r2⟩:=fl.first;exact .inl ⟨0,x,by rw [ek];rfl,r1,r2⟩
        · cases hk
    have nl:∀y∈(((CJ [(2,K)]++([⟨7,(T:Int),0⟩]:List Ins))++d)++CJ [(2,K),(0,1),(5,0),(3,K)])++([⟨6,(o:Int),0⟩]:List Ins),y.op≠20:=fun y hy=>(List.mem_append.1 hy).elim (n1234 y) (nj y)
    generalize hL:(((CJ [(2,K)]++([⟨7,(T:Int),0⟩]:List Ins))++d)++CJ [(2,K),(0,1),(5,0),(3,K)])++([⟨6,(o:Int),0⟩]:List Ins)=L at fc nl
    obtain⟨n0,mV,f0⟩:=Fr.of (E:=fun _=>none) (o:=s.code.length) q1;have hlen0:s.code.length+(CJ [(0,B),(3,K)]).length=o:=by rw [ho,gl];rfl
    have f01:=f0.append (by rw [hlen0];exact fc) n0;have n01:∀y∈CJ [(0,B),(3,K)]++L,y.op≠20:=fun y hy=>(List.mem_append.1 hy).elim (n0 y) (nl y)
    obtain⟨n6,mS,f6⟩:=Fr.of (E:=fun _=>none) (o:=s.code.length+(CJ [(0,B),(3,K)]++L).length) q4;have fall:=(f01.append f6 n01).weak (pre':=PK s.loops lk) (mid':=PK s.loops lk) (Kn.le_refl _) ⟨win_locs _ hl3,rfl⟩ (fun y hy=>(List.mem_append.1 hy).elim (n01 y) (n6 y));refine⟨_,?_,fun y hy=>(List.mem_append.1 hy).elim (n01 y) (n6 y),⟨_,fall⟩,?_,?_⟩
    · show(L8 ((rec _).code++CJ [(2,K),(0,1),(5,0),(3,K),(6,(s1.code.length:Int))]) (s1.code.length+1) (((rec _).code++CJ [(2,K),(0,1),(5,0),(3,K),(6,(s1.code.length:Int))]).length:Int))++CJ [(0,0),(3,K)]=_;rw [c1];have e2:(s1.put [(2,K),(7,0)]).code++d++CJ [(2,K),(0,1),(5,0),(3,K),(6,(s1.code.length:Int))]=(s1.code++CJ [(2,K)])++(⟨7,0,0⟩:Ins)::(d++CJ [(2,K),(0,1),(5,0),(3,K),(6,(o:Int))]):=by rw [ho];simp [Mk.put,CJ]
      have e3:(s1.code++CJ [(2,K)]).length=s1.code.length+1:=by simp [CJ]
      have e4:((s1.code++CJ [(2,K)]++(⟨7,0,0⟩:Ins)::(d++CJ [(2,K),(0,1),(5,0),(3,K),(6,(o:Int))])).length:Int)=(T:Int):=by rw [hT];simp [CJ];omega
      rw [e2,e4,<-e3,setA_at,g1,<-hL];simp [CJ]
    · show(rec _).loops - 1=s.loops;rw [c4,e1'];rfl
    · show(rec _).locked=s.locked;rw [c5];exact g3
theorem calls_made{own n:Nat}(ho:own≤2)(hn:n<2):∃d,Made s (FT own (17+(n:Nat)) s) lk d:=by
  obtain⟨q1,q2,q3⟩:=ln_call s.loops (by have:=h.loops;omega) lk h.mem n hn;rcases(show own=0∨own=1∨own=2 by omega) with rfl|rfl|rfl
  · have e:FT 0 (17+(n:Nat)) s=s.put [(2,0),(2,1),(17+(n:Nat),1),(3,2)]:=by
      show(s.put [(2,0),(2,1)]).put [(17+(n:Nat),1),(3,2)]=_;rw [put_put];rfl
    rw [e];exact⟨_,Made.put q2⟩
  · have e:FT 1 (17+(n:Nat)) s=s.put [(2,0),(2,1),(2,2),(2,2),(17+(n:Nat),2),(3,2)]:=by
      show(((s.put [(2,0),(2,1)]).put [(2,2)]).put [(2,2)]).put [(17+(n:Nat),2),(3,2)]=_;rw [put_put,put_put,put_put];rfl
    rw [e];exact⟨_,Made.put q3⟩
  · exact⟨_,Made.put q1⟩
theorem waits_made{n:Nat}:∃d,Made s (FG n s) lk d:=by
  unfold FG
  split
  · exact⟨_,Made.refl rfl rfl rfl⟩
  · rename_i k hk
    obtain⟨k1,k2,_⟩:=List.findIdx?_eq_some_iff_getElem.1 hk;have hk5:k<5:=by have:=h.GD;omega
    have hm:(k:Int)∈lk:=by
      have:=h.lk k hk5;rw [List.getD_eq_getElem?_getD,List.getElem?_eq_getElem k1] at this
      have k2:s.locked[k]=true:=k2;rw [k2] at this
      simpa using this.symm
    have e:Fb n k=Fb (n%5) k:=by unfold Fb;rw [Nat.mod_mod]
    rw [e];have q:=ln_waits s.loops (by have:=h.loops;omega) _ h.mem _ (Nat.mod_lt n Ae) k hk5;rw [Bool.or_eq_true,Bool.not_eq_true',decide_eq_false_iff_not,lks_nat h.mem] at q
    exact⟨_,Made.put (q.resolve_left fun q=>q hm)⟩
theorem fields_made{n:Nat}:∃d,Made s (DA n s) lk d:=by
  have hl:s.loops<4:=by have:=h.loops;omega
  unfold DA
  split
  · exact⟨_,Made.put (ln_get _ hl _ h.mem _ (Nat.mod_lt _ Ae))⟩
  · exact⟨_,Made.put (ln_get _ hl _ h.mem _ (Nat.mod_lt _ Ae))⟩
  · exact⟨_,Made.put (ln_set _ hl _ h.mem _ (Nat.mod_lt _ Ae))⟩
  · exact⟨_,Made.put (ln_set _ hl _ h.mem _ (Nat.mod_lt _ Ae))⟩
  · have q:=ln_set2 _ hl _ h.mem;exact⟨_,by rw [List.append_assoc],(Fr.of (E:=fun _=>none) (o:=0) q).1,(Fr.of q).2,rfl,rfl⟩
end
theorem stmt_made{b:List Nat}{own:Nat}(ho:own≤2){rec:Mk->Mk}(low:Bool)(hr:low=false->Makes rec):Makes (Iq b own rec low):=by
  intro s lk h;have WJ:low=true->(if low=true then CK b s.at_%6 else CK b s.at_)%12<6:=by intro q;rw [if_pos q];omega
  have hh:¬(if low=true then CK b s.at_%6 else CK b s.at_)%12<6->Makes rec:=by
    intro q;apply hr;cases low with|false=>rfl|true=>exact absurd (WJ rfl) q
  have hl:s.loops<4:=by have:=h.loops;omega
  have h1:SOk s.nx lk:=h.of rfl rfl;have h2:SOk s.nx.nx lk:=h.of rfl rfl;have put:∀ {t u:Mk} {d:List Ins},Made t u lk d->t.code=s.code->t.loops=s.loops->t.locked=s.locked->∃d,Made s u lk d:=fun m a b c=>⟨_,m.from a b c⟩
  have put2:∀ {t u:Mk},(∃d,Made t u lk d)->t.code=s.code->t.loops=s.loops->t.locked=s.locked->∃d,Made s u lk d:=fun⟨_,m⟩ a b c=>⟨_,m.from a b c⟩
  unfold Iq;dsimp only
  generalize (if low=true then CK b s.at_%6 else CK b s.at_)=n at*
  split
  · exact put (s.nx.nx|>fun _=>Made.put (s:=s.nx.nx) (ln_const _ hl _ h.mem _ (Nat.mod_lt _ Ae))) rfl rfl rfl
  · exact put (Made.put (s:=s.nx) (ln_add _ hl _ h.mem)) rfl rfl rfl
  · exact put (Made.put (s:=s.nx) (ln_out _ hl _ h.mem)) rfl rfl rfl
  · exact put2 (fields_made h2) rfl rfl rfl
  · exact put2 (fields_made h2) rfl rfl rfl
  · exact put2 (waits_made h2) rfl rfl rfl
  · exact put2 (lock_made h1 (hh Ab) Ae) rfl rfl rfl
  · exact put2 (lock_made h1 (hh Ab) Ae) rfl rfl rfl
  · exact put2 (lock_made h1 (hh Ab) Ae) rfl rfl rfl
  · exact put2 (when_made h1 (hh Ab)) rfl rfl rfl
  · exact put2 (loop_made h1 (hh Ab)) rfl rfl rfl
  · exact put2 (calls_made h1 ho (Nat.mod_lt _ Ae)) rfl rfl rfl
theorem run_made{f:Mk->Mk}(hf:Makes f):∀i,Makes (NL f i)
  |0=>fun s lk h=>⟨_,Made.refl rfl rfl rfl⟩
  | i+1=>fun s lk h=>by
    unfold NL
    split
    · obtain⟨d,m⟩:=hf s lk h;obtain⟨e,m2⟩:=run_made hf i (f s) lk (h.of m.loops m.lock);exact⟨_,m.trans m2⟩
    · exact⟨_,Made.refl rfl rfl rfl⟩
theorem block_made(b:List Nat){own:Nat}(ho:own≤2):∀d,Makes (F9 b own d)
  | 0=>fun s lk h=>by
    obtain⟨d,m⟩:=run_made (stmt_made (b:=b) ho (rec:=id) true (fun h=>by cases h)) (CK b s.at_%3+1) s.nx lk (h.of rfl rfl);exact⟨d,m.from rfl rfl rfl⟩
  | k+1=>fun s lk h=>by
    obtain⟨d,m⟩:=run_made (stmt_made (b:=b) ho false (fun _=>block_made b ho k)) (CK b s.at_%3+1) s.nx lk (h.of rfl rfl);exact⟨d,m.from rfl rfl rfl⟩
theorem code_made(b:List Nat){own:Nat}(ho:own≤2):∃μ,Fr (fun _=>none) 0 (DP b own) μ ((EC ⟨IK own,8,6,[]⟩ 8,[]),[]) []:=by
  have hb:lineOk (E6 own).code ((EC ⟨IK own,8,6,[]⟩ 8,[]),[]) (PK 0 [])=true/\(E6 own).loops=0/\(E6 own).locked=List.replicate 5 false:=by
    rcases(show own=0∨own=1∨own=2 by omega) with rfl|rfl|rfl <;>decide +kernel
  obtain⟨b1,b2,b3⟩:=hb;obtain⟨d,c1,c2,⟨μ,c3⟩,c4,c5⟩:=block_made b ho 3 (E6 own) [] ⟨by rw [b3];rfl,by decide,by rw [b3];decide,by omega⟩;rw [b2] at c3
  obtain⟨n1,U1,f1⟩:=Fr.of (E:=fun _=>none) (o:=0) b1;rw [<-Nat.zero_add (E6 own).code.length] at c3
  have f2:=f1.append c3 n1;have n2:∀y∈(E6 own).code++d,y.op≠20:=fun y hy=>(List.mem_append.1 hy).elim (n1 y) (c2 y)
  obtain⟨n3,ji,f3⟩:=Fr.of (E:=fun _=>none) (o:=0+((E6 own).code++d).length) (ln_when 0 Ae [] Ae).1;have f4:=f2.append f3 n2;have n4:∀y∈((E6 own).code++d)++CJ [(2,2)],y.op≠20:=fun y hy=>(List.mem_append.1 hy).elim (n2 y) (n3 y)
  have f5:Fr (fun _=>none) (0+(((E6 own).code++d)++CJ [(2,2)]).length) [⟨20,0,0⟩] [(((locs 0,[0]),[]),true)] ((locs 0,[0]),[]) []:=
    ⟨rfl,⟨_,rfl,Kn.le_refl _⟩,fun i y hy=>by
      cases i with
      |zero=>simp at hy;subst hy;exact⟨_,_,rfl,.ret rfl rfl rfl⟩
      |succ i=>simp at hy⟩
  have f6:=f4.append f5 n4;exact⟨_,by
    have e:DP b own=((E6 own).code++d)++CJ [(2,2)]++ [⟨20,0,0⟩]:=by
      unfold DP;show(F9 b own 3 (E6 own)).code++_=_;rw [c1];simp [CJ]
    rw [e];exact f6⟩
end Go.Proofs.YtcnmnmjmpocepaaGreatDoor
end
