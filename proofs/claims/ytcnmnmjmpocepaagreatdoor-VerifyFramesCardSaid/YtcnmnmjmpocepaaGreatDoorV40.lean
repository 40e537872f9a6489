
import Derived.Test.YtcnmnmjmpocepaaGreatDoorV00
import Derived.Test.YtcnmnmjmpocepaaGreatDoorV09
import Derived.Test.YtcnmnmjmpocepaaGreatDoorV39
import Derived.Test.YtcnmnmjmpocepaaGreatDoorV37
import Derived.Test.YtcnmnmjmpocepaaGreatDoorV13
set_option linter.unusedVariables false
set_option linter.unusedSimpArgs false
set_option linter.unusedSectionVars false
set_option maxRecDepth 100000
set_option maxHeartbeats 16000000
section
namespace Go.Proofs.YtcnmnmjmpocepaaGreatDoor.Cd
open Go.SL
def dV(n:Int):Prop:= -9223372036854775808≤n/\n≤9223372036854775807
def Wm(y:Ins):Prop:=(0≤y.op/\y.op≤255)/\dV y.a/\dV y.b
def Ii(most cl:Int)(l:List Int):Prop:=(l.length:Int)≤most/\∀z∈l,0≤z/\z≤cl
def Q1(most cl:Int)(m:Me):Prop:=Ii most cl m.params/\((m.params.length:Int)≤m.lo/\m.lo≤16)/\(0≤m.st/\m.st≤32)/\(1≤m.code.length/\m.code.length≤256)/\∀y∈m.code,Wm y
def Q5(x:Im):Prop:=x.cls.length≤16/\(∀f∈x.cls,Ii 8 x.cls.length f)/\(1≤x.ms.length/\x.ms.length≤32)/\∀i m,x.ms[i]?=some m->Q1 (if i=0 then 0 else 16) x.cls.length m
theorem lH{n:Int}:NR 1 n↔0≤n/\n≤255:=by unfold NR;omega
theorem re{n:Int}:NR 2 n↔0≤n/\n≤65535:=by unfold NR;omega
theorem rb{n:Int}:NR 8 n↔dV n:=by unfold NR dV;omega
theorem JC{n a b:Int}:wi n a b=true↔a≤n/\n≤b:=by simp [wi]
theorem jz:LR J4 iB Wm:=by
  have h8:=LR.bind (Kh 8 (fun _=>true) Ah) (R2:=fun _ s=>num s 8 (fun _=>true)) (fun _ _=>Kh 8 (fun _=>true) Ah) (mk:=fun x y=>((x,y):Int×Int)) (fs:=Prod.fst) (sn:=Prod.snd) (fun _ _ _ _=>rfl) (fun _ _=>rfl) (fun _=>rfl) (fun _ _=>rfl);have:=LR.bind (Kh 1 (fun _=>true) Ah) (R2:=fun _ s a=>_) (fun _ _=>h8) (mk:=fun o q=>(⟨o,q.1,q.2⟩:Ins)) (fs:=Ins.op) (sn:=fun z=>(z.a,z.b)) (R:=J4) (fun _ _ _ _=>rfl) (fun _ _=>rfl) (fun _=>rfl) (fun s a=>by
    unfold J4;cases num s 1 (fun _=>true) a with
    |error e=>rfl
    | ok q=>
      obtain⟨o,a1⟩:=q;dsimp only;cases num s 8 (fun _=>true) a1 with
      |error e=>rfl
      | ok q=>
        obtain⟨x,a2⟩:=q;dsimp only;cases num s 8 (fun _=>true) a2 with
        |error e=>rfl
        |ok q=>rfl)
  refine this.of (fun _ _=>rfl) (fun _=>rfl) fun z=> ?_
  simp only [lH,rb,and_true,Wm]
theorem Vi(most cl:Int)(hm:most≤255)(hc:cl≤255):LR (fun s=>E5 s most cl) kB (Ii most cl):=by
  have:=Ys (Kh 1 (fun z=>wi z 0 cl) Ah) (many:=1) (least:=0) (most:=most) Ah Ah (R':=fun s=>E5 s most cl) (fun s a=>by
    show E5 s most cl a=_;unfold E5;cases num s 1 (fun z=>wi z 0 most) a with
    |error e=>rfl
    |ok q=>rfl)
  refine this.of (fun _ _=>rfl) (fun _=>rfl) fun l=> ?_
  simp only [lH,JC,Ii];constructor
  · rintro⟨g1,g2⟩;exact⟨⟨by omega,by omega,by omega⟩,fun z hz=>by have:=g2 z hz;omega⟩
  · rintro⟨g1,g2⟩;exact⟨by omega,fun z hz=>by have:=g2 z hz;omega⟩
def SZ(s:List UInt8):Rd (List Ins):=fun a=>match num s 2 (fun z=>wi z 1 256) a with| .error e=> .error e| .ok (n,a1)=>rep (J4 s) n.toNat a1
theorem fP:LR SZ (fun l=>G9 (G1 l.length) 2++(l.map iB).flatten) (fun l=>(1≤l.length/\l.length≤256)/\∀y∈l,Wm y):=by
  have:=Ys jz (many:=2) (least:=1) (most:=256) Ah Ah (R':=SZ) (fun s a=>rfl);refine this.of (fun _ _=>rfl) (fun _=>rfl) fun l=> ?_
  simp only [re,JC];refine and_congr_left fun _=> ?_
  omega
def kG(s:List UInt8):Rd (Int×List Ins):=fun a=>match num s 1 (fun z=>wi z 0 32) a with| .error e=> .error e| .ok (x,a1)=>(match SZ s a1 with| .error e=> .error e| .ok (y,a2)=> .ok ((x,y),a2))
def nb(n:Nat)(s:List UInt8):Rd (Int×Int×List Ins):=fun a=>match num s 1 (fun z=>wi z n 16) a with| .error e=> .error e| .ok (x,a1)=>(match kG s a1 with| .error e=> .error e| .ok (y,a2)=> .ok ((x,y),a2))
theorem fO (most cl:Int)(hm:most≤255)(hc:cl≤255):LR (fun s=>FC s most cl) mB (Q1 most cl):=by
  have Gy:=LR.bind (Kh 1 (fun z=>wi z 0 32) Ah) (R2:=fun _=>SZ) (fun _ _=>fP) (mk:=fun x y=>((x,y):Int×List Ins)) (fs:=Prod.fst) (sn:=Prod.snd) (R:=kG) (fun _ _ _ _=>rfl) (fun _ _=>rfl) (fun _=>rfl) (fun s a=>by
      unfold kG;cases num s 1 (fun z=>wi z 0 32) a with
      |error e=>rfl
      | ok q=>
        obtain⟨x,a1⟩:=q;dsimp only;cases SZ s a1 <;>rfl)
  have MC:=fun n:Nat=>LR.bind (Kh 1 (fun z=>wi z n 16) Ah) (R2:=fun _=>kG) (fun _ _=>Gy) (mk:=fun x y=>((x,y):Int×Int×List Ins)) (fs:=Prod.fst) (sn:=Prod.snd) (R:=nb n) (fun _ _ _ _=>rfl) (fun _ _=>rfl) (fun _=>rfl) (fun s a=>by
      unfold nb;cases num s 1 (fun z=>wi z n 16) a with
      |error e=>rfl
      | ok q=>
        obtain⟨x,a1⟩:=q;dsimp only;cases kG s a1 <;>rfl)
  have := LR.bind (Vi most cl hm hc) (R2:=fun ps=>nb ps.length) (fun ps _=>MC ps.length) (mk:=fun ps q=>(⟨ps,q.1,q.2.1,q.2.2⟩:Me)) (fs:=Me.params) (sn:=fun m=>(m.lo,m.st,m.code)) (R:=fun s=>FC s most cl) (fun _ _ _ _=>rfl) (fun _ _=>rfl) (fun _=>rfl) (fun s a=>by
    show FC s most cl a=_;unfold FC nb kG SZ;cases E5 s most cl a with
    |error e=>rfl
    | ok q=>
      obtain⟨ps,a1⟩:=q;dsimp only;cases num s 1 (fun z=>wi z ps.length 16) a1 with
      |error e=>rfl
      | ok q=>
        obtain⟨lo,a2⟩:=q;dsimp only;cases num s 1 (fun z=>wi z 0 32) a2 with
        |error e=>rfl
        | ok q=>
          obtain⟨st,a3⟩:=q;dsimp only;cases num s 2 (fun z=>wi z 1 256) a3 with
          |error e=>rfl
          | ok q=>
            obtain⟨n,a4⟩:=q;dsimp only;cases rep (J4 s) n.toNat a4 with
            |error e=>rfl
            |ok q=>rfl)
  refine this.of (fun _ _=>rfl) (fun _=>rfl) fun m=> ?_
  simp only [lH,JC,Q1];constructor
  · rintro⟨g1,g2,g3,g4,g5⟩;exact⟨g1,⟨by omega,by omega⟩,⟨by omega,by omega⟩,g4,g5⟩
  · rintro⟨g1,g2,g3,g4,g5⟩;exact⟨g1,by omega,by omega,g4,g5⟩
def Xd(cl:Int)(s:List UInt8):Rd (List Me):=fun a=>match num s 1 (fun z=>wi z 1 32) a with| .error e=> .error e| .ok (k,a1)=>(match Ob s cl k.toNat a1 with| .error e=> .error e| .ok (l,a2)=> .ok (l,a2))
theorem jy(cl:Int)(hc:cl≤255):LR (Xd cl) (fun l=>G9 (G1 l.length) 1++(l.map mB).flatten) (fun l=>(1≤l.length/\l.length≤32)/\∀i m,l[i]?=some m->Q1 (if i=0 then 0 else 16) cl m):=by
  have h1:=cj (R:=fun k s=>FC s (if k=0 then 0 else 16) cl) (B:=mB) (p:=fun i=>Q1 (if i=0 then 0 else 16) cl) (fun i=>fO _ cl (by split <;>decide) hc) (RR:=fun k s=>Ob s cl k) (fun _ _=>rfl) (fun k s a=>by
    simp only [Ob];cases Ob s cl k a with
    |error e=>rfl
    | ok q=>
      obtain⟨l,a1⟩:=q;dsimp only;cases FC s (if k=0 then 0 else 16) cl a1 <;>rfl)
  have:=LR.bind (Kh 1 (fun z=>wi z 1 32) Ah) (R2:=fun k s=>Ob s cl k.toNat) (p2:=fun k l=>l.length=k.toNat/\∀i m,l[i]?=some m->Q1 (if i=0 then 0 else 16) cl m) (fun k _=>h1 k.toNat)
    (mk :=fun _ l=>l) (fs:=fun l:List Me=>(l.length:Int)) (sn:=fun l=>l) (R:=Xd cl) (fun n l h1 h2=>by have:=h1.2;simp only [JC] at this;have:=h2.1;omega) (fun _ _=>rfl) (fun _=>rfl) (fun s a=>by
      unfold Xd;cases num s 1 (fun z=>wi z 1 32) a with
      |error e=>rfl
      | ok q=>
        obtain⟨x,a1⟩:=q;dsimp only;cases Ob s cl x.toNat a1 <;>rfl)
  refine this.of (fun _ _=>rfl) (fun _=>rfl) fun l=> ?_
  simp only [lH,JC,Int.toNat_natCast,true_and];refine and_congr_left fun _=> ?_
  omega
def QR(n:Int)(s:List UInt8):Rd Im:=fun a=>match rep (E5 s 8 n) n.toNat a with| .error e=> .error e| .ok (cls,a2)=>(match Xd n s a2 with| .error e=> .error e| .ok (ms,a4)=> .ok (⟨cls,ms⟩,a4))
def Xw(s:List UInt8):Rd Im:=fun a=>match num s 1 (fun z=>wi z 0 16) a with| .error e=> .error e| .ok (n,a1)=>(match QR n s a1 with| .error e=> .error e| .ok (x,a2)=> .ok (x,a2))
theorem fQ(n:Int)(hc:n≤255):LR (QR n) (fun x:Im=>(x.cls.map kB).flatten++(G9 (G1 x.ms.length) 1++(x.ms.map mB).flatten)) (fun x=>(x.cls.length=n.toNat/\∀f∈x.cls,Ii 8 n f)/\(1≤x.ms.length/\x.ms.length≤32)/\∀i m,x.ms[i]?=some m->Q1 (if i=0 then 0 else 16) n m):=by
  have:=LR.bind (Yr (Vi 8 n Ah hc) n.toNat) (R2:=fun _=>Xd n) (fun _ _=>jy n hc) (mk:=fun c m=>(⟨c,m⟩:Im)) (fs:=Im.cls) (sn:=Im.ms) (R:=QR n) (fun _ _ _ _=>rfl) (fun _ _=>rfl) (fun _=>rfl) (fun s a=>by
      unfold QR;cases rep (E5 s 8 n) n.toNat a with
      |error e=>rfl
      | ok q=>
        obtain⟨x,a1⟩:=q;dsimp only;cases Xd n s a1 <;>rfl)
  exact this.of (fun _ _=>rfl) (fun _=>rfl) fun x=>Iff.rfl
theorem ck:LR Xw (fun x:Im=>G9 (G1 x.cls.length) 1++((x.cls.map kB).flatten++(G9 (G1 x.ms.length) 1++(x.ms.map mB).flatten))) Q5:=by
  have:=LR.bind (Kh 1 (fun z=>wi z 0 16) Ah) (R2:=QR) (fun n h=>fQ n (by have:=h.2;simp only [JC] at this;omega)) (mk:=fun _ x=>x) (fs:=fun x:Im=>(x.cls.length:Int)) (sn:=fun x=>x) (R:=Xw)
    (fun n x h1 h2=>by have:=h1.2;simp only [JC] at this;have:=h2.1.1;omega) (fun _ _=>rfl) (fun _=>rfl) (fun s a=>by
      unfold Xw;cases num s 1 (fun z=>wi z 0 16) a with
      |error e=>rfl
      | ok q=>
        obtain⟨x,a1⟩:=q;dsimp only;cases QR x s a1 <;>rfl)
  refine this.of (fun _ _=>rfl) (fun _=>rfl) fun x=> ?_
  simp only [lH,JC,Int.toNat_natCast,true_and,Q5];constructor
  · rintro⟨g1,g2,g3,g4⟩;exact⟨by omega,g2,g3,g4⟩
  · rintro⟨g1,g2,g3,g4⟩;exact⟨by omega,g2,g3,g4⟩
theorem VV(s:List UInt8):JN s=if s.take 3= [68,75,1] then(match Xw s 3 with| .error e=> .error e| .ok (x,a)=>if a=s.length then .ok x else .error a) else .error 0:=by
  unfold JN Xw QR Xd;by_cases hp:s.take 3= [68,75,1]
  · rw [if_pos hp,if_pos hp];cases num s 1 (fun z=>wi z 0 16) 3 with
    |error e=>rfl
    | ok q=>
      obtain⟨n,a1⟩:=q;dsimp only;cases rep (E5 s 8 n) n.toNat a1 with
      |error e=>rfl
      | ok q=>
        obtain⟨cls,a2⟩:=q;dsimp only;cases num s 1 (fun z=>wi z 1 32) a2 with
        |error e=>rfl
        | ok q=>
          obtain⟨k,a3⟩:=q;dsimp only;cases Ob s n k.toNat a3 with
          |error e=>rfl
          |ok q=>rfl
  · rw [if_neg hp,if_neg hp]
theorem gF{x:Im}(h:Q5 x):JN (Sp x)= .ok x:=by
  have:=ck.wr [68,75,1] [] x h;rw [List.append_nil] at this
  rw [VV,if_pos (by simp [Sp])];rw [show Xw (Sp x) 3=_ from this];simp [Sp];omega
theorem dG{s:List UInt8}{x:Im}(h:JN s= .ok x):Sp x=s/\Q5 x:=by
  rw [VV] at h
  split at h
  · rename_i hp
    have hl:3≤s.length:=by have:=congrArg List.length hp;simp at this;omega
    cases e:Xw s 3 with
    |error e'=>rw [e] at h;cases h
    | ok q=>
      obtain⟨y,a⟩:=q;rw [e] at h
      dsimp only at h
      split at h
      · rename_i ha
        cases h
        obtain⟨g1,u,v,g2,g3,g4⟩:=ck.un s 3 a x hl e;have hv:v= []:=by
          have:=congrArg List.length g2;simp only [List.length_append] at this g4
          exact List.length_eq_zero_iff.1 Ab
        have hu:u= [68,75,1]:=by
          rw [<-hp,g2,g3];simp
        refine⟨?_,g1⟩;rw [hv,hu] at g2
        rw [g2];simp [Sp]
      · cases h
  · cases h
theorem Mp{l:List Int}{most cl:Int}:Hh l most cl=true↔Ii most cl l:=by
  simp only [Hh,Bool.and_eq_true,decide_eq_true_eq,Bool.not_eq_true',Ii,List.any_eq_false,RE,wi,Bool.not_eq_true',decide_eq_false_iff_not,Decidable.not_not]
theorem Vf{m:Me}{most cl:Int}(hI:∀y∈m.code,dV y.a/\dV y.b):GP m most cl=true↔Q1 most cl m:=by
  have h1:(m.code.any LS=false)↔∀y∈m.code,0≤y.op/\y.op≤255:=by
    simp only [List.any_eq_false,LS,wi,Bool.not_eq_true',decide_eq_false_iff_not,Decidable.not_not]
  simp only [GP,Bool.and_eq_true,Mp,JC,Bool.not_eq_true',h1,Q1,Wm];constructor
  · rintro⟨g1,g2,g3,g4,g5⟩;exact⟨g1,g2,g3,by omega,fun y hy=>⟨g5 y hy,hI y hy⟩⟩
  · rintro⟨g1,g2,g3,g4,g5⟩;exact⟨g1,g2,g3,by omega,fun y hy=>(g5 y hy).1⟩
def kE(x:Im):Prop:=∀m∈x.ms,∀y∈m.code,dV y.a/\dV y.b
theorem Q5.all{x:Im}(h:Q5 x):kE x:=fun m hm y hy=>by
  obtain⟨i,hi⟩:=List.mem_iff_getElem?.1 hm;exact((h.2.2.2 i m hi).2.2.2.2 y hy).2
theorem Ii.le{a b cl:Int}{l:List Int}(h:Ii a cl l)(kR:a≤b):Ii b cl l:=⟨by have:=h.1;omega,h.2⟩
theorem OO{x:Im}(hI:kE x):JK x=true↔Q5 x:=by
  have hm:∀m∈x.ms,∀most cl:Int,GP m most cl=true↔Q1 most cl m:=fun m hm most cl=>Vf (hI m hm)
  unfold JK;simp only [Bool.and_eq_true,decide_eq_true_eq,Bool.not_eq_true',JC,List.any_eq_false,Ou,Nl,Bool.not_eq_true',Bool.not_eq_false];constructor
  · rintro⟨g1,g2,g3,g4,g5⟩;refine⟨by omega,fun f hf=>Mp.1 (g4 f hf),by omega,fun i m hi=> ?_⟩;have kM:=List.mem_of_getElem? hi
    split
    · rename_i e
      subst e;rw [hi] at g3
      exact(hm m kM _ _).1 g3
    · exact(hm m kM _ _).1 (g5 m kM)
  · rintro⟨g1,g2,g3,g4⟩;refine⟨by omega,by omega,?_,fun f hf=>Mp.2 (g2 f hf),fun m kM=> ?_⟩
    · obtain⟨m,Sy⟩:∃m,x.ms[0]?=some m:=⟨_,List.getElem?_eq_getElem Ab⟩;rw [Sy];exact(hm m (List.mem_of_getElem? Sy) _ _).2 (g4 0 m Sy)
    · obtain⟨i,hi⟩:=List.mem_iff_getElem?.1 kM;refine(hm m kM _ _).2 ?_;have:=g4 i m hi
      split at this
      · exact⟨this.1.le Ah,this.2⟩
      · exact this
end Go.Proofs.YtcnmnmjmpocepaaGreatDoor.Cd
end
section
namespace Go.Proofs.YtcnmnmjmpocepaaGreatDoor.Cd
open Go.SL
theorem IU.no(J:CA):IU J Ke dZ:=
  ⟨none,0,0,none,0,0,rfl,⟨[],⟨fun j v h=>by simp at h⟩,rfl,rfl,by decide,fun i f h=>by simp [Ke] at h⟩,⟨[],⟨fun j v h=>by simp at h⟩,rfl,rfl,by decide,fun i f h=>by simp [Ke] at h⟩,Nat.le_refl _,Nat.le_refl _⟩
theorem IU.shape{K:CA}{x:Im}{v:Value}(h:IU K x v):∃a b c d e f,v= .agg ⟨[.slice a b c,.slice d e f]⟩:=by
  obtain⟨a,b,c,d,e,f,h, -⟩:=h;exact⟨a,b,c,d,e,f,h⟩
def qh(r:Except Nat Im)(e:Ending)(o:List CA):Prop:=match r with
  | .ok x=>∃K v,o= [K]/\IU K x v/\e= .returned (.tuple ⟨[v,i64 (-1)]⟩)
  | .error q=>∃K,o= [K]/\e= .returned (.tuple ⟨[dZ,i64 (q:Int)]⟩)
theorem Rr(s:List UInt8)(hs:s.length≤9223372036854775807):SL.T Tryz.prog 71 [str s] [] (qh (JN s)):=by
  by_cases hp:s.take 3= [68,75,1]
  · have h:=UU s hs hp;have hd:=Zm s;unfold qh;cases hq:JN s with
    | error q=>
      rw [hq] at hd
      dsimp only at hd ⊢
      refine(Gw (R:=fun e A N=>A= []/\N= []/\e= .returned (.tuple ⟨[dZ,i64 (q:Int)]⟩)) (T.mono h ?_)).mono ?_
      · rintro e o (⟨h1,h2,h3,h4⟩|⟨h1,h2⟩)
        · exact⟨[],[],by subst h4;simp,rfl,rfl,by rw [h3,hd]⟩
        · rw [hd] at h1;dsimp only at h1;omega
      · rintro e o ⟨A,N,L,rfl,hL,rfl,rfl,h⟩;exact⟨L,rfl,h⟩
    | ok x=>
      rw [hq] at hd
      dsimp only at hd ⊢
      refine(Gw (R:=fun e A N=>A= []/\∃K hC K2 hM Du cc mb mc cv mv,e= .returned (.tuple ⟨[.agg ⟨[.slice Du x.cls.length cc,.slice mb x.ms.length mc]⟩,i64 (-1)]⟩)/\OS hC Du x.cls.length cc 76 1 cv/\KI K x.cls cv/\OS hM mb x.ms.length mc 66 4 mv/\Uj K2 x.ms mv/\x.cls.length≤1000/\x.ms.length≤1000/\N= [K,hC,K2,hM]) (T.mono h ?_)).mono ?_
      · rintro e o (⟨h1,h2,h3,h4⟩|⟨h1,h2⟩)
        · rw [hd] at h2;dsimp only at h2;omega
        · rw [hd] at h2
          obtain⟨K,hC,K2,hM,Du,cc,mb,mc,cv,mv,h1,h2,h3,h4,h5,h6,h7,rfl⟩:=h2;exact⟨[],[K,hC,K2,hM],by simp,rfl,K,hC,K2,hM,Du,cc,mb,mc,cv,mv,h1,h2,h3,h4,h5,h6,h7,rfl⟩
      · rintro e o ⟨A,N,L,rfl,hL,rfl,K,hC,K2,hM,Du,cc,mb,mc,cv,mv,rfl,h2,h3,h4,h5,h6,h7,rfl⟩;refine⟨L,_,rfl,⟨Du,x.cls.length,cc,mb,x.ms.length,mc,rfl,⟨cv,h2.sl.mono (hL hC Am),by have:=h2.hlen;omega,rfl,by omega,fun i f hf=> ?_⟩,⟨mv,h4.sl.mono (hL hM Am),h4.hlen,rfl,by omega,fun i m hm=> ?_⟩,h2.hle,h4.hle⟩,rfl⟩
        · obtain⟨fb,fn,fc,g1,g2,g3,g4⟩:=h3.2 i f hf;exact⟨fb,fn,fc,g1,g2.mono (hL K Am),g3,by omega⟩
        · obtain⟨pb,pc,cb,iQ,g1,g2,g3,g4,g5,g6,g7,g8,g9⟩:=h5.2 i m hm;exact⟨pb,_,pc,cb,_,iQ,g1,g2,g3,g4,g5.mono (hL K2 Am),rfl,by omega,g7.mono (hL K2 Am),rfl,g8,by omega⟩
  · have hd:JN s= .error 0:=by unfold JN;rw [if_neg hp]
    rw [hd];refine(Gw (R:=fun e A N=>A= []/\N= []/\e= .returned (.tuple ⟨[dZ,i64 0]⟩)) (T.mono (W2 s hs hp) ?_)).mono ?_
    · rintro e o ⟨rfl,rfl⟩;exact⟨[],[],by simp,rfl,rfl,rfl⟩
    · rintro e o ⟨A,N,L,rfl,hL,rfl,rfl,h⟩;exact⟨L,rfl,h⟩
def ia(own:List CA)(x:Im)(v:Value):Prop:=∃k∈own,IU k x v
theorem fx{own:List CA}(x y:Im)(v w:Value)(hx:ia own x v)(hy:ia own y w):Dw Tryz.prog 39 [v,w] own (.bool (XM x y)):=
  JB fun J hJ=>by
    obtain⟨k,hk,h1⟩:=hx;obtain⟨l,hl,h2⟩:=hy;exact Hn J x y v w (h1.mono (hJ k hk)) (h2.mono (hJ l hl))
attribute [local irreducible] SL.T Dw DG DE DI Et D0
end Go.Proofs.YtcnmnmjmpocepaaGreatDoor.Cd
end
section
namespace Go.Proofs.YtcnmnmjmpocepaaGreatDoor.Cd
open Go.SL
def md(n:Int)(d:Nat):Int:=((WH n%d:Nat):Int)
where WH (n:Int):Nat:=(IntKind.u64.wrap n).toNat
theorem ir(n:Int){d:Nat}(h:0<d):0≤md n d/\md n d<d:=by
  unfold md;have:=Nat.mod_lt (md.WH n) h;omega
theorem eO(n:Int):IntKind.u64.wrap n=((md.WH n:Nat):Int):=by
  have:0≤IntKind.u64.wrap n:=by
    simp only [IntKind.wrap,IntKind.bits,IntKind.signed,Bool.false_and,Bool.false_eq_true,if_false];omega
  unfold md.WH;omega
theorem jx(n:Int)(d:Nat):((md.WH n:Nat):Int).tmod (d:Int)=md n d:=by
  rw [Int.tmod_eq_emod_of_nonneg Ab];unfold md;omega
theorem fN(n:Int){d:Nat}(h:0<d)(h2:d≤1000):IntKind.i64.wrap (md n d)=md n d:=by
  have:=ir n h;exact Dz Ab Ab
attribute [local irreducible] SL.T Dw DG DE DI Et D0
end Go.Proofs.YtcnmnmjmpocepaaGreatDoor.Cd
end
