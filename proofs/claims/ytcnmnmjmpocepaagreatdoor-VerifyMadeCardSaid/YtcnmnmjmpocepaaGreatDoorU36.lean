
import Derived.Test.YtcnmnmjmpocepaaGreatDoorU00
import Derived.Test.YtcnmnmjmpocepaaGreatDoorU11
import Derived.Test.YtcnmnmjmpocepaaGreatDoorU29
import Derived.Test.YtcnmnmjmpocepaaGreatDoorU35
import Derived.Test.YtcnmnmjmpocepaaGreatDoorU32
import Derived.Test.YtcnmnmjmpocepaaGreatDoorU31
set_option linter.unusedVariables false
set_option linter.unusedSimpArgs false
set_option linter.unusedSectionVars false
set_option maxRecDepth 100000
set_option maxHeartbeats 16000000
section
namespace Go.Proofs.YtcnmnmjmpocepaaGreatDoor
open Go.SL
open Kd
def Xp(y:Cd.Ins):Ins:=⟨y.op,y.a,y.b⟩
def TQ(m:Cd.Me):Me:=⟨m.params,m.lo,m.st,m.code.map Xp⟩
def Zz(x:Cd.Im):Im:=⟨x.cls,x.ms.map TQ⟩
theorem SZ:∀l:List Cd.Ins,Cp (l.map Xp)=Cd.Cp l
  | []=>rfl
  | y::l=>by
    have:=SZ l;simp only [List.map_cons,Cp,Cd.Cp,this,Xp]
def Zd(K:B6)(x:Im)(v:Value):Prop:=
  ∃DF DW EG mb mn mc,v=F8 DF DW EG mb mn mc/\Hk K x.cls DF DW/\I6 K x.ms mb mn/\∀m∈x.ms,m.code.length≤1000000
theorem Zd.mono{K K':B6}{x:Im}{v:Value}(h:Zd K x v)(l:hle K K'):Zd K' x v:=by
  obtain⟨a,b,c,d,e,f,h1,h2,h3,h4⟩:=h;exact⟨a,b,c,d,e,f,h1,h2.mono l,h3.mono l,h4⟩
theorem cO{K:B6}{x:Cd.Im}{v:Value}(h:Cd.OQ K x v)(ok:Cd.UY x):Zd K (Zz x) v:=by
  obtain⟨DF,DW,EG,mb,mn,mc,rfl,⟨cv,c1,c2,c3,c4,c5⟩,⟨mv,m1,m2,m3,m4,m5⟩,h5,h6⟩:=h;obtain⟨k1,k2,k3,k4⟩:=ok;refine⟨DF,DW,EG,mb,mn,mc,rfl,⟨cv,c1,c2,c3,by omega,fun i f hf=> ?_⟩,⟨mv,m1,m2,by simpa [Zz] using m3,by omega,fun i m hm=> ?_⟩,fun m hm=> ?_⟩
  · obtain⟨fb,fn,fc,g1,g2,g3,g4⟩:=c5 i f hf;have:=(k2 f (List.mem_of_getElem? hf)).1;exact⟨fb,fn,fc,g1,g2,g3,by omega⟩
  · simp only [Zz,List.getElem?_map,Option.map_eq_some_iff] at hm
    obtain⟨m0,Uy,rfl⟩:=hm;obtain⟨pb,pn,pc,cb,cn,cc,g1,g2,g3,g4,g5,g6,g7,g8,g9,g10,g11⟩:=m5 i m0 Uy;obtain⟨⟨q1,_⟩,_,_,⟨_,q2⟩,_⟩:=k4 i m0 Uy;have q1:(m0.params.length:Int)≤16:=by split at q1 <;>omega
    exact⟨pb,pn,pc,cb,cn,cc,g1,g2,g3,g4,g5,g6,by omega,by simp only [TQ,SZ];exact g8,by simpa [TQ] using g9,by omega⟩
  · simp only [Zz,List.mem_map] at hm
    obtain⟨m0,Uy,rfl⟩:=hm;obtain⟨i,hi⟩:=List.mem_iff_getElem?.1 Uy;obtain⟨_,_,_,⟨_,q2⟩,_⟩:=k4 i m0 hi;simp only [TQ,List.length_map];omega
def VQ(r:Except Nat Cd.Im)(e:Ending)(o:List B6):Prop:=match r with
  | .error q=>∃β,o= [Cd.IY β (q:Int)]/\e= .returned (.tuple ⟨[Cd.fW,Cd.Pp β]⟩)
  | .ok x=>match DC (Zz x) with
    |some (c,m,a)=>∃D6,o= [D8 D6 c m a]/\e= .returned (.tuple ⟨[Cd.fW,Ka D6]⟩)
    |none=>∃K v,o= [K]/\Cd.OQ K x v/\e= .returned (.tuple ⟨[v,.nilIface]⟩)
attribute [local irreducible] SL.T C7 Dc C6 Db DS Du
theorem LU(s:List UInt8)(hs:s.length≤9223372036854775807):SL.T Tryz.prog 26 [str s] [] (VQ (Cd.Mu s)):=by
  have hd:=Cd.Rk s hs;refine Ch Tryz.func26 rfl (Nat.le_of_ble_eq_true rfl) fun F=> ?_
  cases hq:Cd.Mu s with
  | error q=>
    rw [hq] at hd
    repeat' (first|refine Cq rfl rfl rfl (D7 rfl rfl) ?_|apply B4|refine B3 0 BY AB ?_|(refine gk 4 rfl ?_;(refine B9 rfl rfl rfl rfl rfl rfl rfl rfl (hd) ?_;rintro _ _ ⟨Rm,rfl,rfl⟩;refine⟨_,_,rfl,rfl,?_⟩))|refine B3 5 BY Ar ?_|refine Cn (fun β=> ?_)|refine Ck ?_|refine B0 ?_|apply B5|refine B8 ?_|refine Cl ?_|apply Cb|refine Cx ?_)
    exact Cj [Cd.IY Rm (q:Int)] (Ct (Cv rfl rfl rfl rfl) (B7 rfl)) ⟨Rm,rfl,rfl⟩
  | ok x=>
    rw [hq] at hd
    have Jf:=(Cd.dh hq).2
    repeat' (first|refine Cq rfl rfl rfl (DT rfl rfl) ?_|apply B4|refine B3 0 BY AB ?_|refine B3 3 BY Az ?_|(refine gk 4 rfl ?_;(refine B9 rfl rfl rfl rfl rfl rfl rfl rfl (hd) ?_;rintro _ _ ⟨K,v,rfl,hI,rfl⟩;obtain⟨n1,n2,n3,m4,n5,n6,rfl⟩:=hI.shape;refine⟨_,_,rfl,rfl,?_⟩))|refine Cn (fun β=> ?_)|refine Ck ?_|refine B0 ?_|apply B5|refine B8 ?_|refine Cg ?_|apply Cc)
    obtain⟨DF,DW,EG,mb,mn,mc,hv,hc,hm,hl⟩:=cO hI Jf;cases hv;have hC:=Ey K (Zz x) n1 m4 n2 n3 n5 n6 hc hm hl;unfold VQ;dsimp only
    generalize DC (Zz x)=r at hC ⊢
    cases r with
    | none=>
      repeat' (first|refine Cq rfl rfl rfl (DT rfl rfl) ?_|apply B4|refine B3 0 BY Af ?_|refine B3 3 BY Az ?_|(refine gk 4 rfl ?_;(refine B9 rfl rfl rfl rfl rfl rfl rfl rfl (hC) ?_;rintro _ _ ⟨K',rfl,lK,rfl⟩;refine⟨_,_,rfl,rfl,?_⟩))|refine Ck ?_|refine B0 ?_|apply B5|refine B8 ?_|refine Cg ?_|apply Cb|apply Cc)
      exact Cj [K'] (Ct (Cv rfl rfl rfl rfl) (B7 rfl)) ⟨K',_,rfl,hI.mono lK,rfl⟩
    | some r=>
      obtain⟨c,m,a⟩:=r
      repeat' (first|refine Cq rfl rfl rfl (D7 rfl rfl) ?_|apply B4|refine B3 0 BY Af ?_|(refine gk 4 rfl ?_;(refine B9 rfl rfl rfl rfl rfl rfl rfl rfl (hC) ?_;rintro _ _ ⟨K',D6,rfl,lK,rfl⟩;refine⟨_,_,rfl,rfl,?_⟩))|refine B3 5 BY Ar ?_|refine Ck ?_|refine B0 ?_|apply B5|refine B8 ?_|refine Cl ?_|apply Cb|refine Cx ?_)
      exact Cj [D8 D6 c m a] (Ct (Cv rfl rfl rfl rfl) (B7 rfl)) ⟨D6,rfl,rfl⟩
end Go.Proofs.YtcnmnmjmpocepaaGreatDoor
end
section
namespace Go.Proofs.YtcnmnmjmpocepaaGreatDoor
open Go.SL
open Kd
attribute [local irreducible] SL.T C7 Dc C6 Db DS Du
theorem Xo{G:B6} [sg:Cd.Zg G](β:Nat)(c m a:Int):C7 Tryz.prog 31 [Ka β] [D8 β c m a,G] (.agg ⟨[i64 c,i64 m,i64 a]⟩):=by
  have ha:=fun b old=>Va.du (G:=G) ⟨β,0,none⟩ b old
  revert ha
  generalize hβ:β=Rm
  intro ha;refine Ci Tryz.func31 rfl (Nat.le_of_ble_eq_true rfl) fun F=> ?_
  repeat' (first|refine Cq rfl rfl rfl (EN rfl rfl rfl) ?_|refine Cq rfl rfl rfl (KH rfl rfl) ?_|apply B4|refine B3 0 BY AT ?_|refine B3 3 BY AR ?_|(refine gk 4 rfl ?_;(refine B9 rfl rfl rfl rfl rfl rfl rfl rfl (ha _ (.pointer none)) ?_;rintro _ _ ⟨rfl,rfl⟩;refine⟨_,_,rfl,rfl,?_⟩))|refine B3 5 BY Al ?_|refine Cn (fun β=> ?_)|refine Ck ?_|refine B0 ?_|apply B5|refine B8 ?_|refine Cl ?_|apply Cb|refine Cx ?_)
  exact Cr (Ce (Cv rfl rfl rfl rfl)) rfl
theorem QQ{G:B6} [sg:Cd.Zg G](β:Nat)(c m a:Int)(hc:c≠0):C7 Tryz.prog 11 [Ka β,.agg ⟨[i64 c,i64 m,i64 a]⟩] [D8 β c m a,G] (.bool true):=by
  have ha:=Xo (G:=G) β c m a
  revert ha
  generalize hβ:β=Rm
  intro ha;refine Ci Tryz.func11 rfl (Nat.le_of_ble_eq_true rfl) fun F=> ?_
  repeat' (first|apply B4|refine B3 0 BY Au ?_|refine CF (fun β=> ?_)|refine B0 ?_|apply B5)
  refine Cu [.q [0,1,2,3,4,5,6,7,9],.h false 8,.q [10,11,12]] [Co β (.cells ⟨[i64 c,i64 m,i64 a]⟩ 43 (0,0))] Ac Ac Ac Ac ?_
  repeat' (first|refine Cq rfl rfl rfl (D7 rfl rfl) ?_|refine B3 0 BY AJ ?_|refine Cs 2 BY Av Ab ?_|refine gk 2 rfl (Ki rfl rfl rfl (by first|exact G1 Tryz.underlying4 rfl rfl rfl|exact Ga rfl rfl rfl rfl) As ?_)|refine Mo 2 BY (by exact Ga rfl rfl rfl rfl) (fun h=> ?_) (fun h=> ?_)|refine B3 3 BY AF ?_|refine Cz ?_|refine CQ rfl ?_|refine Jb rfl rfl rfl rfl rfl rfl rfl rfl (ha) rfl ?_|apply B5|refine B8 ?_|apply Cb)
  all_goals first|(exfalso;simp at h;done)|exact Cj [D8 Rm c m a,G] (Ce (B7 rfl)) ⟨rfl,rfl⟩
theorem Z5{G:B6} [sg:Cd.Zg G](β:Nat)(q:Int):C7 Tryz.prog 11 [Cd.Pp β,.agg ⟨[i64 7,i64 0,i64 q]⟩] [Cd.IY β q,G] (.bool true):=by
  have ha:=Cd.TP (G:=G) β q
  revert ha
  generalize hβ:β=Rm
  intro ha;refine Ci Tryz.func11 rfl (Nat.le_of_ble_eq_true rfl) fun F=> ?_
  repeat' (first|apply B4|refine B3 0 BY Au ?_|refine CF (fun β=> ?_)|refine B0 ?_|apply B5)
  refine Cu [.q [0,1,2,3,4,5,6,7,9],.h false 8,.q [10,11,12]] [Co β (.cells ⟨[i64 7,i64 0,i64 q]⟩ 43 (0,0))] Ac Ac Ac Ac ?_
  repeat' (first|refine Cq rfl rfl rfl (D7 rfl rfl) ?_|refine B3 0 BY AJ ?_|refine Cs 2 BY Av Ab ?_|refine gk 2 rfl (Ki rfl rfl rfl (by first|exact G1 Tryz.underlying4 rfl rfl rfl|exact Ga rfl rfl rfl rfl) As ?_)|refine Mo 2 BY (by exact Ga rfl rfl rfl rfl) (fun h=> ?_) (fun h=> ?_)|refine B3 3 BY AF ?_|refine Cz ?_|refine CQ rfl ?_|refine Jb rfl rfl rfl rfl rfl rfl rfl rfl (ha) rfl ?_|apply B5|refine B8 ?_|apply Cb)
  all_goals first|(exfalso;simp at h;done)|exact Cj [Cd.IY Rm q,G] (Ce (B7 rfl)) ⟨rfl,rfl⟩
end Go.Proofs.YtcnmnmjmpocepaaGreatDoor
end
section
namespace Go.Proofs.YtcnmnmjmpocepaaGreatDoor
open Go.SL
open Kd
def X3(y:Ins):Cd.Ins:=⟨y.op,y.a,y.b⟩
def Mh(m:Me):Cd.Me:=⟨m.params,m.lo,m.st,m.code.map X3⟩
def T7(x:Im):Cd.Im:=⟨x.cls,x.ms.map Mh⟩
theorem JA:∀l:List Ins,Cd.Cp (l.map X3)=Cp l
  | []=>rfl
  | y::l=>by
    have:=JA l;simp only [List.map_cons,Cp,Cd.Cp,this,X3]
theorem Zy(x:Im):Zz (T7 x)=x:=by
  have h1:∀l:List Ins,(l.map X3).map Xp=l:=fun l=>by
    rw [List.map_map];have:(Xp∘X3)=id:=by funext y;rfl
    rw [this,List.map_id]
  have h2:(TQ∘Mh)=id:=by
    funext m
    show TQ (Mh m)=m;simp only [TQ,Mh,h1]
  cases x with
  |mk cls ms=>simp only [Zz,T7,List.map_map,h2,List.map_id]
def dY(K:B6)(x:Im)(v:Value):Prop:=Zd K x v/\Cd.OQ K (T7 x) v
theorem Yo{K:B6}{l:List Ins}{Ha n c:Nat}{DF mb:Option Addr}(hn:l.length=n)(hc:n≤c)(DE:n≤1000000)(h1:Sl K DF [.slice none 0 0])(h2:Sl K mb [.slice none 0 0,i64 2,i64 2,.slice (some ⟨Ha,0,none⟩) n c])(h3:Sl K (some ⟨Ha,0,none⟩) (Cp l)):dY K (Ec l) (F8 DF 1 1 mb 1 1):=by
  refine⟨⟨DF,1,1,mb,1,1,rfl,⟨_,h1,rfl,rfl,by decide,fun i f hf=> ?_⟩,⟨_,h2,rfl,rfl,by decide,fun i m hm=> ?_⟩,fun m hm=> ?_⟩,⟨DF,1,1,mb,1,1,rfl,⟨_,h1,rfl,rfl,by decide,fun i f hf=> ?_⟩,⟨_,h2,rfl,rfl,by decide,fun i m hm=> ?_⟩,by decide,by decide⟩⟩
  · cases i with
    |zero=>simp [Ec] at hf;subst hf;exact⟨none,0,0,rfl,Sl.none,rfl,by decide⟩
    |succ i=>simp [Ec] at hf
  · cases i with
    |zero=>simp [Ec] at hm;subst hm;exact⟨none,0,0,_,n,c,rfl,rfl,rfl,rfl,Sl.none,rfl,by decide,h3,hn,by omega⟩
    |succ i=>simp [Ec] at hm
  · simp [Ec] at hm;subst hm;dsimp only;omega
  · cases i with
    |zero=>simp [Ec,T7] at hf;subst hf;exact⟨none,0,0,rfl,Sl.none,rfl,by decide⟩
    |succ i=>simp [Ec,T7] at hf
  · cases i with
    | zero=>
      simp [Ec,T7] at hm;subst hm
      exact⟨none,0,0,_,n,c,rfl,rfl,rfl,rfl,Sl.none,rfl,by decide,by simp only [Mh,JA];exact h3,by simpa [Mh] using hn,hc,by omega⟩
    |succ i=>simp [Ec,T7] at hm
attribute [local irreducible] SL.T C7 Dc C6 Db DS Du
theorem Gy(op a:Int):C7 Tryz.prog 24 [i64 op,i64 a] [] (.agg ⟨[i64 op,i64 a,i64 0]⟩):=by
  refine Ci Tryz.func24 rfl (Nat.le_of_ble_eq_true rfl) fun F=> ?_
  repeat' (first|apply B4|refine B3 0 BY Am ?_|refine B3 5 BY Ar ?_|refine Cn (fun β=> ?_)|refine Ck ?_|refine B0 ?_|apply B5|refine B8 ?_|apply Cb)
  exact Cj [] (Ce (Cv rfl rfl rfl rfl)) ⟨rfl,rfl⟩
theorem XZ(Ha n c:Nat)(cs:List Value):SL.T Tryz.prog 23 [.slice (some ⟨Ha,0,none⟩) n c] [Co Ha (.cells ⟨cs⟩ 24 (0,0))] fun e o=>
    ∃A N,o=N++A/\A= []/\∃βc E7,N= [Co Ha (.cells ⟨cs⟩ 24 (0,0)),Co βc (.cells ⟨[.slice none 0 0]⟩ 76 (0,0)),Co E7 (.cells ⟨[.slice none 0 0,i64 2,i64 2,.slice (some ⟨Ha,0,none⟩) n c]⟩ 66 (0,0))]/\e= .returned (F8 (some ⟨βc,0,none⟩) 1 1 (some ⟨E7,0,none⟩) 1 1):=by
  refine Ch Tryz.func23 rfl (Nat.le_of_ble_eq_true rfl) fun F=> ?_
  repeat' (first|apply B4|refine B3 0 BY Am ?_|refine B3 5 BY Ar ?_|refine Cm (fun b=> ?_)|refine Cn (fun β=> ?_)|refine Ck ?_|refine B0 ?_|apply B5|refine B8 ?_|apply Cb)
  obtain⟨bm,rfl⟩:∃x,x=b:=⟨_,rfl⟩;obtain⟨bc,rfl⟩:∃x,x=b:=⟨_,rfl⟩;exact Cj [Co Ha (.cells ⟨cs⟩ 24 (0,0)),Co bc (.cells ⟨[.slice none 0 0]⟩ 76 (0,0)),Co bm (.cells ⟨[.slice none 0 0,i64 2,i64 2,.slice (some ⟨Ha,0,none⟩) n c]⟩ 66 (0,0))] (Ce (Cv rfl rfl rfl rfl)) ⟨[],_,(List.append_nil _).symm,rfl,bc,bm,rfl,rfl⟩
theorem GO(Ha n c:Nat)(cs:List Value)(l:List Ins)(L2:cs=Cp l)(hn:l.length=n)(hc:n≤c)(DE:n≤1000000):SL.T Tryz.prog 23 [.slice (some ⟨Ha,0,none⟩) n c] [Co Ha (.cells ⟨cs⟩ 24 (0,0))] fun e o=>
    ∃K a b,o= [K]/\e= .returned (F8 a 1 1 b 1 1)/\dY K (Ec l) (F8 a 1 1 b 1 1):=by
  refine(Y8 (R:=fun e A N=>A= []/\∃βc E7,N= [Co Ha (.cells ⟨cs⟩ 24 (0,0)),Co βc (.cells ⟨[.slice none 0 0]⟩ 76 (0,0)),Co E7 (.cells ⟨[.slice none 0 0,i64 2,i64 2,.slice (some ⟨Ha,0,none⟩) n c]⟩ 66 (0,0))]/\e= .returned (F8 (some ⟨βc,0,none⟩) 1 1 (some ⟨E7,0,none⟩) 1 1)) (XZ Ha n c cs)).mono ?_;rintro e o ⟨A,N,K,rfl,hK,rfl,βc,E7,rfl,rfl⟩;subst L2;have k1:=hK (Co Ha (.cells ⟨Cp l⟩ 24 (0,0))) Ak;have k2:=hK (Co βc (.cells ⟨[.slice none 0 0]⟩ 76 (0,0))) Ak;have k3:=hK (Co E7 (.cells ⟨[.slice none 0 0,i64 2,i64 2,.slice (some ⟨Ha,0,none⟩) n c]⟩ 66 (0,0))) Ak;exact⟨K,_,_,rfl,rfl,Yo hn hc DE (Sl.Co.mono k2) (Sl.Co.mono k3) (Sl.Co.mono k1)⟩
theorem H9{G:B6} [sg:Cd.Zg G](K:B6)(im:Im)(a b:Option Addr)(c at_:Int)(hB:dY K im (F8 a 1 1 b 1 1))(hc:c≠0)(WO:DC im=some (c,0,at_)):
    SL.T Tryz.prog 25 [F8 a 1 1 b 1 1,i64 c,i64 at_] [K,G] fun e o=>∃K',o= [K',G]/\hle K K'/\e= .returned (.bool true):=by
  obtain⟨x1,x2,x3,x4,x5,x6,hv,h1,h2,h3⟩:=hB.1;cases hv;have hC:=Ey K im a b 1 1 1 1 h1 h2 h3;rw [WO] at hC
  refine Ch Tryz.func25 rfl (Nat.le_of_ble_eq_true rfl) fun F=> ?_
  repeat' (first|apply B4|refine B3 0 BY Af ?_|refine B3 3 BY Az ?_|(refine gk 4 rfl ?_;(refine B9 rfl rfl rfl rfl rfl rfl rfl rfl (hC) ?_;rintro _ _ ⟨K',D6,rfl,lK,rfl⟩;refine⟨_,_,rfl,rfl,?_⟩))|refine B3 5 BY Ar ?_|refine CF (fun β=> ?_)|refine B0 ?_|apply B5)
  have hl:=QQ (G:=G) D6 c 0 at_ hc
  repeat' (first|refine B3 0 BY Au ?_|refine B3 4 BY (Ca rfl rfl rfl rfl rfl (hl)) ?_|apply B5|refine B8 ?_|apply Cb)
  exact Cj [K',G] (Ce (B7 rfl)) ⟨K',rfl,lK,rfl⟩
end Go.Proofs.YtcnmnmjmpocepaaGreatDoor
end
section
namespace Go.Proofs.YtcnmnmjmpocepaaGreatDoor
open Go.SL
open Kd
theorem cP(x:Cd.Im):Cd.Vq x≠ []:=by unfold Cd.Vq;simp
theorem Y0(l:List Ins)(h:∀y∈l,Cd.Ze y.a/\Cd.Ze y.b):Cd.fU (T7 (Ec l)):=by
  intro m hm y hy;simp only [T7,Ec,List.map_cons,List.map_nil,List.mem_singleton] at hm
  subst hm;simp only [Mh,List.mem_map] at hy
  obtain⟨z,hz,rfl⟩:=hy;exact h z hz
theorem Uu:Cd.Pf (T7 (Ec [Ez 0 1,Ez 20 0]))=true:=by decide +kernel
theorem eR:Cd.UY (T7 (Ec [Ez 0 1,Ez 20 0])):=(Cd.Sf (Y0 _ (by simp only [List.mem_cons,List.not_mem_nil,or_false,forall_eq_or_imp,forall_eq,Ez,Cd.Ze];omega))).1 Uu
theorem V7{x:Cd.Im}(h:Cd.Pf x=true):(Cd.Vq x).length≤9223372036854775807:=by
  have hs:=Cd.RC h;have h1:=hs.fF x.cls.length;have h2:=hs.jT x.ms.length;rw [List.take_length] at h1 h2
  have h3:=hs.cls;have h4:=hs.ms;unfold Cd.Vq;simp only [List.length_append,List.length_cons,List.length_nil,Cd.Ed];omega
theorem aG{K:B6}{im:Im}{a b:Option Addr}{p q r t:Nat}(hB:dY K im (F8 a p q b r t))(h:DC im=none):
    SL.T Tryz.prog 12 [F8 a p q b r t] [K] fun e o=>∃K',o= [K']/\hle K K'/\e= .returned .nilIface:=by
  obtain⟨x1,x2,x3,x4,x5,x6,hv,h1,h2,h3⟩:=hB.1;cases hv;have hC:=Ey K im a b p q r t h1 h2 h3;rw [h] at hC
  exact hC
attribute [local irreducible] SL.T C7 Dc C6 Db DS Du
theorem Ji{G:B6} [sg:Cd.Zg G]:C7 Tryz.prog 10 [] [G] (.bool true):=by
  have hdec:=Cd.aC eR;have hV:=LU (Cd.Vq (T7 (Ec [Ez 0 1,Ez 20 0]))) (V7 Uu);rw [hdec] at hV
  unfold VQ at hV
  dsimp only at hV
  rw [Zy,eu] at hV
  dsimp only at hV
  refine Ci Tryz.func10 rfl (Nat.le_of_ble_eq_true rfl) fun F=> ?_
  repeat' (first|apply B4|refine B3 0 BY Au ?_|refine B3 4 BY (Ca rfl rfl rfl rfl rfl (Gy _ _)) ?_|(refine gk 4 rfl ?_;(refine B9 rfl rfl rfl rfl rfl rfl rfl rfl (GO _ 2 2 [i64 0,i64 1,i64 0,i64 20,i64 0,i64 0] [Ez 0 1,Ez 20 0] rfl rfl Ae Ae) ?_;rintro _ _ ⟨K0,a0,b0,rfl,rfl,hB0⟩;refine⟨_,_,rfl,rfl,?_⟩))|refine Cm (fun b=> ?_)|refine B0 ?_|apply B5)
  have hE:=Cd.Rj K0 _ _ hB0.2;rw [if_pos Uu] at hE
  generalize hs:Cd.Vq (T7 (Ec [Ez 0 1,Ez 20 0]))=s0 at hE hV
  have Xe:s0≠ []:=by rw [<-hs];exact cP _
  repeat' (first|refine Cq rfl rfl rfl ((FL rfl rfl rfl).to (congrArg Value.bool (decide_eq_false Xe))) ?_|refine Cq rfl rfl rfl (DT rfl rfl) ?_|apply B4|refine B3 0 BY AS ?_|refine CE 2 BY Av Ab ?_|refine B3 4 BY (Ca rfl rfl rfl rfl rfl (hE)) ?_|(refine gk 4 rfl ?_;(refine B9 rfl rfl rfl rfl rfl rfl rfl rfl (hV) ?_;rintro _ _ ⟨KV,v,rfl,hIV,rfl⟩;obtain⟨n1,n2,n3,n4,n5,n6,rfl⟩:=hIV.shape;refine⟨_,_,rfl,rfl,?_⟩))|refine B3 4 BY (Ca rfl rfl rfl rfl rfl (Gy _ _)) ?_|(refine gk 4 rfl ?_;(refine B9 rfl rfl rfl rfl rfl rfl rfl rfl (GO _ 2 2 [i64 0,i64 1,i64 0,i64 20,i64 0,i64 0] [Ez 0 1,Ez 20 0] rfl rfl Ae Ae) ?_;rintro _ _ ⟨K1,a1,b1,rfl,rfl,dV⟩;refine⟨_,_,rfl,rfl,?_⟩))|refine Cm (fun b=> ?_)|refine Cn (fun β=> ?_)|refine Ck ?_|refine B0 ?_|apply B5)
  have hC1:=aG dV eu
  repeat' (first|refine Cq rfl rfl rfl (DT rfl rfl) ?_|apply B4|refine B3 0 BY (by exact DK rfl rfl rfl) ?_|(refine gk 4 rfl ?_;(refine B9 rfl rfl rfl rfl rfl rfl rfl rfl (hC1) ?_;rintro _ _ ⟨KC,rfl,lC,rfl⟩;refine⟨_,_,rfl,rfl,?_⟩))|refine B3 4 BY (Ca rfl rfl rfl rfl rfl (Gy _ _)) ?_|(refine gk 4 rfl ?_;(refine B9 rfl rfl rfl rfl rfl rfl rfl rfl (GO _ 1 1 [i64 0,i64 1,i64 0] [Ez 0 1] rfl rfl Ae Ae) ?_;rintro _ _ ⟨K2,a2,b2,rfl,rfl,hB2⟩;refine⟨_,_,rfl,rfl,?_⟩))|refine Cm (fun b=> ?_)|refine B0 ?_|apply B5|refine B8 ?_|refine Cg ?_|apply Cc)
  have fj:=H9 (G:=G) K2 _ a2 b2 8 0 hB2 Ae kE
  repeat' (first|refine B3 0 BY Am ?_|(refine gk 4 rfl ?_;(refine B9 rfl rfl rfl rfl rfl rfl rfl rfl (fj) ?_;rintro _ _ ⟨KF2,rfl,lF2,rfl⟩;refine⟨_,_,rfl,rfl,?_⟩))|refine B3 4 BY (Ca rfl rfl rfl rfl rfl (Gy _ _)) ?_|(refine gk 4 rfl ?_;(refine B9 rfl rfl rfl rfl rfl rfl rfl rfl (GO _ 2 2 [i64 2,i64 0,i64 0,i64 20,i64 0,i64 0] [Ez 2 0,Ez 20 0] rfl rfl Ae Ae) ?_;rintro _ _ ⟨K3,a3,b3,rfl,rfl,hB3⟩;refine⟨_,_,rfl,rfl,?_⟩))|refine Cm (fun b=> ?_))
  have hf3:=H9 (G:=G) K3 _ a3 b3 9 0 hB3 Ae kD
  repeat' (first|apply B4|refine B3 0 BY BS ?_|(refine gk 4 rfl ?_;(refine B9 rfl rfl rfl rfl rfl rfl rfl rfl (hf3) ?_;rintro _ _ ⟨KF3,rfl,lF3,rfl⟩;refine⟨_,_,rfl,rfl,?_⟩))|refine B3 4 BY (Ca rfl rfl rfl rfl rfl (Gy _ _)) ?_|(refine gk 4 rfl ?_;(refine B9 rfl rfl rfl rfl rfl rfl rfl rfl (GO _ 5 5 [i64 0,i64 1,i64 0,i64 7,i64 3,i64 0,i64 0,i64 2,i64 0,i64 0,i64 0,i64 0,i64 20,i64 0,i64 0] [Ez 0 1,Ez 7 3,Ez 0 2,Ez 0 0,Ez 20 0] rfl rfl Ae Ae) ?_;rintro _ _ ⟨K4,a4,b4,rfl,rfl,hB4⟩;refine⟨_,_,rfl,rfl,?_⟩))|refine Cm (fun b=> ?_)|refine B0 ?_|apply B5)
  have fh:=H9 (G:=G) K4 _ a4 b4 9 3 hB4 Ae kC
  repeat' (first|apply B4|refine B3 0 BY AJ ?_|(refine gk 4 rfl ?_;(refine B9 rfl rfl rfl rfl rfl rfl rfl rfl (fh) ?_;rintro _ _ ⟨KF4,rfl,lF4,rfl⟩;refine⟨_,_,rfl,rfl,?_⟩))|refine B3 4 BY (Ca rfl rfl rfl rfl rfl (Gy _ _)) ?_|(refine gk 4 rfl ?_;(refine B9 rfl rfl rfl rfl rfl rfl rfl rfl (GO _ 6 6 [i64 9,i64 0,i64 0,i64 3,i64 0,i64 0,i64 2,i64 0,i64 0,i64 12,i64 0,i64 0,i64 0,i64 0,i64 0,i64 20,i64 0,i64 0] [Ez 9 0,Ez 3 0,Ez 2 0,Ez 12 0,Ez 0 0,Ez 20 0] rfl rfl Ae Ae) ?_;rintro _ _ ⟨K5,a5,b5,rfl,rfl,hB5⟩;refine⟨_,_,rfl,rfl,?_⟩))|refine Cm (fun b=> ?_)|refine B0 ?_|apply B5)
  have hf5:=H9 (G:=G) K5 _ a5 b5 10 5 hB5 Ae kA
  repeat' (first|refine B3 0 BY BS ?_|(refine gk 4 rfl ?_;(refine B9 rfl rfl rfl rfl rfl rfl rfl rfl (hf5) ?_;rintro _ _ ⟨KF5,rfl,lF5,rfl⟩;refine⟨_,_,rfl,rfl,?_⟩))|apply B5|refine B8 ?_|apply Cb)
  exact Cj [G] (Ce (B7 rfl)) ⟨rfl,rfl⟩
end Go.Proofs.YtcnmnmjmpocepaaGreatDoor
end
