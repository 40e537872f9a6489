
import Derived.Test.YtcnmnmjmpocepaaGreatDoorU00
import Derived.Test.YtcnmnmjmpocepaaGreatDoorU11
import Derived.Test.YtcnmnmjmpocepaaGreatDoorU16
import Derived.Test.YtcnmnmjmpocepaaGreatDoorU09
set_option linter.unusedVariables false
set_option linter.unusedSimpArgs false
set_option linter.unusedSectionVars false
set_option maxRecDepth 100000
set_option maxHeartbeats 16000000
section
namespace Go.Proofs.YtcnmnmjmpocepaaGreatDoor.Kd
open Go.SL
attribute [local irreducible] SL.T C7 Dc C6 Db DS Du
structure Me where
  params:List Int
  lo:Int
  st:Int
  code:List Ins
structure Im where
  cls:List (List Int)
  ms:List Me
def Hk(K:B6)(cls:List (List Int))(b:Option Addr)(n:Nat):Prop:=
  ∃CY:List Value,Sl K b CY/\CY.length=n/\cls.length=n/\n≤4000000/\∀(i:Nat) (f:List Int),cls[i]?=some f->∃fb fn fc,CY[i]?=some (.slice fb fn fc)/\Sl K fb (f.map i64)/\f.length=fn/\fn≤4000000
def I6(K:B6)(ms:List Me)(b:Option Addr)(n:Nat):Prop:=
  ∃ CY:List Value,Sl K b CY/\CY.length=n*4/\ms.length=n/\n≤4000000/\∀(i:Nat) (m:Me),ms[i]?=some m->∃pb pn pc cb cn cc,CY[i*4]?=some (.slice pb pn pc)/\CY[i*4+1]?=some (i64 m.lo)/\CY[i*4+2]?=some (i64 m.st)/\CY[i*4+3]?=some (.slice cb cn cc)/\
    Sl K pb (m.params.map i64)/\m.params.length=pn/\pn≤4000000/\Sl K cb (Cp m.code)/\m.code.length=cn/\cn≤4000000
theorem Hk.mono{K K':B6}{cls:List (List Int)}{b:Option Addr}{n:Nat}(h:Hk K cls b n)(l:hle K K'):Hk K' cls b n:=by
  obtain⟨CY,h1,h2,h3,h4,h5⟩:=h;refine⟨CY,h1.mono l,h2,h3,h4,fun i f hf=> ?_⟩;obtain⟨fb,fn,fc,g1,g2,g3⟩:=h5 i f hf;exact⟨fb,fn,fc,g1,g2.mono l,g3⟩
theorem I6.mono{K K':B6}{ms:List Me}{b:Option Addr}{n:Nat}(h:I6 K ms b n)(l:hle K K'):I6 K' ms b n:=by
  obtain⟨CY,h1,h2,h3,h4,h5⟩:=h;refine⟨CY,h1.mono l,h2,h3,h4,fun i f hf=> ?_⟩;obtain⟨pb,pn,pc,cb,cn,cc,g1,g2,g3,g4,g5,g6,g7,g8,g9⟩:=h5 i f hf;exact⟨pb,pn,pc,cb,cn,cc,g1,g2,g3,g4,g5.mono l,g6,g7,g8.mono l,g9⟩
structure Pl where
  op:Int
  a:Int
  b:Int
  DF:Option Addr
  DW:Nat
  EG:Nat
  mb:Option Addr
  mn:Nat
  mc:Nat
  pb:Option Addr
  pn:Nat
  pc:Nat
  lo:Int
  st:Int
  cb:Option Addr
  cn:Nat
  cc:Nat
  lb:Option Addr
  ln:Nat
  lc:Nat
  sb:Option Addr
  sn:Nat
  sc:Nat
abbrev Pl.cells(p:Pl):List Value:= [i64 p.op,i64 p.a,i64 p.b,.slice p.DF p.DW p.EG,.slice p.mb p.mn p.mc,.slice p.pb p.pn p.pc,i64 p.lo,i64 p.st,.slice p.cb p.cn p.cc,.slice p.lb p.ln p.lc,.slice p.sb p.sn p.sc]
structure JM(K:B6)(p:Pl)(im:Im)(m:Me)(loc:List Int):Prop where
  cls:Hk K im.cls p.DF p.DW
  ms:I6 K im.ms p.mb p.mn
  code:Sl K p.cb (Cp m.code)
  cn:m.code.length=p.cn
  gI:p.cn≤4000000
  ij:Sl K p.lb (loc.map i64)
  ln:loc.length=p.ln
  eM:p.ln≤4000000
theorem JM.mono{K K':B6}{p:Pl}{im:Im}{m:Me}{loc:List Int}(h:JM K p im m loc)(l:hle K K'):JM K' p im m loc:=
  ⟨h.cls.mono l,h.ms.mono l,h.code.mono l,h.cn,h.gI,h.ij.mono l,h.ln,h.eM⟩
abbrev up(a:Int):Int:=IntKind.i64.wrap (a+1)
def FF{α:Type}(l:List α)(i:Int):Bool:=decide (0≤i/\i<l.length)
def Ef(im:Im)(a b:Int):Option Int:=if FF im.cls b then match im.cls[b.toNat]? with
  |some f=>if FF f a then f[a.toNat]? else none
  |none=>none else none
structure Row where
  is:Bool
  take:List Int
  put:List Int
abbrev XO(r:Bool)(tb:Option Addr)(tn tc:Nat)(pb:Option Addr)(pn pc:Nat):Value:= .agg ⟨[.bool r,.slice tb tn tc,.slice pb pn pc]⟩
def fL(r:Row)(K:B6)(e:Ending)(o:List B6):Prop:=
  ∃K',o= [K']/\hle K K'/\∃tb tn tc pb pn pc,e= .returned (XO r.is tb tn tc pb pn pc)/\Sl K' tb (r.take.map i64)/\Sl K' pb (r.put.map i64)/\r.take.length=tn/\r.put.length=pn
def Jh(f:FuncId)(args:List Value)(K:B6)(r:Row):Prop:=SL.T Tryz.prog f args [K] (fL r K)
theorem Ma{f:FuncId}{args:List Value}{K:B6}{r:Row}(h:SL.T Tryz.prog f args [K] fun e o=>∃N,o=K::N/\∃tb tn tc pb pn pc,e= .returned (XO r.is tb tn tc pb pn pc)/\C0 (K::N) tb (r.take.map i64)/\C0 (K::N) pb (r.put.map i64)/\r.take.length=tn/\r.put.length=pn):Jh f args K r:=by
  refine(Ib (R:=fun e A N=>A= []/\∃N0,N=K::N0/\∃tb tn tc pb pn pc,e= .returned (XO r.is tb tn tc pb pn pc)/\C0 (K::N0) tb (r.take.map i64)/\C0 (K::N0) pb (r.put.map i64)/\r.take.length=tn/\r.put.length=pn) (h.mono ?_)).mono ?_
  · rintro e o ⟨N,rfl,h⟩;exact⟨[],K::N,by simp,rfl,N,rfl,h⟩
  · rintro e o ⟨A,N,K',rfl,hK,rfl,N0,rfl,tb,tn,tc,pb,pn,pc,h1,h2,h3,h4,h5⟩;exact⟨K',rfl,hK K Ak,tb,tn,tc,pb,pn,pc,h1,h2.Y1 hK,h3.Y1 hK,h4,h5⟩
theorem RK{f:FuncId}{args:List Value}{K:B6}{r:Row}{tb:Option Addr}{tn tc:Nat}{pb:Option Addr}{pn pc:Nat}(h:C7 Tryz.prog f args [K] (XO r.is tb tn tc pb pn pc))(h2:Sl K tb (r.take.map i64))(h3:Sl K pb (r.put.map i64))(h4:r.take.length=tn)(h5:r.put.length=pn):Jh f args K r:=by
  refine h.T.mono ?_;rintro e o ⟨rfl,rfl⟩;exact⟨K,rfl,hle.refl _,tb,tn,tc,pb,pn,pc,rfl,h2,h3,h4,h5⟩
theorem Gt{K:B6}{β:Nat}{l:List Value}{tt:TypeId}:C0 [K,Co β (.cells ⟨l⟩ tt (0,0))] (some ⟨β,0,none⟩) l:=⟨_,List.mem_cons_of_mem _ (List.mem_cons_self ..),Sl.Co⟩
theorem II{K:B6}{N:List B6}:C0 (K::N) none []:=⟨K,List.mem_cons_self ..,Sl.none⟩
theorem Eg(K:B6)(Eu DZ:Nat)(tb:Option Addr)(tn tc:Nat)(pb:Option Addr)(pn pc:Nat)(take put:List Int) [i1:J8 K Eu (.cells ⟨[.slice tb tn tc]⟩ 57 (0,0))] [i2:J8 K DZ (.cells ⟨[.slice pb pn pc]⟩ 57 (0,0))]
    (h2:Sl K tb (take.map i64)) (h3:Sl K pb (put.map i64)) (h4:take.length=tn) (h5:put.length=pn):
    Jh 78 [.pointer (some ⟨Eu,0,none⟩),.pointer (some ⟨DZ,0,none⟩)] K ⟨true,take,put⟩:=by
  refine RK (r:=⟨true,take,put⟩) (tb:=tb) (tn:=tn) (tc:=tc) (pb:=pb) (pn:=pn) (pc:=pc) ?_ h2 h3 h4 h5;refine Ci Tryz.func78 rfl (Nat.le_of_ble_eq_true rfl) fun F=> ?_
  repeat' (first|apply B4|refine B3 3 BY AD ?_|refine B3 5 BY Ar ?_|refine Cn (fun β=> ?_)|refine Ck ?_|refine B0 ?_|apply B5|refine B8 ?_|apply Cb)
  exact Cr (Ce (Cv rfl rfl rfl rfl)) rfl
theorem Gm(K:B6)(Dq Eu:Nat)(p:Pl)(im:Im)(m:Me)(loc:List Int)(tb:Option Addr)(tn tc:Nat)(take:List Int) [i1:J8 K Dq (.cells ⟨p.cells⟩ 118 (0,0))] [i2:J8 K Eu (.cells ⟨[.slice tb tn tc]⟩ 57 (0,0))](ok:JM K p im m loc)
    (h2:Sl K tb (take.map i64)) (h4:take.length=tn):
    Jh 80 [.pointer (some ⟨Dq,0,none⟩),.pointer (some ⟨Eu,0,none⟩)] K ⟨FF m.code p.a,take,[]⟩:=by
  refine RK (r:=⟨FF m.code p.a,take,[]⟩) (tb:=tb) (tn:=tn) (tc:=tc) (pb:=none) (pn:=0) (pc:=0) ?_ h2 Sl.none h4 rfl;haveI:=ok.code;have hcn:=ok.cn;have L2:=ok.gI;by_cases h:0≤p.a/\p.a<p.cn
  · obtain⟨x,hx⟩:∃z,m.code[p.a.toNat]?=some z:=⟨_,List.getElem?_eq_getElem Ab⟩;have e:FF m.code p.a=true:=decide_eq_true Ab;rw [e];refine Ci Tryz.func80 rfl (Nat.le_of_ble_eq_true rfl) fun F=> ?_
    repeat' (first|apply B4|refine B3 0 BY AB ?_|refine B3 3 BY Ah ?_|refine B3 4 BY (Ca rfl rfl rfl rfl rfl (OM [K] _ _ _ m.code _ x ok.cn ok.gI h hx)) ?_|refine B3 5 BY Ar ?_|refine Cn (fun β=> ?_)|refine Ck ?_|refine B0 ?_|apply B5|refine B8 ?_|apply Cb)
    exact Cr (Ce (Cv rfl rfl rfl rfl)) rfl
  · have e:FF m.code p.a=false:=decide_eq_false Ab;rw [e];refine Ci Tryz.func80 rfl (Nat.le_of_ble_eq_true rfl) fun F=> ?_
    repeat' (first|apply B4|refine B3 0 BY AB ?_|refine B3 3 BY Ah ?_|refine B3 4 BY (Ca rfl rfl rfl rfl rfl (Rf [K] _ _ _ _ ok.gI h)) ?_|refine B3 5 BY Ar ?_|refine Cn (fun β=> ?_)|refine Ck ?_|refine B0 ?_|apply B5|refine B8 ?_|apply Cb)
    exact Cr (Ce (Cv rfl rfl rfl rfl)) rfl
theorem Ti(K:B6)(p:Pl)(im:Im)(m:Me)(loc:List Int)(c:Int)(ok:JM K p im m loc):C7 Tryz.prog 82 [.agg ⟨p.cells⟩,i64 c] [K] (.bool (FF im.cls c)):=by
  obtain⟨CY,h1,h2,h3,h4,h5⟩:=ok.cls;haveI:=h1;by_cases h:0≤c/\c<p.DW
  · obtain⟨x,hx⟩:∃z,im.cls[c.toNat]?=some z:=⟨_,List.getElem?_eq_getElem Ab⟩;obtain⟨fb,fn,fc,g1,g2,g3⟩:=h5 _ _ hx;have e:FF im.cls c=true:=decide_eq_true Ab;rw [e];refine Ci Tryz.func82 rfl (Nat.le_of_ble_eq_true rfl) fun F=> ?_
    repeat' (first|apply B4|refine B3 0 BY AB ?_|refine B3 3 BY Ah ?_|refine B3 4 BY (Ca rfl rfl rfl rfl rfl (OL [K] _ _ _ CY _ _ h2 h4 h g1 rfl)) ?_|refine CF (fun β=> ?_)|refine Cn (fun β=> ?_)|refine Ck ?_|refine B0 ?_|apply B5|refine B8 ?_|apply Cb)
    refine Cr (Ce (B7 rfl)) ?_
    rfl
  · have e:FF im.cls c=false:=decide_eq_false Ab;rw [e];refine Ci Tryz.func82 rfl (Nat.le_of_ble_eq_true rfl) fun F=> ?_
    repeat' (first|apply B4|refine B3 0 BY AB ?_|refine B3 3 BY Ah ?_|refine B3 4 BY (Ca rfl rfl rfl rfl rfl (VD [K] _ _ _ _ h4 h)) ?_|refine CF (fun β=> ?_)|refine Cn (fun β=> ?_)|refine Ck ?_|refine B0 ?_|apply B5|refine B8 ?_|apply Cb)
    refine Cr (Ce (B7 rfl)) ?_
    rfl
theorem MS(K:B6)(p:Pl)(im:Im)(m:Me)(loc:List Int)(ok:JM K p im m loc):C7 Tryz.prog 134 [.agg ⟨p.cells⟩] [K] (.tuple #[i64 ((Ef im p.a p.b).getD 0),.bool (Ef im p.a p.b).isSome]):=by
  obtain⟨CY,h1,h2,h3,h4,h5⟩:=ok.cls;haveI:=h1;by_cases h:0≤p.b/\p.b<p.DW
  · obtain⟨x,hx⟩:∃z,im.cls[p.b.toNat]?=some z:=⟨_,List.getElem?_eq_getElem Ab⟩;obtain⟨fb,fn,fc,g1,g2,g3,g4⟩:=h5 _ _ hx;have e:FF im.cls p.b=true:=decide_eq_true Ab;haveI:=g2;by_cases ha:0≤p.a/\p.a<fn
    · obtain⟨v,hv⟩:∃z,x[p.a.toNat]?=some z:=⟨_,List.getElem?_eq_getElem Ab⟩;have e2:FF x p.a=true:=decide_eq_true Ab;have e3:Ef im p.a p.b=some v:=by simp [Ef,e,hx,e2,hv]
      rw [e3];refine Ci Tryz.func134 rfl (Nat.le_of_ble_eq_true rfl) fun F=> ?_
      repeat' (first|apply B4|refine B3 0 BY AB ?_|refine B3 3 BY Ah ?_|refine B3 4 BY (Ca rfl rfl rfl rfl rfl (OL [K] _ _ _ CY _ _ h2 h4 h g1 rfl)) ?_|refine B3 4 BY (Ca rfl rfl rfl rfl rfl (OK [K] _ _ _ x _ _ g3 g4 ha hv)) ?_|refine CF (fun β=> ?_)|refine Cn (fun β=> ?_)|refine Ck ?_|refine B0 ?_|apply B5|refine B8 ?_|apply Cb)
      refine Cr (Ct (B7 rfl) (B7 rfl)) ?_
      rfl
    · have e2:FF x p.a=false:=decide_eq_false Ab;have e3:Ef im p.a p.b=none:=by simp [Ef,e,hx,e2]
      rw [e3];refine Ci Tryz.func134 rfl (Nat.le_of_ble_eq_true rfl) fun F=> ?_
      repeat' (first|apply B4|refine B3 0 BY AB ?_|refine B3 3 BY Ah ?_|refine B3 4 BY (Ca rfl rfl rfl rfl rfl (OL [K] _ _ _ CY _ _ h2 h4 h g1 rfl)) ?_|refine B3 4 BY (Ca rfl rfl rfl rfl rfl (Nr [K] _ _ _ _ g4 ha)) ?_|refine CF (fun β=> ?_)|refine Cn (fun β=> ?_)|refine Ck ?_|refine B0 ?_|apply B5|refine B8 ?_|apply Cb)
      refine Cr (Ct (B7 rfl) (B7 rfl)) ?_
      rfl
  · have e:FF im.cls p.b=false:=decide_eq_false Ab;have e3:Ef im p.a p.b=none:=by simp [Ef,e]
    rw [e3];have h0:¬(0≤p.a/\p.a<((0:Nat):Int)):=by omega
    refine Ci Tryz.func134 rfl (Nat.le_of_ble_eq_true rfl) fun F=> ?_
    repeat' (first|apply B4|refine B3 0 BY AB ?_|refine B3 3 BY Ah ?_|refine B3 4 BY (Ca rfl rfl rfl rfl rfl (VD [K] _ _ _ _ h4 h)) ?_|refine B3 4 BY (Ca rfl rfl rfl rfl rfl (Nr [K] _ 0 _ _ Ab h0)) ?_|refine CF (fun β=> ?_)|refine Cn (fun β=> ?_)|refine Ck ?_|refine B0 ?_|apply B5|refine B8 ?_|apply Cb)
    refine Cr (Ct (B7 rfl) (B7 rfl)) ?_
    rfl
theorem N4(K:B6)(Dq:Nat)(p:Pl)(im:Im)(m:Me)(loc:List Int) [i1:J8 K Dq (.cells ⟨p.cells⟩ 118 (0,0))](ok:JM K p im m loc):
    Jh 81 [.pointer (some ⟨Dq,0,none⟩)] K ⟨FF im.cls p.a,[],[up p.a]⟩:=by
  refine Ma ?_;refine Ch Tryz.func81 rfl (Nat.le_of_ble_eq_true rfl) fun F=> ?_
  repeat' (first|apply B4|refine Cn (fun β=> ?_)|refine B0 ?_|apply B5)
  refine Cu [.q [0,1,2,3,5,6,7,8],.an 9,.h false 4,.rv 9,.h false 10,.q [11],.h true 12] [] Ac Ac Ac Ac ?_
  repeat' (first|refine B3 1 BY BE ?_|refine B3 3 BY AF ?_|refine B3 5 BY Ar ?_|refine Cz ?_|refine CQ rfl ?_|refine Dg rfl rfl AQ ?_|refine DL rfl rfl rfl (fun β=> ?_)|refine C2 rfl rfl rfl rfl rfl rfl Aa rfl Aa Aa ?_|refine Jb rfl rfl rfl rfl rfl rfl rfl rfl (Ti K p im m loc _ ok) rfl ?_|refine Jb rfl rfl rfl rfl rfl rfl rfl rfl (Ep [K] _) rfl ?_|apply B5|refine B8 ?_|apply Cb)
  exact Cj [K,Co β (.cells ⟨[i64 (up p.a)]⟩ 79 (0,0))] (Ce (Cv rfl rfl rfl rfl)) ⟨[Co β (.cells ⟨[i64 (up p.a)]⟩ 79 (0,0))],rfl,none,0,0,some ⟨β,0,none⟩,1,1,rfl,II,Gt,rfl,rfl⟩
theorem Uh(K:B6)(p:Pl)(im:Im)(m:Me)(loc:List Int)(ok:JM K p im m loc):
    Jh 83 [.agg ⟨p.cells⟩] K ⟨FF loc p.a,[],[if FF loc p.a then loc.getD p.a.toNat 0 else 0]⟩:=by
  have WL:=ok.ln;haveI:=ok.ij;refine Ma ?_;by_cases h:0≤p.a/\p.a<p.ln
  · obtain⟨v,hv⟩:∃z,loc[p.a.toNat]?=some z:=⟨_,List.getElem?_eq_getElem Ab⟩;have e:FF loc p.a=true:=decide_eq_true Ab;have e2:loc.getD p.a.toNat 0=v:=by simp [List.getD,hv]
    simp only [e,e2,if_true];refine Ch Tryz.func83 rfl (Nat.le_of_ble_eq_true rfl) fun F=> ?_
    repeat' (first|apply B4|refine B3 0 BY AB ?_|refine B3 3 BY Ah ?_|refine B3 4 BY (Ca rfl rfl rfl rfl rfl (OK [K] _ _ _ loc _ _ ok.ln ok.eM h hv)) ?_|refine B3 4 BY (Ca rfl rfl rfl rfl rfl (Ep [K] _)) ?_|refine B3 5 BY Ar ?_|refine Cm (fun b=> ?_)|refine CF (fun β=> ?_)|refine Cn (fun β=> ?_)|refine Ck ?_|refine B0 ?_|apply B5|refine B8 ?_|apply Cb)
    exact Cj [K,Co b (.cells ⟨[i64 v]⟩ 79 (0,0))] (Ce (Cv rfl rfl rfl rfl)) ⟨[Co b (.cells ⟨[i64 v]⟩ 79 (0,0))],rfl,none,0,0,some ⟨b,0,none⟩,1,1,rfl,II,Gt,rfl,rfl⟩
  · have e:FF loc p.a=false:=decide_eq_false Ab;simp only [e];refine Ch Tryz.func83 rfl (Nat.le_of_ble_eq_true rfl) fun F=> ?_
    repeat' (first|apply B4|refine B3 0 BY AB ?_|refine B3 3 BY Ah ?_|refine B3 4 BY (Ca rfl rfl rfl rfl rfl (Nr [K] _ _ _ _ ok.eM h)) ?_|refine B3 4 BY (Ca rfl rfl rfl rfl rfl (Ep [K] _)) ?_|refine B3 5 BY Ar ?_|refine Cm (fun b=> ?_)|refine CF (fun β=> ?_)|refine Cn (fun β=> ?_)|refine Ck ?_|refine B0 ?_|apply B5|refine B8 ?_|apply Cb)
    exact Cj [K,Co b (.cells ⟨[i64 0]⟩ 79 (0,0))] (Ce (Cv rfl rfl rfl rfl)) ⟨[Co b (.cells ⟨[i64 0]⟩ 79 (0,0))],rfl,none,0,0,some ⟨b,0,none⟩,1,1,rfl,II,Gt,rfl,rfl⟩
theorem Rx(K:B6)(p:Pl)(im:Im)(m:Me)(loc:List Int)(ok:JM K p im m loc):
    Jh 84 [.agg ⟨p.cells⟩] K ⟨FF loc p.a,[-2],[]⟩:=by
  have WL:=ok.ln;haveI:=ok.ij;refine Ma ?_;by_cases h:0≤p.a/\p.a<p.ln
  · obtain⟨v,hv⟩:∃z,loc[p.a.toNat]?=some z:=⟨_,List.getElem?_eq_getElem Ab⟩;have e:FF loc p.a=true:=decide_eq_true Ab;simp only [e];refine Ch Tryz.func84 rfl (Nat.le_of_ble_eq_true rfl) fun F=> ?_
    repeat' (first|apply B4|refine B3 0 BY AB ?_|refine B3 3 BY Ah ?_|refine B3 4 BY (Ca rfl rfl rfl rfl rfl (OK [K] _ _ _ loc _ _ ok.ln ok.eM h hv)) ?_|refine B3 4 BY (Ca rfl rfl rfl rfl rfl (Ep [K] _)) ?_|refine B3 5 BY Ar ?_|refine Cm (fun b=> ?_)|refine CF (fun β=> ?_)|refine Cn (fun β=> ?_)|refine Ck ?_|refine B0 ?_|apply B5|refine B8 ?_|apply Cb)
    exact Cj [K,Co b (.cells ⟨[i64 (-2)]⟩ 79 (0,0))] (Ce (Cv rfl rfl rfl rfl)) ⟨[Co b (.cells ⟨[i64 (-2)]⟩ 79 (0,0))],rfl,some ⟨b,0,none⟩,1,1,none,0,0,rfl,Gt,II,rfl,rfl⟩
  · have e:FF loc p.a=false:=decide_eq_false Ab;simp only [e];refine Ch Tryz.func84 rfl (Nat.le_of_ble_eq_true rfl) fun F=> ?_
    repeat' (first|apply B4|refine B3 0 BY AB ?_|refine B3 3 BY Ah ?_|refine B3 4 BY (Ca rfl rfl rfl rfl rfl (Nr [K] _ _ _ _ ok.eM h)) ?_|refine B3 4 BY (Ca rfl rfl rfl rfl rfl (Ep [K] _)) ?_|refine B3 5 BY Ar ?_|refine Cm (fun b=> ?_)|refine CF (fun β=> ?_)|refine Cn (fun β=> ?_)|refine Ck ?_|refine B0 ?_|apply B5|refine B8 ?_|apply Cb)
    exact Cj [K,Co b (.cells ⟨[i64 (-2)]⟩ 79 (0,0))] (Ce (Cv rfl rfl rfl rfl)) ⟨[Co b (.cells ⟨[i64 (-2)]⟩ 79 (0,0))],rfl,some ⟨b,0,none⟩,1,1,none,0,0,rfl,Gt,II,rfl,rfl⟩
theorem WU(K:B6)(p:Pl)(im:Im)(m:Me)(loc:List Int)(ok:JM K p im m loc):
    Jh 85 [.agg ⟨p.cells⟩] K ⟨(Ef im p.a p.b).isSome,[up p.b],[(Ef im p.a p.b).getD 0]⟩:=by
  refine Ma ?_;refine Ch Tryz.func85 rfl (Nat.le_of_ble_eq_true rfl) fun F=> ?_
  repeat' (first|apply B4|refine B3 0 BY AB ?_|refine B3 1 BY BE ?_|refine B3 3 BY AF ?_|refine B3 4 BY (Ca rfl rfl rfl rfl rfl (MS K p im m loc ok)) ?_|refine B3 4 BY (Ca rfl rfl rfl rfl rfl (Ep [K] _)) ?_|refine B3 5 BY Ar ?_|refine Cm (fun b=> ?_)|refine CF (fun β=> ?_)|refine Cn (fun β=> ?_)|refine Ck ?_|refine B0 ?_|apply B5|refine B8 ?_|apply Cb)
  rename_i b1
  exact Cj [K,Co b1 (.cells ⟨[i64 (up p.b)]⟩ 79 (0,0)),Co b (.cells ⟨[i64 ((Ef im p.a p.b).getD 0)]⟩ 79 (0,0))] (Ce (Cv rfl rfl rfl rfl)) ⟨[_,_],rfl,some ⟨b1,0,none⟩,1,1,some ⟨b,0,none⟩,1,1,rfl,C0.tail (t:=C0.head),C0.tail (t:=C0.tail (t:=C0.head)),rfl,rfl⟩
theorem Ej(K:B6)(p:Pl)(im:Im)(m:Me)(loc:List Int)(ok:JM K p im m loc):
    Jh 86 [.agg ⟨p.cells⟩] K ⟨(Ef im p.a p.b).isSome,[up p.b,(Ef im p.a p.b).getD 0],[]⟩:=by
  refine Ma ?_;refine Ch Tryz.func86 rfl (Nat.le_of_ble_eq_true rfl) fun F=> ?_
  repeat' (first|apply B4|refine B3 0 BY AB ?_|refine B3 1 BY BE ?_|refine B3 3 BY AF ?_|refine B3 4 BY (Ca rfl rfl rfl rfl rfl (MS K p im m loc ok)) ?_|refine B3 4 BY (Ca rfl rfl rfl rfl rfl (Ep [K] _)) ?_|refine B3 5 BY Ar ?_|refine Cm (fun b=> ?_)|refine CF (fun β=> ?_)|refine Cn (fun β=> ?_)|refine Ck ?_|refine B0 ?_|apply B5|refine B8 ?_|apply Cb)
  exact Cj [K,Co b (.cells ⟨[i64 (up p.b),i64 ((Ef im p.a p.b).getD 0)]⟩ 79 (0,0))] (Ce (Cv rfl rfl rfl rfl)) ⟨[_],rfl,some ⟨b,0,none⟩,2,2,none,0,0,rfl,Gt,II,rfl,rfl⟩
def Fy(im:Im)(a:Int):Option (List Int):=if FF im.ms a then(im.ms[a.toNat]?).map (·.params) else none
theorem OF(K:B6)(p:Pl)(im:Im)(m:Me)(loc:List Int)(ok:JM K p im m loc):
    Jh 87 [.agg ⟨p.cells⟩] K ⟨(Fy im p.a).isSome,(Fy im p.a).getD [],[0]⟩:=by
  obtain⟨CY,h1,h2,h3,h4,h5⟩:=ok.ms;haveI:=h1;refine Ma ?_;by_cases h:0≤p.a/\p.a<p.mn
  · obtain⟨x,hx⟩:∃z,im.ms[p.a.toNat]?=some z:=⟨_,List.getElem?_eq_getElem Ab⟩;obtain⟨pb,pn,pc,cb,cn,cc,g1,g2,g3,g4,g5,g6,g7,g8,g9⟩:=h5 _ _ hx;have e:Fy im p.a=some x.params:=by simp [Fy,FF,hx];omega
    simp only [e];refine Ch Tryz.func87 rfl (Nat.le_of_ble_eq_true rfl) fun F=> ?_
    repeat' (first|apply B4|refine B3 0 BY AB ?_|refine B3 3 BY Ah ?_|refine B3 4 BY (Ca rfl rfl rfl rfl rfl (JL [K] _ _ _ CY _ _ _ _ _ h2 h4 h ⟨g1,g2,g3,g4⟩ rfl)) ?_|refine CF (fun β=> ?_)|refine Cn (fun β=> ?_)|refine Ck ?_|refine B0 ?_|apply B5)
    refine Cu [.q [0,1,2],.an 3,.rv 3,.h false 4,.q [5],.h true 6] [] Ac Ac Ac Ac ?_
    repeat' (first|refine B3 0 BY Am ?_|refine B3 3 BY Ah ?_|refine B3 5 BY Ar ?_|refine Cz ?_|refine CQ rfl ?_|refine Dg rfl rfl AQ ?_|refine DL rfl rfl rfl (fun β=> ?_)|refine C2 rfl rfl rfl rfl rfl rfl Aa rfl Aa Aa ?_|refine Jb rfl rfl rfl rfl rfl rfl rfl rfl (Ep [K] _) rfl ?_|apply B5|refine B8 ?_|apply Cb)
    exact Cj [K,Co β (.cells ⟨[i64 0]⟩ 79 (0,0))] (Ce (Cv rfl rfl rfl rfl)) ⟨[_],rfl,pb,pn,pc,some ⟨β,0,none⟩,1,1,rfl,⟨K,List.mem_cons_self ..,g5⟩,Gt,g6,rfl⟩
  · have e:Fy im p.a=none:=by simp [Fy,FF];omega
    simp only [e];refine Ch Tryz.func87 rfl (Nat.le_of_ble_eq_true rfl) fun F=> ?_
    repeat' (first|apply B4|refine B3 0 BY AB ?_|refine B3 3 BY Ah ?_|refine B3 4 BY (Ca rfl rfl rfl rfl rfl (VE [K] _ _ _ _ h4 h)) ?_|refine CF (fun β=> ?_)|refine Cn (fun β=> ?_)|refine Ck ?_|refine B0 ?_|apply B5)
    refine Cu [.q [0,1,2],.an 3,.rv 3,.h false 4,.q [5],.h true 6] [] Ac Ac Ac Ac ?_
    repeat' (first|refine B3 0 BY Am ?_|refine B3 3 BY Ah ?_|refine B3 5 BY Ar ?_|refine Cz ?_|refine CQ rfl ?_|refine Dg rfl rfl AQ ?_|refine DL rfl rfl rfl (fun β=> ?_)|refine C2 rfl rfl rfl rfl rfl rfl Aa rfl Aa Aa ?_|refine Jb rfl rfl rfl rfl rfl rfl rfl rfl (Ep [K] _) rfl ?_|apply B5|refine B8 ?_|apply Cb)
    exact Cj [K,Co β (.cells ⟨[i64 0]⟩ 79 (0,0))] (Ce (Cv rfl rfl rfl rfl)) ⟨[_],rfl,none,0,0,some ⟨β,0,none⟩,1,1,rfl,II,Gt,rfl,rfl⟩
end Go.Proofs.YtcnmnmjmpocepaaGreatDoor.Kd
end
section
namespace Go.Proofs.YtcnmnmjmpocepaaGreatDoor.Kd
open Go.SL
attribute [local irreducible] SL.T C7 Dc C6 Db DS Du Jh
abbrev mO(b1 b2:Nat):Value:= .func (.func 78) #[] #[.pointer (some ⟨b1,0,none⟩),.pointer (some ⟨b2,0,none⟩)]
theorem Tq(b1 b2:Option Addr)(n1 n2 c1 c2:Nat):
    SL.T Tryz.prog 77 [.slice b1 n1 c1,.slice b2 n2 c2] [] fun e o=>∃Eu DZ,e= .returned (mO Eu DZ)/\o= [Co Eu (.cells ⟨[.slice b1 n1 c1]⟩ 57 (0,0)),Co DZ (.cells ⟨[.slice b2 n2 c2]⟩ 57 (0,0))]:=by
  refine Ch Tryz.func77 rfl (Nat.le_of_ble_eq_true rfl) fun F=> ?_
  repeat' (first|apply B4|refine B3 0 BY Ba ?_|refine CF (fun β=> ?_)|refine B0 ?_|apply B5|refine B8 ?_|apply Cb)
  rename_i Eu
  exact Cj [Co Eu (.cells ⟨[.slice b1 n1 c1]⟩ 57 (0,0)),Co β (.cells ⟨[.slice b2 n2 c2]⟩ 57 (0,0))] (Ce (B7 rfl)) ⟨Eu,β,rfl,rfl⟩
abbrev lH(bp b1:Nat):Value:= .func (.func 80) #[] #[.pointer (some ⟨bp,0,none⟩),.pointer (some ⟨b1,0,none⟩)]
theorem Yk(bp:Nat)(b1:Option Addr)(n1 c1:Nat):
    SL.T Tryz.prog 79 [.slice b1 n1 c1,.pointer (some ⟨bp,0,none⟩)] [] fun e o=>∃Eu,e= .returned (lH bp Eu)/\o= [Co Eu (.cells ⟨[.slice b1 n1 c1]⟩ 57 (0,0))]:=by
  refine Ch Tryz.func79 rfl (Nat.le_of_ble_eq_true rfl) fun F=> ?_
  repeat' (first|apply B4|refine B3 0 BY Ba ?_|refine CF (fun β=> ?_)|refine B0 ?_|apply B5|refine B8 ?_|apply Cb)
  exact Cj [Co β (.cells ⟨[.slice b1 n1 c1]⟩ 57 (0,0))] (Ce (B7 rfl)) ⟨β,rfl,rfl⟩
def rowOf(im:Im)(m:Me)(loc:List Int)(op a b:Int):Option Row:=
  if op=0 then some ⟨true,[],[0]⟩
  else if op=1 then some ⟨FF im.cls a,[],[up a]⟩
  else if op=2 then some ⟨FF loc a,[],[if FF loc a then loc.getD a.toNat 0 else 0]⟩
  else if op=3 then some ⟨FF loc a,[-2],[]⟩
  else if op=4 then some ⟨true,[0,0],[0]⟩
  else if op=5 then some ⟨true,[0,0],[0]⟩
  else if op=6 then some ⟨FF m.code a,[],[]⟩
  else if op=7 then some ⟨FF m.code a,[0],[]⟩
  else if op=8 then some ⟨FF m.code a,[0,0],[]⟩
  else if op=9 then some ⟨FF im.cls a,[],[up a]⟩
  else if op=10 then some ⟨(Ef im a b).isSome,[up b],[(Ef im a b).getD 0]⟩
  else if op=11 then some ⟨(Ef im a b).isSome,[up b,(Ef im a b).getD 0],[]⟩
  else if op=12 then some ⟨true,[-3],[]⟩
  else if op=13 then some ⟨true,[-3],[]⟩
  else if op=14 then some ⟨true,[-3],[0]⟩
  else if op=15 then some ⟨true,[-3],[]⟩
  else if op=16 then some ⟨true,[-3],[]⟩
  else if op=17 then some ⟨(Fy im a).isSome,(Fy im a).getD [],[0]⟩
  else if op=18 then some ⟨(Fy im a).isSome,(Fy im a).getD [],[0]⟩
  else if op=19 then some ⟨true,[0],[]⟩
  else if op=20 then some ⟨true,[0],[]⟩
  else none
def VG(K:B6)(p:Pl)(im:Im)(m:Me)(loc:List Int)(f:Int->Option Value):Prop:=
  ∀ z,match rowOf im m loc z p.a p.b with
    |none=>f z=none
    |some r=>∃g first cap all,Enters Tryz.prog g/\f z=some (.func (.func g) first cap)/\JK first.toList [] cap.toList=some all/\Jh g all K r
theorem S4(K:B6)(p:Pl)(im:Im)(m:Me)(loc:List Int)(ok:JM K p im m loc):
    SL.T Tryz.prog 48 [.agg ⟨p.cells⟩] [K] fun e o=>∃hM K' bm f,o= [K',hM]/\hle K K'/\e= .returned (.map (some bm))/\MP hM bm .i64 f/\VG K' p im m loc f:=by
  refine(Ib (R:=fun e A N=>∃hM bm f,A= [hM]/\K∈N/\e= .returned (.map (some bm))/\MP hM bm .i64 f/\∀K',(∀k∈N,hle k K')->VG K' p im m loc f) ?_).mono ?_
  · refine Ch Tryz.func48 rfl (Nat.le_of_ble_eq_true rfl) fun F=> ?_
    repeat' (first|apply B4|refine B3 0 BY A1 ?_|refine B3 4 BY (Ca rfl rfl rfl rfl rfl (Ep [] _)) ?_|(refine gk 4 rfl ?_;(refine B9 rfl rfl rfl rfl rfl rfl rfl rfl (Tq _ _ _ _ _ _) ?_;rintro _ _ ⟨Eu,DZ,rfl,rfl⟩;refine⟨_,_,rfl,rfl,?_⟩))|refine Cm (fun b=> ?_)|refine CF (fun β=> ?_)|refine B0 ?_|apply B5)
    refine Cu [.an 0,.q [1,2,5],.fi 6 0,.q [7],.fi 8 0,.q [9,10,11,14,15,16,19,22,23,26,27,30],.fi 31 0,.q [32],.fi 33 0,.q [34],.fi 35 0,.q [36],.fi 37 0,.q [38],.an 39,.q [41,44,45,48,49,52,53],.fi 54 0,.q [55,56],.fi 57 0,.q [58,59],.fi 60 0,.q [61,62],.fi 63 0,.q [64,65],.fi 66 0,.q [67,68],.fi 69 0,.h false 3,.fi 4 0,.h false 12,.fi 13 0,.h false 17,.fi 18 0,.h false 20,.fi 21 0,.h false 24,.fi 25 0,.h false 28,.fi 29 0,.rv 39,.h false 40,.h false 42,.fi 43 0,.h false 46,.fi 47 0,.h false 50,.fi 51 0,.rv 0,.q [70,71]] [] Ac Ac Ac Ac ?_
    repeat' (first|refine B3 0 BY A1 ?_|refine B3 3 BY Az ?_|refine Cz ?_|refine CQ rfl ?_|refine Dg rfl rfl (by first|exact R7 rfl|exact(EY rfl rfl Aa Aa Aa Aa Aa)) ?_|refine aF rfl rfl rfl (fun _=>rfl) rfl (fun bm hM mp=> ?_)|refine DL rfl rfl rfl (fun β=> ?_)|refine di rfl rfl rfl rfl rfl Ac (by intro h;cases h) (by intro h;cases h) rfl rfl rfl (fun _=>rfl) rfl ?_|refine Jb rfl rfl rfl rfl rfl rfl rfl rfl (Ep [] _) rfl ?_|(refine D0 rfl rfl rfl rfl rfl rfl rfl rfl (Tq _ _ _ _ _ _) (by rintro _ _ ⟨Eu,DZ,rfl,rfl⟩;exact⟨_,rfl⟩) ?_;rintro _ _ ⟨Eu,DZ,rfl,rfl⟩;refine⟨_,_,rfl,rfl,?_⟩)|(refine D0 rfl rfl rfl rfl rfl rfl rfl rfl (Yk _ _ _ _) (by rintro _ _ ⟨Eu,rfl,rfl⟩;exact⟨_,rfl⟩) ?_;rintro _ _ ⟨Eu,rfl,rfl⟩;refine⟨_,_,rfl,rfl,?_⟩)|apply B5|refine B8 ?_|apply Cb)
    rename_i Dq bn bt u1 u2 a1 a2 c1 c2 d1 d2 j6 j7 j8 e1 e2 g1 g2
    refine Gd _ (Ce (B7 rfl)) (fun F w s=>s) ⟨[hM],_,(List.perm_append_singleton hM _).symm,hM,bm,_,rfl,?_,rfl,mp,?_⟩
    · repeat first|exact List.mem_cons_self .. |apply List.mem_cons_of_mem
    intro K' hK;have ok':JM K' p im m loc:=ok.mono (hK K (by repeat first|exact List.mem_cons_self .. |apply List.mem_cons_of_mem));haveI hp:J8 K' Dq (.cells ⟨p.cells⟩ 118 (0,0)):=⟨Ee.1 (hK _ (by repeat first|exact List.mem_cons_self .. |apply List.mem_cons_of_mem))⟩;have sn:Sl K' (some ⟨bn,0,none⟩) ([0].map i64):=(Sl.Co (cs:= [i64 0])).mono (hK (Co bn (.cells ⟨[i64 0]⟩ 79 (0,0))) (by repeat first|exact List.mem_cons_self .. |apply List.mem_cons_of_mem));have st:Sl K' (some ⟨bt,0,none⟩) ([0,0].map i64):=(Sl.Co (cs:= [i64 0,i64 0])).mono (hK (Co bt (.cells ⟨[i64 0,i64 0]⟩ 79 (0,0))) (by repeat first|exact List.mem_cons_self .. |apply List.mem_cons_of_mem));have sr:Sl K' (some ⟨b,0,none⟩) ([-3].map i64):=(Sl.Co (cs:= [i64 (-3)])).mono (hK (Co b (.cells ⟨[i64 (-3)]⟩ 79 (0,0))) (by repeat first|exact List.mem_cons_self .. |apply List.mem_cons_of_mem));have sr2:Sl K' (some ⟨β,0,none⟩) ([-3].map i64):=(Sl.Co (cs:= [i64 (-3)])).mono (hK (Co β (.cells ⟨[i64 (-3)]⟩ 79 (0,0))) (by repeat first|exact List.mem_cons_self .. |apply List.mem_cons_of_mem));haveI:J8 K' a1 (.cells ⟨[.slice none 0 0]⟩ 57 (0,0)):=⟨Ee.1 (hK _ (by repeat first|exact List.mem_cons_self .. |apply List.mem_cons_of_mem))⟩;haveI:J8 K' a2 (.cells ⟨[.slice (some ⟨bn,0,none⟩) 1 1]⟩ 57 (0,0)):=⟨Ee.1 (hK _ (by repeat first|exact List.mem_cons_self .. |apply List.mem_cons_of_mem))⟩;haveI:J8 K' c1 (.cells ⟨[.slice (some ⟨bt,0,none⟩) 2 2]⟩ 57 (0,0)):=⟨Ee.1 (hK _ (by repeat first|exact List.mem_cons_self .. |apply List.mem_cons_of_mem))⟩;haveI:J8 K' c2 (.cells ⟨[.slice (some ⟨bn,0,none⟩) 1 1]⟩ 57 (0,0)):=⟨Ee.1 (hK _ (by repeat first|exact List.mem_cons_self .. |apply List.mem_cons_of_mem))⟩;haveI:J8 K' d1 (.cells ⟨[.slice (some ⟨bt,0,none⟩) 2 2]⟩ 57 (0,0)):=⟨Ee.1 (hK _ (by repeat first|exact List.mem_cons_self .. |apply List.mem_cons_of_mem))⟩;haveI:J8 K' d2 (.cells ⟨[.slice (some ⟨bn,0,none⟩) 1 1]⟩ 57 (0,0)):=⟨Ee.1 (hK _ (by repeat first|exact List.mem_cons_self .. |apply List.mem_cons_of_mem))⟩;haveI:J8 K' u1 (.cells ⟨[.slice (some ⟨b,0,none⟩) 1 1]⟩ 57 (0,0)):=⟨Ee.1 (hK _ (by repeat first|exact List.mem_cons_self .. |apply List.mem_cons_of_mem))⟩;haveI:J8 K' u2 (.cells ⟨[.slice none 0 0]⟩ 57 (0,0)):=⟨Ee.1 (hK _ (by repeat first|exact List.mem_cons_self .. |apply List.mem_cons_of_mem))⟩;haveI:J8 K' e1 (.cells ⟨[.slice (some ⟨β,0,none⟩) 1 1]⟩ 57 (0,0)):=⟨Ee.1 (hK _ (by repeat first|exact List.mem_cons_self .. |apply List.mem_cons_of_mem))⟩;haveI:J8 K' e2 (.cells ⟨[.slice (some ⟨bn,0,none⟩) 1 1]⟩ 57 (0,0)):=⟨Ee.1 (hK _ (by repeat first|exact List.mem_cons_self .. |apply List.mem_cons_of_mem))⟩;haveI:J8 K' g1 (.cells ⟨[.slice (some ⟨bn,0,none⟩) 1 1]⟩ 57 (0,0)):=⟨Ee.1 (hK _ (by repeat first|exact List.mem_cons_self .. |apply List.mem_cons_of_mem))⟩;haveI:J8 K' g2 (.cells ⟨[.slice none 0 0]⟩ 57 (0,0)):=⟨Ee.1 (hK _ (by repeat first|exact List.mem_cons_self .. |apply List.mem_cons_of_mem))⟩;haveI:J8 K' Eu (.cells ⟨[.slice (some ⟨bn,0,none⟩) 1 1]⟩ 57 (0,0)):=⟨Ee.1 (hK _ (by repeat first|exact List.mem_cons_self .. |apply List.mem_cons_of_mem))⟩;haveI:J8 K' DZ (.cells ⟨[.slice none 0 0]⟩ 57 (0,0)):=⟨Ee.1 (hK _ (by repeat first|exact List.mem_cons_self .. |apply List.mem_cons_of_mem))⟩;haveI:J8 K' j6 (.cells ⟨[.slice none 0 0]⟩ 57 (0,0)):=⟨Ee.1 (hK _ (by repeat first|exact List.mem_cons_self .. |apply List.mem_cons_of_mem))⟩;haveI:J8 K' j7 (.cells ⟨[.slice (some ⟨bn,0,none⟩) 1 1]⟩ 57 (0,0)):=⟨Ee.1 (hK _ (by repeat first|exact List.mem_cons_self .. |apply List.mem_cons_of_mem))⟩;haveI:J8 K' j8 (.cells ⟨[.slice (some ⟨bt,0,none⟩) 2 2]⟩ 57 (0,0)):=⟨Ee.1 (hK _ (by repeat first|exact List.mem_cons_self .. |apply List.mem_cons_of_mem))⟩;intro z;by_cases h0:z=0
    · subst h0;exact(show _ from⟨78,_,_,_,inferInstance,rfl,rfl,Eg K' a1 a2 none 0 0 (some ⟨bn,0,none⟩) 1 1 [] [0] Sl.none sn rfl rfl⟩)
    by_cases h1:z=1
    · subst h1;exact(show _ from⟨81,_,_,_,inferInstance,rfl,rfl,N4 K' Dq p im m loc ok'⟩)
    by_cases h2:z=2
    · subst h2;exact(show _ from⟨83,_,_,_,inferInstance,rfl,rfl,Uh K' p im m loc ok'⟩)
    by_cases h3:z=3
    · subst h3;exact(show _ from⟨84,_,_,_,inferInstance,rfl,rfl,Rx K' p im m loc ok'⟩)
    by_cases h4:z=4
    · subst h4;exact(show _ from⟨78,_,_,_,inferInstance,rfl,rfl,Eg K' c1 c2 (some ⟨bt,0,none⟩) 2 2 (some ⟨bn,0,none⟩) 1 1 [0,0] [0] st sn rfl rfl⟩)
    by_cases h5:z=5
    · subst h5;exact(show _ from⟨78,_,_,_,inferInstance,rfl,rfl,Eg K' d1 d2 (some ⟨bt,0,none⟩) 2 2 (some ⟨bn,0,none⟩) 1 1 [0,0] [0] st sn rfl rfl⟩)
    by_cases h6:z=6
    · subst h6;exact(show _ from⟨80,_,_,_,inferInstance,rfl,rfl,Gm K' Dq j6 p im m loc none 0 0 [] ok' Sl.none rfl⟩)
    by_cases h7:z=7
    · subst h7;exact(show _ from⟨80,_,_,_,inferInstance,rfl,rfl,Gm K' Dq j7 p im m loc (some ⟨bn,0,none⟩) 1 1 [0] ok' sn rfl⟩)
    by_cases h8:z=8
    · subst h8;exact(show _ from⟨80,_,_,_,inferInstance,rfl,rfl,Gm K' Dq j8 p im m loc (some ⟨bt,0,none⟩) 2 2 [0,0] ok' st rfl⟩)
    by_cases h9:z=9
    · subst h9;exact(show _ from⟨81,_,_,_,inferInstance,rfl,rfl,N4 K' Dq p im m loc ok'⟩)
    by_cases h10:z=10
    · subst h10;exact(show _ from⟨85,_,_,_,inferInstance,rfl,rfl,WU K' p im m loc ok'⟩)
    by_cases h11:z=11
    · subst h11;exact(show _ from⟨86,_,_,_,inferInstance,rfl,rfl,Ej K' p im m loc ok'⟩)
    by_cases h12:z=12
    · subst h12;exact(show _ from⟨78,_,_,_,inferInstance,rfl,rfl,Eg K' u1 u2 (some ⟨b,0,none⟩) 1 1 none 0 0 [-3] [] sr Sl.none rfl rfl⟩)
    by_cases h13:z=13
    · subst h13;exact(show _ from⟨78,_,_,_,inferInstance,rfl,rfl,Eg K' u1 u2 (some ⟨b,0,none⟩) 1 1 none 0 0 [-3] [] sr Sl.none rfl rfl⟩)
    by_cases h14:z=14
    · subst h14;exact(show _ from⟨78,_,_,_,inferInstance,rfl,rfl,Eg K' e1 e2 (some ⟨β,0,none⟩) 1 1 (some ⟨bn,0,none⟩) 1 1 [-3] [0] sr2 sn rfl rfl⟩)
    by_cases h15:z=15
    · subst h15;exact(show _ from⟨78,_,_,_,inferInstance,rfl,rfl,Eg K' u1 u2 (some ⟨b,0,none⟩) 1 1 none 0 0 [-3] [] sr Sl.none rfl rfl⟩)
    by_cases h16:z=16
    · subst h16;exact(show _ from⟨78,_,_,_,inferInstance,rfl,rfl,Eg K' u1 u2 (some ⟨b,0,none⟩) 1 1 none 0 0 [-3] [] sr Sl.none rfl rfl⟩)
    by_cases h17:z=17
    · subst h17;exact(show _ from⟨87,_,_,_,inferInstance,rfl,rfl,OF K' p im m loc ok'⟩)
    by_cases h18:z=18
    · subst h18;exact(show _ from⟨87,_,_,_,inferInstance,rfl,rfl,OF K' p im m loc ok'⟩)
    by_cases h19:z=19
    · subst h19;exact(show _ from⟨78,_,_,_,inferInstance,rfl,rfl,Eg K' g1 g2 (some ⟨bn,0,none⟩) 1 1 none 0 0 [0] [] sn Sl.none rfl rfl⟩)
    by_cases Q1:z=20
    · subst Q1;exact(show _ from⟨78,_,_,_,inferInstance,rfl,rfl,Eg K' Eu DZ (some ⟨bn,0,none⟩) 1 1 none 0 0 [0] [] sn Sl.none rfl rfl⟩)
    have hr:rowOf im m loc z p.a p.b=none:=by simp only [rowOf,h0,h1,h2,h3,h4,h5,h6,h7,h8,h9,h10,h11,h12,h13,h14,h15,h16,h17,h18,h19,Q1,if_false]
    rw [hr];show YM _ 0 z=none;simp only [YM,h0,h1,h2,h3,h4,h5,h6,h7,h8,h9,h10,h11,h12,h13,h14,h15,h16,h17,h18,h19,Q1,if_false,if_true]
  · rintro e o ⟨A,N,K',rfl,hK,hM,bm,f,rfl,hKN,rfl,mp,h⟩;exact⟨hM,K',bm,f,rfl,hK K hKN,rfl,mp,h K' hK⟩
theorem Vy(K:B6)(p:Pl)(im:Im)(m:Me)(loc:List Int)(ok:JM K p im m loc):
    SL.T Tryz.prog 48 [.agg ⟨p.cells⟩] [K] fun e o=>∃Kn hM bm f K',o= [K,Kn,hM]/\(∀K2,hle K K2->hle Kn K2->hle K' K2)/\e= .returned (.map (some bm))/\MP hM bm .i64 f/\VG K' p im m loc f:=by
  refine(dy (R:=fun e K' rest=>∃hM bm f,rest= [hM]/\e= .returned (.map (some bm))/\MP hM bm .i64 f/\VG K' p im m loc f) ((S4 K p im m loc ok).mono ?_)).mono ?_
  · rintro e o ⟨hM,K',bm,f,rfl,h1,h2,h3,h4⟩;exact⟨K',[hM],rfl,h1,hM,bm,f,rfl,h2,h3,h4⟩
  · rintro e o ⟨Kn,rest,K',rfl,h1,hM,bm,f,rfl,h2,h3,h4⟩;exact⟨Kn,hM,bm,f,K',rfl,h1,h2,h3,h4⟩
theorem Jh.more{g:FuncId}{all:List Value}{K K2:B6}{r:Row}(h:Jh g all K r)(hk:hle K K2):SL.T Tryz.prog g all [K2] (fL r K2):=by
  unfold Jh at h
  refine dx (Q:=fun e K'=>∃tb tn tc pb pn pc,e= .returned (XO r.is tb tn tc pb pn pc)/\Sl K' tb (r.take.map i64)/\Sl K' pb (r.put.map i64)/\r.take.length=tn/\r.put.length=pn) ?_ h hk;rintro e A B kg ⟨tb,tn,tc,pb,pn,pc,h1,h2,h3,h4⟩;exact⟨tb,tn,tc,pb,pn,pc,h1,h2.mono kg,h3.mono kg,h4⟩
end Go.Proofs.YtcnmnmjmpocepaaGreatDoor.Kd
end
section
namespace Go.Proofs.YtcnmnmjmpocepaaGreatDoor.Kd
open Go.SL
attribute [local irreducible] SL.T C7 Dc C6 Db DS Du Jh
abbrev P9(f:FuncId):Value:= .func (.func f) #[] #[]
def H6(xs ys:List Int):Prop:=xs.length=ys.length/\∀(i:Nat) (x y:Int),xs[i]?=some x->ys[i]?=some y->LI x y
theorem M7(own:List B6)(b1 b2:Option Addr)(n1 n2 c1 c2:Nat)(xs ys:List Int) [C0 own b1 (xs.map i64)] [C0 own b2 (ys.map i64)](h1:xs.length=n1)(h2:ys.length=n2)(DE:n1≤9223372036854775807):
    ∃b:Bool,(b=true↔H6 xs ys)/\C7 Tryz.prog 49 [.slice b1 n1 c1,.slice b2 n2 c2,P9 50] own (.bool b):=by
  by_cases hf:H6 xs ys
  · refine⟨true,by simp [hf],?_⟩;obtain⟨hl,hp⟩:=hf;obtain rfl:n1=n2:=by omega
    refine Ci Tryz.func49 rfl (Nat.le_of_ble_eq_true rfl) fun F=> ?_
    repeat' (first|apply B4|refine B3 0 BY Af ?_|refine CE 2 BY Av Ab ?_|refine B3 4 BY Ag ?_|refine B0 ?_|apply B5|refine B8 ?_|refine Cg ?_|refine Cf ?_|apply Cc)
    refine CH (fun j:Nat=> [(1,.slice b2 n1 c2),(2,P9 50),(15,.slice b1 n1 c1),(16,i64 (n1:Int)),(17,i64 (j:Int))])
      (fun _=>own) (fun j=>j≤n1) (fun j=>n1 - j) 0 (by repeat first|exact Sub.nil _|refine Sub.cons rfl ?_) (Nat.zero_le _) ?_
    rintro j Pm;by_cases hj:j<n1
    · obtain⟨x,hx⟩:∃z,xs[j]?=some z:=⟨_,List.getElem?_eq_getElem Ab⟩;obtain⟨y,hy⟩:∃z,ys[j]?=some z:=⟨_,List.getElem?_eq_getElem Ab⟩;have hcx:(xs.map i64)[((j:Nat):Int).toNat*1]?=some (i64 x):=by simp [hx]
      have hcy:(ys.map i64)[((j:Nat):Int).toNat*1]?=some (i64 y):=by simp [hy]
      have hfc:=(KT own x y).to (congrArg Value.bool (decide_eq_true (hp j x y hx hy)))
      repeat' (first|apply B4|refine B3 0 BY AH ?_|refine B3 1 BY Ap ?_|refine Cs 2 BY Aj Ab ?_|refine B3 3 BY AE ?_|refine B3 4 BY (EI rfl rfl rfl rfl rfl (hfc)) ?_|refine B0 ?_|apply B5|refine B8 ?_|refine Cl ?_|refine Cg ?_|refine Cf ?_|apply Cc)
      exact⟨rfl,j+1,CA (by repeat first|exact Sub.nil _|refine Sub.cons rfl ?_),by omega,by omega⟩
    · repeat' (first|apply B4|refine B3 0 BY Au ?_|refine CE 2 BY Aj Ab ?_|refine B0 ?_|apply B5|refine B8 ?_|refine Cg ?_|apply Cb|refine CC ?_)
      refine Cr (Ce (B7 rfl)) ?_
      rfl
  · refine⟨false,by simp [hf],?_⟩;refine Ci Tryz.func49 rfl (Nat.le_of_ble_eq_true rfl) fun F=> ?_
    by_cases hn:n1=n2
    · subst hn;have hex:∃(k:Nat) (x y:Int),xs[k]?=some x/\ys[k]?=some y/\¬LI x y:=by
        apply Classical.byContradiction;intro dQ;exact hf ⟨by omega,fun i x y hx hy=>Classical.byContradiction fun LC=>dQ ⟨i,x,y,hx,hy,LC⟩⟩
      obtain⟨k,x0,y0,Rp,jY,iE⟩:=hex;have hk:k<n1:=by rw [<-h1];exact(List.getElem?_eq_some_iff.1 Rp).1
      repeat' (first|apply B4|refine B3 0 BY Af ?_|refine CE 2 BY Av Ab ?_|refine B3 4 BY Ag ?_|refine B0 ?_|apply B5|refine B8 ?_|refine Cg ?_|refine Cf ?_|apply Cc)
      refine CH (fun j:Nat=> [(1,.slice b2 n1 c2),(2,P9 50),(15,.slice b1 n1 c1),(16,i64 (n1:Int)),(17,i64 (j:Int))])
        (fun _=>own) (fun j=>j≤k) (fun j=>n1 - j) 0 (by repeat first|exact Sub.nil _|refine Sub.cons rfl ?_) (Nat.zero_le _) ?_
      rintro j Pm;obtain⟨x,hx⟩:∃z,xs[j]?=some z:=⟨_,List.getElem?_eq_getElem Ab⟩;obtain⟨y,hy⟩:∃z,ys[j]?=some z:=⟨_,List.getElem?_eq_getElem Ab⟩;have hcx:(xs.map i64)[((j:Nat):Int).toNat*1]?=some (i64 x):=by simp [hx]
      have hcy:(ys.map i64)[((j:Nat):Int).toNat*1]?=some (i64 y):=by simp [hy]
      by_cases Ju:LI x y
      · have hfc:=(KT own x y).to (congrArg Value.bool (decide_eq_true Ju));have ke:j≠k:=fun e=>by
          subst e;rw [hx] at Rp;rw [hy] at jY;cases Rp;cases jY;exact iE Ju
        repeat' (first|apply B4|refine B3 0 BY AH ?_|refine B3 1 BY Ap ?_|refine Cs 2 BY Aj Ab ?_|refine B3 3 BY AE ?_|refine B3 4 BY (EI rfl rfl rfl rfl rfl (hfc)) ?_|refine B0 ?_|apply B5|refine B8 ?_|refine Cl ?_|refine Cg ?_|refine Cf ?_|apply Cc)
        exact⟨rfl,j+1,CA (by repeat first|exact Sub.nil _|refine Sub.cons rfl ?_),by omega,by omega⟩
      · have hfc:=(KT own x y).to (congrArg Value.bool (decide_eq_false Ju))
        repeat' (first|apply B4|refine B3 0 BY AW ?_|refine Cs 2 BY Aj Ab ?_|refine B3 3 BY AE ?_|refine B3 4 BY (EI rfl rfl rfl rfl rfl (hfc)) ?_|refine B0 ?_|apply B5|refine B8 ?_|refine Cl ?_|refine Cf ?_|apply Cb|apply Cc|refine Cx ?_|refine Dd ?_)
        refine Cr (Ce (B7 rfl)) ?_
        rfl
    · repeat' (first|apply B4|refine B3 0 BY Af ?_|refine Cs 2 BY Av Ab ?_|refine B3 4 BY Ag ?_|refine B0 ?_|apply B5|refine B8 ?_|refine Cl ?_|apply Cb|refine Cx ?_)
      refine Cr (Ce (B7 rfl)) ?_
      rfl
end Go.Proofs.YtcnmnmjmpocepaaGreatDoor.Kd
end
