
import Derived.Test.YtcnmnmjmpocepaaGreatDoorV00
import Derived.Test.YtcnmnmjmpocepaaGreatDoorV09
import Derived.Test.YtcnmnmjmpocepaaGreatDoorV27
import Derived.Test.YtcnmnmjmpocepaaGreatDoorV19
set_option linter.unusedVariables false
set_option linter.unusedSimpArgs false
set_option linter.unusedSectionVars false
set_option maxRecDepth 100000
set_option maxHeartbeats 16000000
section
namespace Go.Proofs.YtcnmnmjmpocepaaGreatDoor
open Go.SL
open Kd
structure SA where
  a:Nat
  σ:Fs
  K:CA
  H:CA
structure SG where
  j:Nat
  σ:Fs
  K:CA
  gv:Bool
  H:CA
  A:CA
  B:CA
attribute [local irreducible] SL.T Dw DG DE DI Et D0
theorem YW (p : Pz)(im:Im)(m:Me)(HX:Nat)(Rf:Fs)(K0:CA)(iH:m.code.length=p.n)(DO:p.n≤1000000):
    iU Tryz.prog 116 [] [.pointer (some ⟨HX,0,none⟩)] [] (.scan 0 Rf K0) (QY p im m HX) (o4 p im m HX) oZ (ki p im m) (o6 p):=by
  intro L J Jd Jx hv ZL hd hr H h0;refine CM Tryz.func116 rfl (Nat.le_of_ble_eq_true rfl) fun F=> ?_
  have V0:=hv _ _ h0;haveI iB:LO H HX _:=⟨V0.box _ _ (Dq _ _)⟩;haveI iP:LO H p.DA _:=⟨V0.fL _ _ (Dq _ _)⟩
  repeat' (first|apply Cv|refine Ct 0 Cr Ap ?_|refine Ct 3 Cr Af ?_|refine Ct 4 Cr Ae ?_|refine Ct 5 Cr Ak ?_|refine Cu ?_|apply Cw|refine Cy ?_|refine CC ?_)
  clear iB iP V0;refine C4 (fun s:SA=> [(0,.func (.yield L) #[] #[]),(1,.pointer (some ⟨HX,0,none⟩)),(13,i64 (p.n:Int)),(14,i64 (s.a:Int))])
    (fun s=> [s.H]) (fun s=>s.a≤p.n/\J (.scan s.a s.σ s.K) s.H) (fun s=>p.n - s.a) ⟨0,Rf,K0,H⟩ (by repeat first|exact Sub.nil _|refine Sub.cons rfl ?_) ⟨Nat.zero_le _,h0⟩ ?_
  clear h0;rintro⟨a,σ,K,H⟩ ⟨ha,hJ⟩;dsimp only at ha hJ ⊢
  have V:=hv _ _ hJ;haveI iB:LO H HX _:=⟨V.box _ _ (Dq _ _)⟩;haveI iP:LO H p.DA _:=⟨V.fL _ _ (Dq _ _)⟩;obtain⟨cs,Yb,WR,hF⟩:∃cs,Sl H p.fb cs/\Sl H p.hb (DM σ)/\GL K σ cs:=V.cells;have hn:σ.length=p.n:=V.len;have hS:Hw σ:=V.Dl;by_cases gq:a<p.n
  · obtain ⟨o,hs⟩:∃o,σ[a]?=some o:=⟨_,List.getElem?_eq_getElem Ab⟩;have Jt:cs.length=σ.length*2:=hF.1;have hhl:(DM σ).length=p.n:=by simp [DM,hn]
    have hkf:((a:Nat):Int).toNat*2<cs.length:=by simp;omega
    have hkh:((a:Nat):Int).toNat*1<(DM σ).length:=by simp;omega
    cases o with
    | none=>
      have XE:(DM σ)[((a:Nat):Int).toNat*1]?=some (.bool false):=by simpa using F8 hs
      repeat' (first|apply Cv|refine Ct 0 Cr Ap ?_|refine CO 2 Cr Aj Ab ?_|refine CT (fun β=> ?_)|refine CN ?_|refine Cu ?_|apply Cw|refine CH ?_|refine CC ?_|apply CB)
      refine De Ac Ac rfl ?_
      repeat' (first|refine Ct 0 Cr BO ?_|refine Ct 1 Cr Ao ?_|refine Ct 3 Cr AG ?_|refine Ct 5 Cr Ak ?_|refine Cu ?_|apply Cw|refine Cy ?_|refine CH ?_|refine C1 ?_)
      exact⟨rfl,⟨a+1,σ,K,H⟩,CX (by repeat first|exact Sub.nil _|refine Sub.cons rfl ?_),⟨gq,ZL _ _ _ (.none hs gq) hJ⟩,by dsimp only;omega⟩
    | some g=>
      have XE:(DM σ)[((a:Nat):Int).toNat*1]?=some (.bool true):=by simpa using F8 hs
      obtain⟨d1,e1,d2,e2,q1,q2,q3,q4,q5⟩:=hF.2 a g hs;have L9:cs[((a:Nat):Int).toNat*2]?=some (.slice d1 g.1.length e1):=q1;have L8:cs[((a:Nat):Int).toNat*2+1]?=some (.slice d2 g.2.length e2):=q2;have hg:=hS g (List.mem_of_getElem? hs);have hct:=MI σ;have Gy:=fun own hk=>ku own K hk im p.Du p.mb d1 d2 p.Dr p.DP p.mn p.mc g.1.length e1 g.2.length e2 p.mi (a:Int) g.1 g.2 V.cls V.ms q3 q4 rfl rfl Ab Ab q5
      cases hsf:E9 im p.mi (a:Int) g.1 g.2 with
      | inl c=>
        rw [hsf] at Gy
        have hnz:c≠0:=by rcases NX hsf with q|q <;>omega
        repeat' (first|apply Cv|refine Ct 0 Cr Ap ?_|refine CO 2 Cr Aj Ab ?_|refine CT (fun β=> ?_)|refine CN ?_|refine Cu ?_|apply Cw|refine CH ?_|refine CC ?_|apply CB)
        refine De Ac Ac rfl ?_
        repeat' (first|apply Cv|refine Ct 0 Cr BS ?_|refine Ct 3 Cr AG ?_|refine Ct 5 Cr Ak ?_|apply Cw|refine Cy ?_|refine CF ?_|apply CB)
        obtain⟨JQ,rfl⟩:∃x,x=β:=⟨_,rfl⟩;refine C0 [.q [0,1,2,3,4,5,6,7,8,9,10,11,12,13,14,15],.an 20,.an 21,.h false 16,.q [17,18],.f [19],.rv 20,.rv 21,.h true 22,.h true 23] [H,CV JQ (.cells ⟨[i64 (a:Int)]⟩ 3 (0,0))] Ac Ac Ac Ac ?_
        repeat' ((fail_if_success (refine Ep 6 ?_));(first|apply Cv|refine Ct 0 Cr BG ?_|refine CO 2 Cr Ax Ab ?_|refine Ct 3 Cr A6 ?_|refine Ct 5 Cr Ak ?_|refine Cu ?_|refine C5 ?_|refine Dd rfl ?_|refine Fq rfl ?_|refine Dn rfl rfl AR ?_|refine DN rfl rfl rfl (fun β=> ?_)|refine Df rfl rfl rfl rfl rfl rfl Aa rfl Aa Aa ?_|(refine IY rfl rfl rfl rfl rfl rfl rfl rfl (Gy _ ⟨H,by simp,V.kk⟩) ?_;rintro _ _ ⟨Kn,K',rfl,hKn,rfl⟩;refine⟨_,_,rfl,rfl,?_⟩)|apply Cw|refine Cy ?_|refine CH ?_))
        obtain⟨Gr,rfl⟩:∃x,x=β:=⟨_,rfl⟩;obtain⟨EO,rfl⟩:∃x,x=β:=⟨_,rfl⟩;refine Cv ?_;have hyy:=hr _ H _ _ hJ ⟨g,c,JQ,EO,Gr,hs,hsf,gq,rfl,rfl⟩
        repeat' (first|refine Ct 0 Cr Bt ?_|refine Ct 3 Cr AN ?_|refine Cu ?_)
        refine Mn (hs:= [H,VH EO none none 0 0 0 0,CV Gr (.cells ⟨[i64 c]⟩ 34 (0,0)),CV JQ (.cells ⟨[i64 (a:Int)]⟩ 3 (0,0))]) rfl rfl rfl (Qq rfl rfl rfl rfl hyy) ?_;rintro v own' ⟨H',rfl,⟨rfl,s',hf,_⟩|⟨rfl,hJ'⟩⟩
        · exact hf.elim
        · refine⟨_,rfl,?_⟩
          repeat' (first|apply Cw|refine Cy ?_|apply Cz|refine CQ ?_|refine C3 ?_)
          exact CJ [H'] Dt ⟨rfl,H',rfl,.inr hJ'⟩
      | inr f =>
        rw [hsf] at Gy
        haveI slC:Sl H p.cb (Nd.CZ (Hy m.code)):=by rw [HQ];exact V.code.mono V.kk
        repeat' (first|apply Cv|refine Ct 0 Cr Ap ?_|refine CO 2 Cr Aj Ab ?_|refine CT (fun β=> ?_)|refine CN ?_|refine Cu ?_|apply Cw|refine CH ?_|refine CC ?_|apply CB)
        refine De Ac Ac rfl ?_
        repeat' (first|apply Cv|refine Ct 0 Cr BS ?_|refine Ct 3 Cr AG ?_|refine Ct 5 Cr Ak ?_|apply Cw|refine Cy ?_|refine CF ?_|apply CB)
        obtain⟨JQ,rfl⟩:∃x,x=β:=⟨_,rfl⟩;refine C0 [.q [0,1,2,3,4,5,6,7,8,9,10,11,12,13,14,15],.an 20,.an 21,.h false 16,.q [17,18],.f [19],.rv 20,.rv 21,.h true 22,.h true 23] [H,CV JQ (.cells ⟨[i64 (a:Int)]⟩ 3 (0,0))] Ac Ac Ac Ac ?_
        repeat' (first|apply Cv|refine Ct 0 Cr BG ?_|refine CY 2 Cr Ax Ab ?_|refine Ct 3 Cr A6 ?_|refine Ct 5 Cr Ak ?_|refine Cu ?_|refine C5 ?_|refine Dd rfl ?_|refine Fq rfl ?_|refine Dn rfl rfl AR ?_|refine DN rfl rfl rfl (fun β=> ?_)|refine Df rfl rfl rfl rfl rfl rfl Aa rfl Aa Aa ?_|(refine IY rfl rfl rfl rfl rfl rfl rfl rfl (Gy _ ⟨H,by simp,V.kk⟩) ?_;rintro _ _ ⟨Kn,K',rfl,hKn,b1,c1,b2,c2,rfl,r1,r2,r3⟩;refine⟨_,_,rfl,rfl,?_⟩)|apply Cw|refine Cy ?_|refine CF ?_|apply CB)
        obtain⟨Gr,rfl⟩:∃x,x=β:=⟨_,rfl⟩;obtain⟨EO,rfl⟩:∃x,x=β:=⟨_,rfl⟩;refine C0 [.q [0,1,2,3,4,7],.h false 5,.q [6]] [H,CV JQ (.cells ⟨[i64 (a:Int)]⟩ 3 (0,0))] Ac Ac Ac Ac ?_
        repeat' (first|refine Ct 0 Cr Ap ?_|refine Ct 3 Cr AE ?_|refine Ct 4 Cr Ae ?_|refine Ct 5 Cr Ak ?_|refine C5 ?_|refine Dd rfl ?_|(refine IY rfl rfl rfl rfl rfl rfl rfl rfl (Nd.XZ _ (.slice p.pb p.pn p.pc) p.lo p.st p.cb p.n p.cc (Hy m.code) (a:Int) (by rw [Fh];exact iH) Ab) ?_;rintro _ _ ⟨hN,bN,cN,rfl,rfl,osN⟩;refine⟨_,_,rfl,rfl,?_⟩)|apply Cw|refine Cy ?_|refine CC ?_)
        have hfl:=JT hsf;have hfs:=Lv hsf;have hJ1:J (.go a σ K f 0 EO b1 b2 c1 c2 false) H:=ZL _ _ _ (.step hs hsf gq) hJ
        generalize hL:Nd.Gp (Hy m.code) (a:Int)=N at osN ⊢
        have hL2:N.length≤2:=by rw [<-hL];exact Nd.H6 _ _
        haveI slN:=osN.sl;clear iB iP slC Yb WR hJ;refine C4 (fun s:SG=> [(0,.func (.yield L) #[] #[]),(1,.pointer (some ⟨HX,0,none⟩)),(13,i64 (p.n:Int)),(14,i64 (a:Int)),(4,.pointer (some ⟨EO,0,none⟩)),(56,.slice bN N.length cN),(57,i64 (N.length:Int)),(58,i64 (s.j:Int))])
          (fun s=> [s.H,hN,s.A,s.B])
          (fun s=>s.j≤N.length/\J (.go a s.σ s.K f s.j EO b1 b2 c1 c2 s.gv) s.H/\((s.gv=true/\s.A=emp/\s.B=emp)∨(s.gv=false/\s.K=K/\s.A=Kn/\s.B=VH EO b1 b2 f.1.length f.2.length c1 c2))) (fun s=>N.length - s.j)
          ⟨0,σ,K,false,H,Kn,VH EO b1 b2 f.1.length f.2.length c1 c2⟩ (by repeat first|exact Sub.nil _|refine Sub.cons rfl ?_) ⟨Nat.zero_le _,hJ1,.inr ⟨rfl,rfl,rfl,rfl⟩⟩ ?_
        clear hJ1;rintro⟨j,σ1,K1,gv,H1,A,B⟩ ⟨hj,hJ1,ZO⟩;dsimp only at hj hJ1 ZO ⊢
        have V1:=hv _ _ hJ1;haveI iB:LO H1 HX _:=⟨V1.box _ _ (Dq _ _)⟩;haveI iP:LO H1 p.DA _:=⟨V1.fL _ _ (Dq _ _)⟩;by_cases hjL:j<N.length
        · obtain⟨t,ht⟩:∃z,N[j]?=some z:=⟨_,List.getElem?_eq_getElem hjL⟩;have hct2:(N.map i64)[((j:Nat):Int).toNat*1]?=some (i64 t):=by simp [ht]
          have hkj:((j:Nat):Int).toNat*1<(N.map i64).length:=by simp;omega
          by_cases eo:0≤t
          · by_cases ng:t<p.n
            · have hyy:=hr _ H1 [i64 t,.func (.func 118) #[] #[.pointer (some ⟨EO,0,none⟩)]] [A,B] hJ1 ⟨t,by rw [hL];exact ht,eo,ng,rfl,by
                rcases ZO with ⟨q1,q2,q3⟩|⟨q1,q2,q3,q4⟩
                · exact .inl ⟨q1,by rw [q2,q3]⟩
                · exact .inr ⟨q1,Kn,K',by rw [q3,q4],by rw [q2];exact hKn,r1,r2,r3⟩⟩
              repeat' (first|apply Cv|refine Ct 0 Cr (by first|exact Dh rfl rfl|exact Db rfl rfl|exact DS rfl rfl rfl|exact Eu rfl rfl rfl) ?_|refine CO 2 Cr Ar Ab ?_|refine Ct 3 Cr AG ?_|refine Ct 4 Cr Ae ?_|refine Ct 5 Cr Ak ?_|refine Cu ?_|apply Cw|refine CH ?_|refine CC ?_|apply CB)
              refine Mn (hs:= [H1,A,B]) rfl rfl rfl (Qq rfl rfl rfl rfl hyy) ?_;rintro v own' ⟨H',rfl,⟨rfl,s',⟨ED,K2,rfl⟩,hJ'⟩|⟨rfl,hJ'⟩⟩ <;>refine⟨_,rfl,?_⟩
              · repeat' (first|refine Ct 0 Cr (by first|exact Dh rfl rfl|exact DS rfl rfl rfl|exact Eg rfl rfl) ?_|refine Ct 1 Cr Ao ?_|refine Cu ?_|apply Cw|refine Cy ?_|refine CF ?_|apply CB)
                exact⟨rfl,⟨j+1,ED,K2,true,H',emp,emp⟩,Zv (by repeat first|exact Sub.nil _|refine Sub.cons rfl ?_),⟨hjL,hJ',.inl ⟨rfl,rfl,rfl⟩⟩,by dsimp only;omega⟩
              · repeat' (first|refine Ct 0 Cr (by first|exact DS rfl rfl rfl|exact EU rfl rfl) ?_|apply Cw|refine Cy ?_|refine CH ?_|apply Cz|refine CQ ?_|refine C3 ?_)
                exact CJ [H'] Dt ⟨rfl,H',rfl,.inr hJ'⟩
            · have hJ2:=ZL _ _ _ (.skip (p:=p) (im:=im) (m:=m) (by rw [hL];exact ht) (fun q=>ng q.2)) hJ1
              repeat' (first|apply Cv|refine Ct 0 Cr (by first|exact Dh rfl rfl|exact Db rfl rfl|exact DS rfl rfl rfl|exact DY rfl rfl rfl|exact Eu rfl rfl rfl) ?_|refine CG 0 Cs ?_|refine Ct 1 Cr Ao ?_|refine CO 2 Cr Ar Ab ?_|refine CY 2 Cr Aj Ab ?_|refine Ct 3 Cr AG ?_|refine CG 4 Cs ?_|refine Ct 4 Cr Ae ?_|refine Ct 5 Cr Ak ?_|refine Cu ?_|apply Cw|refine Cy ?_|refine CH ?_|refine CF ?_|refine CC ?_|apply CB)
              exact⟨rfl,⟨j+1,σ1,K1,gv,H1,A,B⟩,CX (by repeat first|exact Sub.nil _|refine Sub.cons rfl ?_),⟨hjL,hJ2,ZO⟩,by dsimp only;omega⟩
          · have hJ2:=ZL _ _ _ (.skip (p:=p) (im:=im) (m:=m) (by rw [hL];exact ht) (fun q=>eo q.1)) hJ1
            repeat' (first|apply Cv|refine Ct 0 Cr B3 ?_|refine CG 0 Cs ?_|refine Ct 1 Cr Ao ?_|refine CG 2 Cs ?_|refine CO 2 Cr Ar Ab ?_|refine CY 2 Cr AB Ab ?_|refine Ct 3 Cr (by first|exact DU rfl Aa rfl Aa|exact C7 rfl rfl rfl Ab Ab Ab|exact D7 rfl Aa Ai Ad) ?_|refine CG 3 Cs ?_|refine CG 4 Cs ?_|refine CG 5 Cs ?_|refine Cu ?_|apply Cw|refine Cy ?_|refine CH ?_|refine CF ?_|refine CC ?_|apply CB)
            exact⟨rfl,⟨j+1,σ1,K1,gv,H1,A,B⟩,CX (by repeat first|exact Sub.nil _|refine Sub.cons rfl ?_),⟨hjL,hJ2,ZO⟩,by dsimp only;omega⟩
        · have hJ2:=ZL _ _ _ (.behind (p:=p) (im:=im) (m:=m) (by rw [hL];omega)) hJ1
          repeat' (first|apply Cv|refine Ct 0 Cr Ap ?_|refine Ct 1 Cr Ao ?_|refine CY 2 Cr Aj Ab ?_|refine Cu ?_|apply Cw|refine Cy ?_|refine CF ?_|refine C1 ?_)
          exact⟨rfl,⟨a+1,σ1,K1,H1⟩,CX (by repeat first|exact Sub.nil _|refine Sub.cons rfl ?_),⟨gq,hJ2⟩,by dsimp only;omega⟩
  · obtain rfl:a=p.n:=by omega
    repeat' (first|apply Cv|refine CY 2 Cr Aj Ab ?_|refine Cu ?_|apply Cw|refine CF ?_|refine C1 ?_|refine Gf ?_|refine Gh ?_)
    exact HR [H] Dt ⟨rfl,H,rfl,.inl (hd _ _ ⟨σ,K,rfl⟩ hJ)⟩
end Go.Proofs.YtcnmnmjmpocepaaGreatDoor
end
section
namespace Go.Proofs.YtcnmnmjmpocepaaGreatDoor
open Go.SL
open Kd
abbrev Vb(Gr:Nat)(b:Bool):CA:=CV Gr (.cells ⟨[.bool b]⟩ 4 (0,0))
abbrev PV(Ei:Nat)(v:Value):CA:=CV Ei (.cells ⟨[v]⟩ 40 (0,0))
abbrev Mc(p:Pz)(M:CA)(Ei Gr ET HX:Nat)(b:Bool)(HF HH K:CA):List CA:= [M,PV Ei .nilIface,Vb Gr b,KP ET p.DA,KP HX p.DA,p.B,HF,HH,K]
structure ae(p:Pz)(K0:CA)(σ:Fs)(K HF HH:CA)(cs:List Value):Prop where
  le:hle K0 K
  HU:OS HF p.fb p.n p.n 59 2 cs
  HT:OS HH p.hb p.n p.n 4 1 (DM σ)
  fr:GL K σ cs
  Dl:Hw σ
  len:σ.length=p.n
section
variable (p:Pz) (im:Im) (m:Me) (M:CA) (Ei Gr ET HX:Nat) (Rf:Fs) (K0:CA)
def Core:WS->List CA->Prop
  | .scan a σ K,o=>∃HF HH cs b,o=Mc p M Ei Gr ET HX b HF HH K/\ae p K0 σ K HF HH cs/\Ez im p.mi (Q7 m.code p.n) Rf (List.range a) false= .ok (σ,b)
  | .go a σ K f j EO b1 b2 c1 c2 gv,o=>∃HF HH cs b WA ba g,ae p K0 σ K HF HH cs/\Ez im p.mi (Q7 m.code p.n) Rf (List.range a) false= .ok (WA,ba)/\a<p.n/\
      WA[a]?=some (some g)/\E9 im p.mi (a:Int) g.1 g.2= .inr f/\
      Hb WA f (((Nd.Gp (Hy m.code) (a:Int)).take j).filterMap fun t:Int=>if 0≤t/\t<p.n then some t.toNat else none) ba= .ok (σ,b)/\
      f.1.length≤65536/\f.2.length≤J7 WA/\J7 WA≤J7 σ/\WA.length=p.n/\
      ((gv=false/\o=Mc p M Ei Gr ET HX b HF HH K)∨(gv=true/\o=Mc p M Ei Gr ET HX b HF HH K++ [VH EO b1 b2 f.1.length f.2.length c1 c2]/\Sl K b1 (f.1.map i64)/\Sl K b2 (f.2.map i64)/\f.2.length≤c2))
def JJ(s:WS)(own1:List CA):Prop:=∃K6 rest,own1.Perm (K6++rest)/\Core p im m M Ei Gr ET HX Rf K0 s K6
variable {p im m M Ei Gr ET HX Rf K0}
theorem Z1(EP:FY K0 im.cls p.Du p.Dr)(Gq:Hd K0 im.ms p.mb p.mn)(Iu:Sl K0 p.cb (CZ m.code)){s:WS}{own1:List CA}(h:JJ p im m M Ei Gr ET HX Rf K0 s own1)(d:own1.Pairwise Eo):QY p im m HX s (Da own1):=by
  obtain⟨K6,rest,hp,h⟩:=h;have go:∀(σ:Fs) (K HF HH:CA) (cs:List Value) (b:Bool),s.σ=σ->s.K=K->ae p K0 σ K HF HH cs->(∀k∈Mc p M Ei Gr ET HX b HF HH K,k∈own1)->QY p im m HX s (Da own1):=by
    intro σ K HF HH cs b e1 e2 hf hk;have l:∀k∈Mc p M Ei Gr ET HX b HF HH K,hle k (Da own1):=fun k q=>Fe d (hk k q)
    refine⟨l _ Am,l _ Am,by rw [e2];exact l _ Am,?_,by rw [e2];exact EP.mono hf.le,by rw [e2];exact Gq.mono hf.le,by rw [e2];exact Iu.mono hf.le,by rw [e1];exact hf.len,by rw [e1];exact hf.Dl⟩;rw [e1,e2];exact⟨cs,hf.HU.sl.mono (l _ Am),hf.HT.sl.mono (l _ Am),hf.fr⟩
  have hm:∀k∈K6,k∈own1:=fun k q=>hp.mem_iff.2 (List.mem_append_left _ q)
  cases s with
  | scan a σ K=>
    obtain⟨HF,HH,cs,b,rfl,hf,_⟩:=h;exact go σ K HF HH cs b rfl rfl hf hm
  | go a σ K f j EO b1 b2 c1 c2 gv=>
    obtain⟨HF,HH,cs,b,WA,ba,g,hf, -, -, -, -, -, -, -, -, -,h⟩:=h;refine go σ K HF HH cs b rfl rfl hf fun k q=>hm k ?_
    rcases h with ⟨_,rfl⟩|⟨_,rfl,_⟩
    · exact q
    · exact List.mem_append_left _ q
theorem gH{s s':WS}{own1:List CA}(hm:ki p im m s s')(h:JJ p im m M Ei Gr ET HX Rf K0 s own1):JJ p im m M Ei Gr ET HX Rf K0 s' own1:=by
  obtain⟨K6,rest,hp,h⟩:=h;cases hm with
  | @none a σ K hs ha=>
    obtain⟨HF,HH,cs,b,rfl,hf,hr⟩:=h;exact⟨_,rest,hp,HF,HH,cs,b,rfl,hf,by rw [List.range_succ,Ij,hr];simp only [FN,hs]⟩
  | @step a σ K g f EO b1 b2 c1 c2 hs Gy ha=>
    obtain⟨HF,HH,cs,b,rfl,hf,hr⟩:=h;have hg:=hf.Dl g (List.mem_of_getElem? hs);have l1:=JT Gy;have l2:=Lv Gy;exact⟨_,rest,hp,HF,HH,cs,b,σ,b,g,hf,hr,ha,hs,Gy,rfl,by omega,by omega,Nat.le_refl _,hf.len,.inl ⟨rfl,rfl⟩⟩
  | @skip a σ K f j EO b1 b2 c1 c2 gv t ht gg=>
    obtain⟨HF,HH,cs,b,WA,ba,g,hf,q1,q2,q3,q4,q5,q6⟩:=h;refine⟨_,rest,hp,HF,HH,cs,b,WA,ba,g,hf,q1,q2,q3,q4,?_,q6⟩;rw [Lj ht,if_neg gg,List.append_nil];exact q5
  | @behind a σ K f j EO b1 b2 c1 c2 gv hj=>
    obtain⟨HF,HH,cs,b,WA,ba,g,hf,q1,q2,q3,q4,q5, -, -, -, -,q6⟩:=h;subst hj;rw [List.take_length] at q5
    have hr:Ez im p.mi (Q7 m.code p.n) Rf (List.range (a+1)) false= .ok (σ,b):=by
      rw [List.range_succ,Ij,q1];simp only [FN,q3,q4];exact q5
    rcases q6 with ⟨_,rfl⟩|⟨_,rfl,_⟩
    · exact⟨_,rest,hp,HF,HH,cs,b,rfl,hf,hr⟩
    · exact⟨Mc p M Ei Gr ET HX b HF HH K,[VH EO b1 b2 f.1.length f.2.length c1 c2]++rest,by rw [<-List.append_assoc];exact hp,HF,HH,cs,b,rfl,hf,hr⟩
end
def sx(p:Pz)(im:Im)(m:Me)(M:CA)(Ei:Nat)(Rf:Fs)(K0:CA)(c:Code)(own1:List CA):Prop:=
  c= .ret/\∃HF HH K Ec e a,own1= [M,PV Ei (LQ Ec),p.B,HF,HH,K,EF Ec e p.mi a]/\hle K0 K/\Ez im p.mi (Q7 m.code p.n) Rf (List.range p.n) false= .error (e,a)
theorem Y6{P:Program}{r:Option Nat}{F:CA}{n:Nat}{c:Code}{Q:DD}{env:Env}{own1 K6 rest Ws A:List CA}{ds:List Deferred}{K FR:CA}{R:CA->Prop}
    (hp:own1.Perm (K6++rest))
    (hw:(K6=A++ [K]++ [FR]/\R K)∨(K6=A++ [K]/\∃Kn,Ws= [Kn,FR]/\∀K3,hle K K3->hle Kn K3->R K3))
    (h:∀K3,hle K K3->R K3->DI P r F n c Q env (K3::FR::A) ds):DI P r F n c Q env (own1++Ws) ds:=by
  refine Pg (UJ hp) ?_;rcases hw with ⟨rfl,hR⟩|⟨rfl,Kn,rfl,hR⟩
  · refine Pg (own':=K::FR::A) (fun w s=> ?_) (h K (hle.refl _) hR);refine(s.perm (List.Perm.cons F (?_:List.Perm _ ((K::FR::A)++Ws)))).sub (List.Sublist.cons_cons F (List.sublist_append_left _ _));refine List.Perm.append_right Ws ?_;rw [List.append_assoc];exact List.perm_append_comm
  · intro a w ha hd s;have s2:Sat ([K,Kn]++(FR::(A++ [F]))) w:=s.perm (by
      have e:(F::((A++ [K])++ [Kn,FR])).Perm ((A++ [F])++ [K,Kn,FR]):=by
        have:(F::((A++ [K])++ [Kn,FR]))= [F]++A++ [K,Kn,FR]:=by simp
        rw [this];exact List.Perm.append_right _ List.perm_append_comm
      exact e.trans List.perm_append_comm)
    have d: [K,Kn].Pairwise Eo:=(List.pairwise_append.1 s2.dj).1;have l1:hle K (Da [K,Kn]):=Fe d Am;have l2:hle Kn (Da [K,Kn]):=Fe d Am;refine h (Da [K,Kn]) l1 (hR _ l1 l2) a w ha hd (s2.Da.perm ?_);have:(Da [K,Kn]::FR::(A++ [F]))=(Da [K,Kn]::FR::A)++ [F]:=by simp
    rw [this];exact List.perm_append_comm (l₁:=Da [K,Kn]::FR::A) (l₂:= [F])
attribute [local irreducible] SL.T Dw DG DE DI Et D0
theorem XJ(EO:Nat)(b1 b2:Option Addr)(n1 n2 c1 c2:Nat):Dw Tryz.prog 118 [.pointer (some ⟨EO,0,none⟩)] [VH EO b1 b2 n1 n2 c1 c2] (.tuple #[fr b1 b2 n1 n2 c1 c2,.nilIface]):=by
  refine CL Tryz.func118 rfl (Nat.le_of_ble_eq_true rfl) fun F=> ?_
  repeat' (first|apply Cv|refine Ct 0 Cr Au ?_|refine Ct 3 Cr AA ?_|refine CT (fun β=> ?_)|refine CN ?_|refine Cu ?_|apply Cw|refine Cy ?_|apply Cz)
  exact CJ [VH EO b1 b2 n1 n2 c1 c2] (CU (CR rfl rfl rfl rfl) (Cx rfl)) ⟨rfl,rfl⟩
theorem gu(p:Pz)(EO HX Gr JQ:Nat)(c a:Int):SL.T Tryz.prog 117 [.pointer (some ⟨EO,0,none⟩),.pointer (some ⟨HX,0,none⟩),.pointer (some ⟨Gr,0,none⟩),.pointer (some ⟨JQ,0,none⟩)]
    [VH EO none none 0 0 0 0,KP HX p.DA,CV Gr (.cells ⟨[i64 c]⟩ 34 (0,0)),CV JQ (.cells ⟨[i64 a]⟩ 3 (0,0)),p.B] fun e o=>
      ∃Ec,e= .returned (.tuple #[JZ,LQ Ec])/\o= [p.B,EF Ec c p.mi a]:=by
  have hfl:=Iv p.DA p.pb p.pn p.pc p.lo p.st p.cb p.n p.cc p.Du p.Dr p.DP p.mb p.mn p.mc p.mi p.fb p.hb p.n c a;refine CM Tryz.func117 rfl (Nat.le_of_ble_eq_true rfl) fun F=> ?_
  repeat' (first|apply Cv|refine Ct 0 Cr Au ?_|refine CT (fun β=> ?_)|refine Cu ?_|apply Cw)
  refine C0 [.q [0,1,2,3],.h false 4,.h true 5,.q [6]] [VH EO none none 0 0 0 0,KP HX p.DA,CV Gr (.cells ⟨[i64 c]⟩ 34 (0,0)),CV JQ (.cells ⟨[i64 a]⟩ 3 (0,0))] Ac Ac Ac Ac ?_
  repeat' (first|refine Ct 0 Cr Au ?_|refine Ct 3 Cr A2 ?_|refine C5 ?_|refine Dd rfl ?_|refine Df rfl rfl rfl rfl rfl rfl Aa rfl Aa Aa ?_|(refine Ev rfl rfl rfl rfl rfl rfl rfl rfl (hfl) (by rintro _ _ ⟨Ec,rfl,rfl⟩;exact⟨_,rfl⟩) ?_;rintro _ _ ⟨Ec,rfl,rfl⟩;refine⟨_,_,rfl,rfl,?_⟩)|apply Cw|refine Cy ?_|apply Cz)
  exact CJ [p.B,EF Ec c p.mi a] (CU (CR rfl rfl rfl rfl) (Cx rfl)) ⟨Ec,rfl,rfl⟩
end Go.Proofs.YtcnmnmjmpocepaaGreatDoor
end
