
import Derived.Test.YtcnmnmjmpocepaaGreatDoorU00
import Derived.Test.YtcnmnmjmpocepaaGreatDoorU11
import Derived.Test.YtcnmnmjmpocepaaGreatDoorU46
set_option linter.unusedVariables false
set_option linter.unusedSimpArgs false
set_option linter.unusedSectionVars false
set_option maxRecDepth 100000
set_option maxHeartbeats 16000000
namespace Go.Proofs.YtcnmnmjmpocepaaGreatDoor
open Go.SL
open Kd
theorem JO{P:Program}{r:Option Nat}{F:B6}{n:Nat}{c:Code}{Q:C4}{env:Env}{own rest:List B6}{ds:List Deferred}{K hS:B6} [t:C1 own [K,hS] rest]
    (h:∀J,hle K J->hle hS J->Db P r F n c Q env (J::rest) ds):Db P r F n c Q env own ds:=by
  intro a w ha hd s;have s2:Sat ([K,hS]++(rest++ [F])) w:=s.perm (by
    have h1:(F::own).Perm (own++ [F]):=List.perm_append_comm (l₁:= [F]) (l₂:=own);refine h1.trans ?_;rw [<-List.append_assoc];exact t.perm.append_right [F])
  have d: [K,hS].Pairwise DM:=(List.pairwise_append.1 s2.dj).1;refine h (CB [K,hS]) (DV d Ak) (DV d Ak) a w ha hd (s2.CB.perm ?_);exact List.perm_append_comm (l₁:=CB [K,hS]::rest) (l₂:= [F])
theorem next_nil{x:Nd.Ins}{k:Nat}(h:Nd.G2 x k= []):x.1=20:=by
  refine Classical.byContradiction fun Q1=> ?_
  by_cases h6:x.1=6
  · have:x.2.1∈Nd.G2 x k:=Nd.Iy.2 (.inl ⟨by rw [h6];decide,rfl⟩);rw [h] at this;cases this
  · have:(k:Int)+1∈Nd.G2 x k:=Nd.Iy.2 (.inr ⟨⟨h6,Q1⟩,rfl⟩);rw [h] at this;cases this
theorem flat_op:∀ {l:List Ins} {i:Nat} {y:Ins},l[i]?=some y->(Cp l)[i*3]?=some (i64 y.op)
  | [],i,y,h=>by simp at h
  |x::l,0,y,h=>by simp at h;subst h;rfl
  | x::l,i+1,y,h=>by
    have:=flat_op (l:=l) (i:=i) (by simpa using h);rw [show(i+1)*3=i*3+3 by omega];simpa [Cp] using this
theorem flat_len:∀l:List Ins,(Cp l).length=l.length*3
  | []=>rfl
  | x::l=>by
    have:=flat_len l;simp [Cp] at this ⊢;omega
structure SS where
  i:Nat
  a:Nat
  f:Fm
  K:B6
  b1:Option Addr
  b2:Option Addr
  n1:Nat
  n2:Nat
  c1:Nat
  c2:Nat
attribute [local irreducible] SL.T C7 Dc C6 Db DS Du
theorem sound_law{H:B6} [sg:Cd.Zg H](bb:Option Addr)(bn bc:Nat)(bs:List Nat) [O1:Sl H bb (bs.map Mx)](J4:bs.length=bn)(bx:bn≤bc)(Km:bn≤9223372036854775807)(hb:∀x∈bs,x≤255)(PN:Bool)(m8 at8:Nat)(gw:m8≤255)(gD:at8≤255)(op a z:Int)
    (mm:Int) (bo:0≤mm/\mm≤255) (wb:Option Addr) (wn wc:Nat) (ws:List Nat) [slw:Sl H wb (ws.map Mx)] (nD:ws.length=wn) (nC:wn≤9223372036854775807) (lN:∀x∈ws,x≤255):
    C7 Tryz.prog 5 [gH bb bn bc PN (m8:Int) (at8:Int) op a z,.int .u8 mm,.slice wb wn wc] [H] (.bool true):=by
  have hI:=MW H bb bn bc bs J4 bx Km hb PN m8 at8 gw gD op a z;obtain⟨k0,k1,k2,ff,fe,br,TB⟩:=S7 bs PN m8 at8 ⟨Cd.md op 256,a,z⟩;rw [ff] at hI
  have Hi:∀(k:Nat) (m:Me),(Fo k0 k1 k2).ms[k]?=some m->0<m.code.length/\m.code.length≤1000000:=by
    intro k m hm;rcases k with _|_|_|k
    · cases hm;dsimp only;omega
    · cases hm;dsimp only;omega
    · cases hm;dsimp only;omega
    · simp [Fo] at hm
  have SF:(Fo k0 k1 k2).ms.length=3:=rfl
  generalize Fo k0 k1 k2=im at*
  have hw:=Ji (G:=H);refine Ci Tryz.func5 rfl (Nat.le_of_ble_eq_true rfl) fun F=> ?_
  repeat' (first|apply B4|refine B3 0 BY BL ?_|refine B3 3 BY Az ?_|refine B3 4 BY (Ca rfl rfl rfl rfl rfl (hw)) ?_|(refine gk 4 rfl ?_;(refine B9 rfl rfl rfl rfl rfl rfl rfl rfl (hI) ?_;rintro _ _ ⟨K0,x1,x2,x3,rfl,rfl,hB0⟩;refine⟨_,_,rfl,rfl,?_⟩))|refine CF (fun β=> ?_)|refine Cn (fun β=> ?_)|refine Ck ?_|refine B0 ?_|apply B5|refine B8 ?_|refine Cg ?_|apply Cc)
  obtain⟨y1,y2,y3,y4,y5,y6,hv,ET,HM,GH⟩:=hB0.1;cases hv;have hC:=Ey K0 im x1 x2 2 2 3 x3 ET HM GH;cases WO:DC im with
  | some r=>
    obtain⟨c,m,at_⟩:=r;rw [WO] at hC
    repeat' (first|refine Cq rfl rfl rfl (D7 rfl rfl) ?_|apply B4|refine B3 0 BY Au ?_|(refine gk 4 rfl ?_;(refine B9 rfl rfl rfl rfl rfl rfl rfl rfl (hC) ?_;rintro _ _ ⟨K1,D6,rfl,Yi,rfl⟩;refine⟨_,_,rfl,rfl,?_⟩))|refine B0 ?_|apply B5|refine B8 ?_|refine Cl ?_|apply Cb|refine Cx ?_)
    exact Cj [H] (Ce (B7 rfl)) ⟨rfl,rfl⟩
  | none=>
    rw [WO] at hC
    obtain⟨m,hm,gx⟩:∃m:Nat,mm.tmod ((3:Nat):Int)=(m:Int)/\m<3:=by
      rw [Int.tmod_eq_emod_of_nonneg bo.1];have h1:=Int.emod_nonneg mm (show((3:Nat):Int)≠0 by omega);have h2:=Int.emod_lt_of_pos mm (show 0<((3:Nat):Int) by omega);exact⟨(mm%((3:Nat):Int)).toNat,by omega,by omega⟩
    have hw0:IntKind.i64.wrap mm=mm:=C8 Ab Ab;obtain⟨me,Zm⟩:∃q,im.ms[m]?=some q:=⟨_,List.getElem?_eq_getElem (by rw [SF];omega)⟩;have E5:=check_all WO (j:=m) Ab;have E5:Hf im (m:Int) me=none:=by simpa only [FM,Zm] using E5
    obtain⟨cQ,eT⟩:=Hi _ me Zm;obtain⟨σ,il,hS,hn,⟨F0,gE,hW0⟩,hfx⟩:=frames_all E5;have hP:=fun K1 (Yi:hle K0 K1)=>I7 K1 im x1 x2 2 2 3 x3 (m:Int) (ET.mono Yi) (HM.mono Yi) me Ab (by simpa using Zm) cQ eT
    rw [il] at hP
    have hSt:=fun K2 (l:hle K0 K2)=>Ln K2 im x1 x2 2 2 3 x3 (m:Int) (HM.mono l) me Ab (by simpa using Zm)
    obtain⟨CY,z1,z2,z3,z4,z5⟩:=id HM;obtain⟨pb,pn,pc,cb,cn,cc,g1,g2,g3,g4,g5,g6,g7,g8,g9,g10⟩:=z5 _ _ Zm;have hkm:((m:Nat):Int).toNat*4<CY.length:=by simp;omega
    repeat' (first|refine Cq rfl rfl rfl (DT rfl rfl) ?_|refine Cq rfl rfl rfl ((CO rfl rfl).to (congrArg (Value.int .i64) hw0)) ?_|refine Cq rfl rfl rfl ((Ho rfl rfl rfl Ab).to (congrArg (Value.int .i64) hm)) ?_|apply B4|refine B3 0 BY AS ?_|refine CE 2 BY Av Ab ?_|refine B3 3 BY AX ?_|refine B3 4 BY Ag ?_|(refine gk 4 rfl ?_;(refine B9 rfl rfl rfl rfl rfl rfl rfl rfl (hC) ?_;rintro _ _ ⟨K1,rfl,Yi,rfl⟩;refine⟨_,_,rfl,rfl,?_⟩))|(refine gk 4 rfl ?_;(refine B9 rfl rfl rfl rfl rfl rfl rfl rfl (hP K1 Yi) ?_;rintro _ _ ⟨fb,hb1,HF,HH,K2,cs,rfl,lK2,rfl,IL,IE,hF⟩;refine⟨_,_,rfl,rfl,?_⟩))|(refine gk 4 rfl ?_;(refine B9 rfl rfl rfl rfl rfl rfl rfl rfl (hSt K2 (Yi.trans lK2)) ?_;rintro _ _ ⟨hS1,bS,cS,rfl,rfl,osS⟩;haveI slM:=z1.mono (Yi.trans lK2);refine⟨_,_,rfl,rfl,?_⟩))|refine Cn (fun β=> ?_)|refine Ck ?_|refine B0 ?_|apply B5|refine B8 ?_|refine Cg ?_|refine Cf ?_|apply Cc)
    obtain⟨TH,rfl⟩:∃x,x=β:=⟨_,rfl⟩;obtain⟨gK,rfl⟩:∃x,x=β:=⟨_,rfl⟩;refine JO (K:=K2) (hS:=hS1) fun J lJ jV=> ?_
    haveI XL:=IL.sl;haveI Wb:=IE.sl;have Kl:=hF.1;have hhl:(Dp σ).length=me.code.length:=by simp [Dp,hn]
    have hct:=Mv σ;have lJ0:=(Yi.trans lK2).trans lJ;have TA:=GU me (EU me);clear slM;refine CH (fun s:SS=> [(2,.slice wb wn wc),(7,.pointer (some ⟨gK,0,none⟩)),(8,i64 (m:Int)),(9,.slice fb me.code.length me.code.length),(10,.slice hb1 me.code.length me.code.length),(12,.pointer (some ⟨TH,0,none⟩)),(14,i64 (s.a:Int)),(15,i64 (s.i:Int))])
      (fun s=> [s.K,Co TH (.cells ⟨[.slice s.b1 s.n1 s.c1,.slice s.b2 s.n2 s.c2]⟩ 59 (0,0)),HF,HH,Co gK (.cells ⟨[.slice x1 2 2,.slice x2 3 x3]⟩ 32 (0,0)),H])
      (fun s=>s.i≤300/\hle J s.K/\s.f.1.length=s.n1/\s.f.2.length=s.n2/\Sl s.K s.b1 (s.f.1.map i64)/\Sl s.K s.b2 (s.f.2.map i64)/\s.n2≤s.c2/\∃G,σ[s.a]?=some (some G)/\Win s.f G) (fun s=>300 - s.i)
      ⟨0,0,(EC me (EU me),[]),J,bS,none,EU me,0,cS,0⟩ (by repeat first|exact Sub.nil _|refine Sub.cons rfl ?_) ⟨Nat.zero_le _,hle.refl _,TA,rfl,osS.sl.mono jV,Sl.none,Nat.le_refl _,F0,gE,hW0⟩ ?_
    rintro⟨i,at_,f,K,b1,b2,n1,n2,c1,c2⟩ ⟨hi,lK,Yv,Rq,s1,s2,LD,G,hG,hW⟩;dsimp only at hi lK Yv Rq s1 s2 LD hG hW ⊢
    by_cases hi3:i<300
    · have c8:at_<me.code.length:=by rw [<-hn];exact(List.getElem?_eq_some_iff.1 hG).1
      have hkh:((at_:Nat):Int).toNat*1<(Dp σ).length:=by simp;omega
      have hkf:((at_:Nat):Int).toNat*2<cs.length:=by simp;omega
      have Xh:(Dp σ)[((at_:Nat):Int).toNat*1]?=some (.bool true):=by simpa using F3 hG
      obtain⟨d1,e1,d2,e2,q1,q2,q3,q4,q5⟩:=hF.2 at_ G hG;have wl:f.1.length=G.1.length:=hW.1;have wsl:f.2.length=G.2.length:=by rw [hW.2.1]
      have P5:cs[((at_:Nat):Int).toNat*2]?=some (.slice d1 n1 e1):=by rw [<-Yv,wl];exact q1
      have dU:cs[((at_:Nat):Int).toNat*2+1]?=some (.slice d2 n2 e2):=by rw [<-Rq,wsl];exact q2
      have hg:=hS G (List.mem_of_getElem? hG);have lK3:=lJ.trans lK;have l3:=lJ0.trans lK;have hwi:=DG K b1 b2 d1 d2 n1 n2 c1 c2 e1 e2 f G Yv Rq s1 s2 (q3.mono lK3) (q4.mono lK3) Ab Ab hW;obtain⟨g,lT,Zl⟩:=hfx at_ G hG;obtain⟨f',Uv,mr⟩:=win_step hW lT;have FB:=KX K im x1 x2 b1 b2 2 2 3 x3 n1 c1 n2 c2 (m:Int) (at_:Int) f.1 f.2 (ET.mono l3) (HM.mono l3) s1 s2 Yv Rq Ab Ab LD;rw [Uv] at FB
      have hfl:=Hv Uv;have hfs:=Ir Uv
      repeat' (first|apply B4|refine B3 0 BY Am ?_|refine Cs 2 BY Aj Ab ?_|refine B0 ?_|apply B5|refine B8 ?_|refine Cl ?_|refine Cf ?_|apply Cc)
      refine Cu [.q [0,1,2,3,4,5,6,7,8,9,10,11,12,13,14,15,16,17,18,19,20],.h false 21,.q [22,23]] [Co TH (.cells ⟨[.slice b1 n1 c1,.slice b2 n2 c2]⟩ 59 (0,0)),HF,HH] Ac Ac Ac Ac ?_
      repeat' ((fail_if_success (refine Ea 20 ?_));(first|apply B4|refine B3 0 BY Bw ?_|refine CE 2 BY Bm Ab ?_|refine B3 3 BY BT ?_|refine B3 4 BY Ag ?_|(refine gk 4 rfl ?_;(refine B9 rfl rfl rfl rfl rfl rfl rfl rfl (FB) ?_;rintro _ _ ⟨K4,rfl,lK4,f1,v1,f2,v2,rfl,r1,r2,r3⟩;refine⟨_,_,rfl,rfl,?_⟩))|refine Cn (fun β=> ?_)|refine Ck ?_|refine B0 ?_|refine Cz ?_|refine CQ rfl ?_|refine Jb rfl rfl rfl rfl rfl rfl rfl rfl (hwi) rfl ?_|apply B5|refine B8 ?_|refine Cg ?_|apply Cc))
      haveI slM:=z1.mono (l3.trans lK4);haveI slC:Sl K4 cb (Nd.Cp (FH me.code)):=by rw [GA];exact g8.mono (l3.trans lK4)
      obtain⟨y,hy⟩:∃y,me.code[at_]?=some y:=⟨_,List.getElem?_eq_getElem c8⟩;have hN:=toN_at hy
      repeat' ((fail_if_success (refine Ea 21 ?_));(first|apply B4|refine B3 0 BY Af ?_|refine B3 3 BY A0 ?_|(refine gk 4 rfl ?_;(refine FI rfl rfl rfl rfl rfl rfl rfl rfl (Nd.OP _ (.slice pb pn pc) me.lo me.st cb cn cc (FH me.code) (at_:Int) (by rw [Dk];exact g9) Ab) ?_;rintro _ _ ⟨hN1,bN,cN,rfl,rfl,osN⟩;refine⟨_,_,rfl,rfl,?_⟩))|refine B0 ?_|apply B5))
      obtain⟨eg,rfl⟩:∃x,x=β:=⟨_,rfl⟩;have hopc:Nd.GG (FH me.code) (at_:Int)= []->y.op=20:=fun e=>next_nil (x:=(y.op,y.a,y.b)) (by rw [<-Nd.Lt hN];exact e)
      generalize hL:Nd.GG (FH me.code) (at_:Int)=L at osN Zl hopc ⊢
      clear slC;have hLs:=osN.len;have hL2:L.length≤2:=by rw [<-hL];exact Nd.HJ _ _
      by_cases iU:L.length=0
      · have Yu:=hopc (List.length_eq_zero_iff.1 iU);haveI slC:Sl K4 cb (Cp me.code):=g8.mono (l3.trans lK4);have hkc:((at_:Nat):Int).toNat*3<(Cp me.code).length:=by rw [flat_len];simp;omega
        have hcc:(Cp me.code)[((at_:Nat):Int).toNat*3]?=some (i64 20):=by have:=flat_op hy;rw [Yu] at this;simpa using this
        repeat' (first|apply B4|refine B3 0 BY Af ?_|refine Cs 2 BY Ao Ab ?_|refine B3 3 BY Bx ?_|refine B3 4 BY Ag ?_|refine B0 ?_|apply B5|refine B8 ?_|refine Cl ?_|apply Cb|refine Cx ?_|refine Dd ?_)
        exact Cj [H] (Ce (B7 rfl)) ⟨rfl,rfl⟩
      · haveI slN:=osN.sl;have fq:=osN.hle;have hlL:(L.map i64).length=L.length:=by simp
        have goal:∀k:Nat,k<L.length->∃tn:Nat,L[k]?=some (tn:Int)/\∃F,σ[tn]?=some (some F)/\Win f' F:=fun k hk=>by
          obtain⟨t,ht⟩:∃z,L[k]?=some z:=⟨_,List.getElem?_eq_getElem hk⟩;obtain⟨t0,t1,F,ft,al⟩:=Zl t (List.mem_of_getElem? ht);exact⟨t.toNat,by rw [ht];congr 1;omega,F,ft,mr.trans al⟩
        by_cases hw0:wn=0
        · obtain⟨tn,ht,F,ft,al⟩:=goal 0 Ab;have hct2:(L.map i64)[((0:Nat):Int).toNat*1]?=some (i64 (tn:Int)):=by simp [ht]
          have hct3:(L.map i64)[(0:Int).toNat*1]?=some (i64 (tn:Int)):=by simp [ht]
          have hkj:(0:Int).toNat*1<(L.map i64).length:=by simp;omega
          repeat' (first|apply B4|refine B3 0 BY Af ?_|refine CE 2 BY By Ab ?_|refine B3 4 BY Ag ?_|refine B0 ?_|apply B5|refine B8 ?_|refine Cg ?_|apply Cc)
          refine Cu [.q [0],.f [1,2],.r [3,4],.h true 5,.q [6]] [Co eg (.cells ⟨[.slice f1 f'.1.length v1,.slice f2 f'.2.length v2]⟩ 59 (0,0)),hN1] Ac Ac Ac Ac ?_
          repeat' (first|refine B3 0 BY Af ?_|refine B3 1 BY Ap ?_|refine B3 3 BY BU ?_|refine B0 ?_|refine Cz ?_|refine CQ rfl ?_|refine FD rfl ?_|refine MV rfl ?_|refine C2 rfl rfl rfl rfl rfl rfl Aa rfl Aa Aa ?_|apply B5|refine B8 ?_)
          exact⟨rfl,⟨i+1,tn,f',K4,f1,f2,f'.1.length,f'.2.length,v1,v2⟩,CA (by repeat first|exact Sub.nil _|refine Sub.cons rfl ?_),⟨by dsimp only;omega,lK.trans lK4,rfl,rfl,r1,r2,r3,F,ft,al⟩,by dsimp only;omega⟩
        · obtain⟨q,hq,j1⟩:∃q:Nat,((i:Nat):Int).tmod ((wn:Nat):Int)=(q:Int)/\q<wn:=by
            rw [Int.tmod_eq_emod_of_nonneg Ab];have h1:=Int.emod_nonneg ((i:Nat):Int) (show((wn:Nat):Int)≠0 by omega);have h2:=Int.emod_lt_of_pos ((i:Nat):Int) (show 0<((wn:Nat):Int) by omega);exact⟨(((i:Nat):Int)%((wn:Nat):Int)).toNat,by omega,by omega⟩
          obtain⟨x,hx⟩:∃z,ws[q]?=some z:=⟨_,List.getElem?_eq_getElem Ab⟩;have hx2:=lN x (List.mem_of_getElem? hx);obtain⟨k,hk,TB⟩:∃k:Nat,((x:Nat):Int).tmod ((L.length:Nat):Int)=(k:Int)/\k<L.length:=by
            rw [Int.tmod_eq_emod_of_nonneg Ab];have h1:=Int.emod_nonneg ((x:Nat):Int) (show((L.length:Nat):Int)≠0 by omega);have h2:=Int.emod_lt_of_pos ((x:Nat):Int) (show 0<((L.length:Nat):Int) by omega);exact⟨(((x:Nat):Int)%((L.length:Nat):Int)).toNat,by omega,by omega⟩
          have hwx:IntKind.i64.wrap ((x:Nat):Int)=((x:Nat):Int):=C8 Ab Ab;have hcw:(ws.map Mx)[((q:Nat):Int).toNat*1]?=some (.int .u8 ((x:Nat):Int)):=by simp [hx]
          have hkw:((q:Nat):Int).toNat*1<(ws.map Mx).length:=by simp;omega
          obtain⟨tn,ht,F,ft,al⟩:=goal k TB;have hct2:(L.map i64)[((k:Nat):Int).toNat*1]?=some (i64 (tn:Int)):=by simp [ht]
          have hkj:((k:Nat):Int).toNat*1<(L.map i64).length:=by simp;omega
          repeat' (first|refine Cq rfl rfl rfl ((CO rfl rfl).to (congrArg (Value.int .i64) hwx)) ?_|refine Cq rfl rfl rfl ((Ho rfl rfl rfl Ab).to (congrArg (Value.int .i64) hq)) ?_|refine Cq rfl rfl rfl ((Ho rfl rfl rfl Ab).to (congrArg (Value.int .i64) hk)) ?_|apply B4|refine B3 0 BY Af ?_|refine Cs 2 BY By Ab ?_|refine CE 2 BY Ao Ab ?_|refine B3 3 BY A8 ?_|refine B3 4 BY Ag ?_|refine B0 ?_|apply B5|refine B8 ?_|refine Cl ?_|refine Cg ?_|apply Cc)
          refine Cu [.q [0],.f [1,2],.r [3,4],.h true 5,.q [6]] [Co eg (.cells ⟨[.slice f1 f'.1.length v1,.slice f2 f'.2.length v2]⟩ 59 (0,0)),hN1] Ac Ac Ac Ac ?_
          repeat' (first|refine B3 0 BY Af ?_|refine B3 1 BY Ap ?_|refine B3 3 BY BU ?_|refine B0 ?_|refine Cz ?_|refine CQ rfl ?_|refine FD rfl ?_|refine MV rfl ?_|refine C2 rfl rfl rfl rfl rfl rfl Aa rfl Aa Aa ?_|apply B5|refine B8 ?_)
          exact⟨rfl,⟨i+1,tn,f',K4,f1,f2,f'.1.length,f'.2.length,v1,v2⟩,CA (by repeat first|exact Sub.nil _|refine Sub.cons rfl ?_),⟨by dsimp only;omega,lK.trans lK4,rfl,rfl,r1,r2,r3,F,ft,al⟩,by dsimp only;omega⟩
    · obtain rfl:i=300:=by omega
      repeat' (first|apply B4|refine B3 0 BY Af ?_|refine CE 2 BY Aj Ab ?_|refine B0 ?_|apply B5|refine B8 ?_|refine Cg ?_|apply Cb|refine CC ?_)
      exact Cj [H] (Ce (B7 rfl)) ⟨rfl,rfl⟩
end Go.Proofs.YtcnmnmjmpocepaaGreatDoor
