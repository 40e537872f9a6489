
import Derived.Test.YtcnmnmjmpocepaaGreatDoorU00
import Derived.Test.YtcnmnmjmpocepaaGreatDoorU11
import Derived.Test.YtcnmnmjmpocepaaGreatDoorU43
import Derived.Test.YtcnmnmjmpocepaaGreatDoorU42
import Derived.Test.YtcnmnmjmpocepaaGreatDoorU45
set_option linter.unusedVariables false
set_option linter.unusedSimpArgs false
set_option linter.unusedSectionVars false
set_option maxRecDepth 100000
set_option maxHeartbeats 16000000
namespace Go.Proofs.YtcnmnmjmpocepaaGreatDoor
open Go.SL
open Kd
theorem Ew.stk2{im:Im}{mi:Int}{nx:Nat->List Nat}{n:Nat}{σ:Fs}{r:Except Er Fs}(h:Ew im mi nx n σ r):G7 σ->∀Dj,r= .ok Dj->G7 Dj/\Dj.length=σ.length:=by
  induction h with
  |bad h=>intro _ Dj e;cases e
  |done h=>intro hS Dj e;cases e;exact Mb hS h
  | more h _ ih=>
    intro hS Dj e;obtain⟨h1,h2⟩:=Mb hS h;obtain⟨h3,h4⟩:=ih h1 Dj e;exact⟨h3,h4.trans h2⟩
theorem check_all{im:Im}(h:DC im=none){j:Nat}(hj:j<im.ms.length):FM im j=none:=by
  unfold DC at h
  rw [List.findSome?_eq_none_iff] at h
  have:=h j (List.mem_range.2 hj)
  rwa [Option.map_eq_none_iff] at this
theorem QJ{cs:List Nd.Ins}(h:Nd.off cs<0){j:Nat}(hj:j<cs.length){t:Int}(ht:t∈Nd.GG cs (j:Int)):0≤t/\t<cs.length:=by
  unfold Nd.off at h
  split at h
  · omega
  · rename_i hn
    rw [List.find?_range_eq_none] at hn
    have:=hn j hj;simp only [Nd.bad,Bool.not_eq_true,Bool.not_eq_true',List.any_eq_false] at this
    have:=this t ht;simpa [Nd.L1] using this
theorem meth_all{im:Im}{mi:Int}{m:Me}(h:Hf im mi m=none):Nd.off (FH m.code)<0/\0<m.code.length/\(∃σ,Ge im mi m= .ok σ)/\Nd.L0 (FH m.code)<0:=by
  unfold Hf at h
  split at h
  · cases h
  · rename_i ho
    have h0:0<m.code.length:=by have:=QI (cs:=FH m.code) Ab;rwa [Dk] at this
    split at h
    · cases h
    · rename_i σ e
      split at h
      · cases h
      · rename_i hw
        exact⟨by omega,h0,⟨σ,e⟩,by omega⟩
theorem frames_all{im:Im}{mi:Int}{m:Me}(h:Hf im mi m=none):∃σ,Ge im mi m= .ok σ/\G7 σ/\σ.length=m.code.length/\(∃g,σ[0]?=some (some g)/\Win (EC m (EU m),[]) g)/\
    ∀(a:Nat) (g:Fm),σ[a]?=some (some g)->∃f,Dv im mi (a:Int) g.1 g.2= .inr f/\∀t∈Nd.GG (FH m.code) (a:Int),0≤t/\t<m.code.length/\∃F,σ[t.toNat]?=some (some F)/\Win f F:=by
  obtain⟨ho,h0,⟨σ,e⟩,_⟩:=meth_all h;have hr:=FO im mi m h0;rw [e] at hr
  obtain⟨hS,hn⟩:=hr.stk2 (Kw m h0) σ rfl;have hn:σ.length=m.code.length:=by rw [hn];simp [F7]
  obtain⟨hk,hx⟩:=hr.fix σ rfl;refine⟨σ,e,hS,hn,hk.2 0 _ (by unfold F7;rw [List.getElem?_set_self Aq]),fun a g ha=> ?_⟩;have Em:a<m.code.length:=by rw [<-hn];exact(List.getElem?_eq_some_iff.1 ha).1
  obtain⟨f,f1,f2⟩:=hx a Em g ha;refine⟨f,f1,fun t ht=> ?_⟩;obtain⟨t0,t1⟩:=QJ ho (by rw [Dk];exact Em) ht;rw [Dk] at t1
  refine⟨t0,t1,f2 t.toNat ?_ Ab⟩;unfold R6;exact List.mem_filterMap.2 ⟨t,ht,by rw [if_pos ⟨t0,t1⟩]⟩
attribute [local irreducible] SL.T C7 Dc C6 Db DS Du
theorem made_law{H:B6} [sg:Cd.Zg H](bb:Option Addr)(bn bc:Nat)(bs:List Nat) [O1:Sl H bb (bs.map Mx)](J4:bs.length=bn)(bx:bn≤bc)(Km:bn≤9223372036854775807)(hb:∀x∈bs,x≤255):
    C7 Tryz.prog 6 [.slice bb bn bc] [H] (.bool true):=by
  have hI:=MW H bb bn bc bs J4 bx Km hb false 0 0 Ae Ae 0 0 0;have WO:=made_ok (Dr bs 0) (Dr bs 1) (Dr bs 2);obtain⟨k0,k1,k2,ff,fe,br,TB⟩:=S7 bs false 0 0 ⟨Cd.md 0 256,0,0⟩;have WO:DC (UM bs false 0 0 ⟨Cd.md 0 256,0,0⟩)=none:=WO;rw [ff] at hI WO
  have Hi:∀(k:Nat) (m:Me),(Fo k0 k1 k2).ms[k]?=some m->0<m.code.length/\m.code.length≤1000000:=by
    intro k m hm;rcases k with _|_|_|k
    · cases hm;dsimp only;omega
    · cases hm;dsimp only;omega
    · cases hm;dsimp only;omega
    · simp [Fo] at hm
  have SF:(Fo k0 k1 k2).ms.length=3:=rfl
  generalize Fo k0 k1 k2=im at*
  have hw:=Ji (G:=H);refine Ci Tryz.func6 rfl (Nat.le_of_ble_eq_true rfl) fun F=> ?_
  repeat' (first|apply B4|refine B3 0 BY AH ?_|refine B3 3 BY Az ?_|refine B3 4 BY (Ca rfl rfl rfl rfl rfl (hw)) ?_|(refine gk 4 rfl ?_;(refine B9 rfl rfl rfl rfl rfl rfl rfl rfl (hI) ?_;rintro _ _ ⟨K0,x1,x2,x3,rfl,rfl,hB0⟩;refine⟨_,_,rfl,rfl,?_⟩))|refine B3 5 BY Ar ?_|refine Cn (fun β=> ?_)|refine Ck ?_|refine B0 ?_|apply B5|refine B8 ?_|refine Cg ?_|apply Cc)
  obtain⟨y1,y2,y3,y4,y5,y6,hv,ET,HM,GH⟩:=hB0.1;cases hv;have hC:=Ey K0 im x1 x2 2 2 3 x3 ET HM GH;rw [WO] at hC
  repeat' (first|refine Cq rfl rfl rfl (DT rfl rfl) ?_|apply B4|refine B3 0 BY Au ?_|(refine gk 4 rfl ?_;(refine B9 rfl rfl rfl rfl rfl rfl rfl rfl (hC) ?_;rintro _ _ ⟨K1,rfl,Yi,rfl⟩;refine⟨_,_,rfl,rfl,?_⟩))|refine B0 ?_|apply B5|refine B8 ?_|refine Cg ?_|refine Cf ?_|apply Cc)
  obtain⟨Fv,rfl⟩:∃x,x=β:=⟨_,rfl⟩;refine CH (fun s:Nat×B6=> [(4,.pointer (some ⟨Fv,0,none⟩)),(5,i64 (s.1:Int))]) (fun s=> [s.2,H,Co Fv (.cells ⟨[.slice x1 2 2,.slice x2 3 x3]⟩ 32 (0,0))])
    (fun s=>s.1≤3/\hle K0 s.2) (fun s=>3 - s.1) (0,K1) (by repeat first|exact Sub.nil _|refine Sub.cons rfl ?_) ⟨Nat.zero_le _,Yi⟩ ?_
  rintro⟨m,K⟩ ⟨gx,lK⟩;dsimp only at gx lK ⊢
  by_cases hm:m<3
  · obtain⟨me,Zm⟩:∃q,im.ms[m]?=some q:=⟨_,List.getElem?_eq_getElem (by rw [SF];omega)⟩;have E5:=check_all WO (j:=m) Ab;have E5:Hf im (m:Int) me=none:=by simpa only [FM,Zm] using E5
    obtain⟨cQ,eT⟩:=Hi _ me Zm;have hwr:=(meth_all E5).2.2.2;obtain⟨σ,il,hS,hn, -,hfx⟩:=frames_all E5;have hP:=I7 K im x1 x2 2 2 3 x3 (m:Int) (ET.mono lK) (HM.mono lK) me Ab (by simpa using Zm) cQ eT;rw [il] at hP
    obtain⟨CY,z1,z2,z3,z4,z5⟩:=id HM;obtain⟨pb,pn,pc,cb,cn,cc,g1,g2,g3,g4,g5,g6,g7,g8,g9,g10⟩:=z5 _ _ Zm;have hkm:((m:Nat):Int).toNat*4<CY.length:=by simp;omega
    repeat' (first|apply B4|refine B3 0 BY AB ?_|refine Cs 2 BY Aj Ab ?_|refine B3 3 BY AF ?_|refine B3 4 BY Ag ?_|(refine gk 4 rfl ?_;(refine B9 rfl rfl rfl rfl rfl rfl rfl rfl (hP) ?_;rintro _ _ ⟨fb,hb1,HF,HH,K2,cs,rfl,lK2,rfl,IL,IE,hF⟩;refine⟨_,_,rfl,rfl,?_⟩))|refine B0 ?_|apply B5|refine B8 ?_|refine Cl ?_|refine Cf ?_|apply Cc)
    haveI slM:=z1.mono (lK.trans lK2);haveI slC:Sl K2 cb (Nd.Cp (FH me.code)):=by rw [GA];exact g8.mono (lK.trans lK2)
    have hN:=Nd.Ey K2 (.slice pb pn pc) me.lo me.st cb cn cc (FH me.code) (by rw [Dk];exact g9) Ab;rw [if_neg Ab] at hN
    repeat' (first|refine Cq rfl rfl rfl (DT rfl rfl) ?_|apply B4|refine B3 0 BY AS ?_|refine CE 2 BY Av Ab ?_|refine B3 3 BY Bh ?_|refine B3 4 BY Ag ?_|(refine gk 4 rfl ?_;(refine B9 rfl rfl rfl rfl rfl rfl rfl rfl (hN) ?_;rintro _ _ ⟨N,rfl,rfl,rfl, -⟩;refine⟨_,_,rfl,rfl,?_⟩))|refine B0 ?_|apply B5|refine B8 ?_|refine Cg ?_|refine Cf ?_|apply Cc)
    haveI XL:=IL.sl;haveI Wb:=IE.sl;have Kl:=hF.1;have hhl:(Dp σ).length=me.code.length:=by simp [Dp,hn]
    have hct:=Mv σ;clear slC slM hN;refine CH (fun s:Nat×B6=> [(4,.pointer (some ⟨Fv,0,none⟩)),(5,i64 (m:Int)),(6,.slice fb me.code.length me.code.length),(7,.slice hb1 me.code.length me.code.length),(11,i64 (s.1:Int))])
      (fun s=> [s.2,HF,HH,H,Co Fv (.cells ⟨[.slice x1 2 2,.slice x2 3 x3]⟩ 32 (0,0))]) (fun s=>s.1≤me.code.length/\hle K2 s.2) (fun s=>me.code.length - s.1) (0,K2) (by repeat first|exact Sub.nil _|refine Sub.cons rfl ?_) ⟨Nat.zero_le _,hle.refl _⟩ ?_
    rintro⟨i,K3⟩ ⟨hi,lK3⟩;dsimp only at hi lK3 ⊢
    by_cases c8:i<me.code.length
    · obtain⟨o,hs⟩:∃o,σ[i]?=some o:=⟨_,List.getElem?_eq_getElem Ab⟩;have hkh:((i:Nat):Int).toNat*1<(Dp σ).length:=by simp;omega
      have hkf:((i:Nat):Int).toNat*2<cs.length:=by simp;omega
      cases o with
      | none=>
        have Xh:(Dp σ)[((i:Nat):Int).toNat*1]?=some (.bool false):=by simpa using F3 hs
        repeat' (first|apply B4|refine B3 0 BY AW ?_|refine B3 1 BY Ap ?_|refine Cs 2 BY Aj Ab ?_|refine B3 3 BY A8 ?_|refine B3 4 BY Ag ?_|refine B0 ?_|apply B5|refine B8 ?_|refine Cl ?_|refine Cf ?_|refine CC ?_|apply Cc)
        exact⟨rfl,(i+1,K3),CA (by repeat first|exact Sub.nil _|refine Sub.cons rfl ?_),⟨c8,lK3⟩,by dsimp only;omega⟩
      | some g=>
        have Xh:(Dp σ)[((i:Nat):Int).toNat*1]?=some (.bool true):=by simpa using F3 hs
        obtain⟨d1,e1,d2,e2,q1,q2,q3,q4,q5⟩:=hF.2 i g hs;have P5:cs[((i:Nat):Int).toNat*2]?=some (.slice d1 g.1.length e1):=q1;have LD:cs[((i:Nat):Int).toNat*2+1]?=some (.slice d2 g.2.length e2):=q2;have hg:=hS g (List.mem_of_getElem? hs);have l3:=(lK.trans lK2).trans lK3;have FB:=KX K3 im x1 x2 d1 d2 2 2 3 x3 g.1.length e1 g.2.length e2 (m:Int) (i:Int) g.1 g.2 (ET.mono l3) (HM.mono l3) (q3.mono lK3) (q4.mono lK3) rfl rfl Ab Ab q5;obtain⟨f,Uv,Zl⟩:=hfx i g hs;rw [Uv] at FB
        have hfl:=Hv Uv;have hfs:=Ir Uv
        repeat' (first|apply B4|refine B3 0 BY Bi ?_|refine Cs 2 BY Aj Ab ?_|refine B3 3 BY A8 ?_|refine B3 4 BY Ag ?_|refine B0 ?_|apply B5|refine B8 ?_|refine Cl ?_|refine Cg ?_|refine Cf ?_|apply Cc)
        refine Cu [.q [0,1,2,3,4,5,6],.an 11,.h true 7,.q [8,9],.f [10],.rv 11,.h true 12,.q [13]] [HF,HH] Ac Ac Ac Ac ?_
        repeat' ((fail_if_success (refine Ea 21 ?_));(first|apply B4|refine B3 0 BY AB ?_|refine CE 2 BY Av Ab ?_|refine B3 3 BY (by first|exact D5 rfl Aa rfl Aa Aa|exact CD rfl rfl rfl Ab Ab Ab|exact Iw rfl Aa Ai Ad Ad) ?_|refine B0 ?_|refine Cz ?_|refine CQ rfl ?_|refine FD rfl ?_|refine Dg rfl rfl AK ?_|refine DL rfl rfl rfl (fun β=> ?_)|refine C2 rfl rfl rfl rfl rfl rfl Aa rfl Aa Aa ?_|(refine Fx rfl rfl rfl rfl rfl rfl rfl rfl (FB) ?_;rintro _ _ ⟨K4,rfl,lK4,f1,v1,f2,v2,rfl,r1,r2,r3⟩;refine⟨_,_,rfl,rfl,?_⟩)|apply B5|refine B8 ?_|refine Cg ?_|apply Cc))
        haveI slM:=z1.mono (l3.trans lK4);haveI slC:Sl K4 cb (Nd.Cp (FH me.code)):=by rw [GA];exact g8.mono (l3.trans lK4)
        repeat' (first|apply B4|refine B3 0 BY Af ?_|refine B3 3 BY A0 ?_|(refine gk 4 rfl ?_;(refine FI rfl rfl rfl rfl rfl rfl rfl rfl (Nd.OP _ (.slice pb pn pc) me.lo me.st cb cn cc (FH me.code) (i:Int) (by rw [Dk];exact g9) Ab) ?_;rintro _ _ ⟨hN,bN,cN,rfl,rfl,osN⟩;refine⟨_,_,rfl,rfl,?_⟩))|refine B0 ?_|apply B5|refine B8 ?_|refine Cf ?_)
        obtain⟨TH,rfl⟩:∃x,x=β:=⟨_,rfl⟩
        generalize hL:Nd.GG (FH me.code) (i:Int)=L at osN Zl ⊢
        haveI slN:=osN.sl;have fq:=osN.hle;have hlL:(L.map i64).length=L.length:=by simp
        have hLs:=osN.len;have hL2:L.length≤2:=by rw [<-hL];exact Nd.HJ _ _
        refine CH (fun j:Nat=> [(4,.pointer (some ⟨Fv,0,none⟩)),(5,i64 (m:Int)),(6,.slice fb me.code.length me.code.length),(7,.slice hb1 me.code.length me.code.length),(11,i64 (i:Int)),(12,.pointer (some ⟨TH,0,none⟩)),(14,.slice bN L.length cN),(15,i64 (j:Int))])
          (fun _=> [Co TH (.cells ⟨[.slice f1 f.1.length v1,.slice f2 f.2.length v2]⟩ 59 (0,0)),K4,HF,HH,H,Co Fv (.cells ⟨[.slice x1 2 2,.slice x2 3 x3]⟩ 32 (0,0)),hN]) (fun j=>j≤L.length) (fun j=>L.length - j) 0 (by repeat first|exact Sub.nil _|refine Sub.cons rfl ?_) (Nat.zero_le _) ?_
        intro j hj;by_cases hjL:j<L.length
        · obtain⟨t,ht⟩:∃z,L[j]?=some z:=⟨_,List.getElem?_eq_getElem hjL⟩;obtain⟨t0,t1,G,hG,hW⟩:=Zl t (List.mem_of_getElem? ht);obtain⟨tn,rfl⟩:∃tn:Nat,t=(tn:Int):=⟨t.toNat,by omega⟩;have hct2:(L.map i64)[((j:Nat):Int).toNat*1]?=some (i64 (tn:Int)):=by simp [ht]
          have hkj:((j:Nat):Int).toNat*1<(L.map i64).length:=by simp;omega
          have hG:σ[tn]?=some (some G):=by simpa using hG
          have hkh2:((tn:Nat):Int).toNat*1<(Dp σ).length:=by simp;omega
          have hkf2:((tn:Nat):Int).toNat*2<cs.length:=by simp;omega
          have hch2:(Dp σ)[((tn:Nat):Int).toNat*1]?=some (.bool true):=by simpa using F3 hG
          obtain⟨d3,e3,d4,e4,p1,p2,p3,p4,p5⟩:=hF.2 tn G hG;have wl:f.1.length=G.1.length:=hW.1;have ws:f.2.length=G.2.length:=by rw [hW.2.1]
          have dU:cs[((tn:Nat):Int).toNat*2]?=some (.slice d3 f.1.length e3):=by rw [wl];exact p1
          have mh:cs[((tn:Nat):Int).toNat*2+1]?=some (.slice d4 f.2.length e4):=by rw [ws];exact p2
          have hwi:=DG K4 f1 f2 d3 d4 f.1.length f.2.length v1 v2 e3 e4 f G rfl rfl r1 r2 (p3.mono (lK3.trans lK4)) (p4.mono (lK3.trans lK4)) Ab Ab hW
          repeat' (first|apply B4|refine B3 0 BY Am ?_|refine Cs 2 BY Aj Ab ?_|refine B3 4 BY Ag ?_|refine B0 ?_|apply B5|refine B8 ?_|refine Cl ?_|refine Cf ?_|apply Cc)
          refine Cu [.q [0,1,2,3,4,5,6,7,8,9,10,11,12,13,14,15,16,17,18,19,20,21,22,23,24,25,26,27,28,29,30,31,32],.h false 33,.q [34,35]] [Co TH (.cells ⟨[.slice f1 f.1.length v1,.slice f2 f.2.length v2]⟩ 59 (0,0)),HF,HH,hN] Ac Ac Ac Ac ?_
          repeat' (first|refine B3 0 BY AY ?_|refine B3 1 BY Ap ?_|refine CE 2 BY AG Ab ?_|refine B3 3 BY BT ?_|refine B3 4 BY Ag ?_|refine B0 ?_|refine Cz ?_|refine CQ rfl ?_|refine Jb rfl rfl rfl rfl rfl rfl rfl rfl (hwi) rfl ?_|apply B5|refine B8 ?_|refine Cg ?_|apply Cc)
          exact⟨rfl,j+1,CA (by repeat first|exact Sub.nil _|refine Sub.cons rfl ?_),hjL,by omega⟩
        · obtain rfl:j=L.length:=by omega
          repeat' (first|apply B4|refine B3 0 BY Af ?_|refine B3 1 BY Ap ?_|refine CE 2 BY Aj Ab ?_|refine B3 4 BY Ag ?_|refine B0 ?_|apply B5|refine B8 ?_|refine Cg ?_|refine CC ?_)
          exact⟨rfl,(i+1,K4),CA (by repeat first|exact Sub.nil _|refine Sub.cons rfl ?_),⟨c8,lK3.trans lK4⟩,by dsimp only;omega⟩
    · obtain rfl:i=me.code.length:=by omega
      repeat' (first|apply B4|refine B3 0 BY Af ?_|refine B3 1 BY Ap ?_|refine CE 2 BY Aj Ab ?_|refine B3 4 BY Ag ?_|refine B0 ?_|apply B5|refine B8 ?_|refine Cg ?_|refine CC ?_)
      exact⟨rfl,(m+1,K3),CA (by repeat first|exact Sub.nil _|refine Sub.cons rfl ?_),⟨by dsimp only;omega,(lK.trans lK2).trans lK3⟩,by dsimp only;omega⟩
  · obtain rfl:m=3:=by omega
    repeat' (first|apply B4|refine B3 0 BY Af ?_|refine CE 2 BY Aj Ab ?_|refine B3 3 BY Ah ?_|refine B3 4 BY Ag ?_|refine B0 ?_|apply B5|refine B8 ?_|refine Cg ?_|apply Cb|refine CC ?_)
    exact Cj [H] (Ce (B7 rfl)) ⟨rfl,rfl⟩
end Go.Proofs.YtcnmnmjmpocepaaGreatDoor
