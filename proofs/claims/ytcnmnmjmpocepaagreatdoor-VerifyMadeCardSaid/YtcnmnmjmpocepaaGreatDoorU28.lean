
import Derived.Test.YtcnmnmjmpocepaaGreatDoorU00
import Derived.Test.YtcnmnmjmpocepaaGreatDoorU11
import Derived.Test.YtcnmnmjmpocepaaGreatDoorU27
import Derived.Test.YtcnmnmjmpocepaaGreatDoorU26
import Derived.Test.YtcnmnmjmpocepaaGreatDoorU24
set_option linter.unusedVariables false
set_option linter.unusedSimpArgs false
set_option linter.unusedSectionVars false
set_option maxRecDepth 100000
set_option maxHeartbeats 16000000
section
namespace Go.Proofs.YtcnmnmjmpocepaaGreatDoor
open Go.SL
open Kd
def F7(m:Me)(n:Nat):Fs:=(List.replicate n none).set 0 (some (EC m (EU m),[]))
def fM(p:Ql)(K0:B6)(r:Except Er Fs)(e:Ending)(o:List B6):Prop:=
  match r with
  | .error (c,a)=>∃HF HH K D6,o= [p.B,HF,HH,K,D8 D6 c p.mi a]/\e= .returned (Ka D6)/\hle K0 K
  | .ok σ=>∃HF HH K cs,o= [p.B,HF,HH,K]/\e= .returned .nilIface/\W8 p K0 σ K HF HH cs
theorem Ew.next{im:Im}{mi:Int}{nx:Nat->List Nat}{n:Nat}{σ Dj:Fs}{r:Except Er Fs}(h:Ew im mi nx n σ r)(hr:D1 im mi nx σ (List.range n) false= .ok (Dj,true)):Ew im mi nx n Dj r:=by
  cases h with
  |bad h=>rw [hr] at h;cases h
  |done h=>rw [hr] at h;cases h
  |more h h2=>rw [hr] at h;cases h;exact h2
theorem U7{σ:Fs}(h:G7 σ):Zr σ:=fun g hg=>(h g hg).1
theorem Kw(m:Me){n:Nat}(h:0<n):G7 (F7 m n):=by
  have hc:I2 (F7 m n)=1:=by
    have:=I1 (σ:=List.replicate n none) (i:=0) (o:=none) (some (EC m (EU m),[])) (by simp [h]);have h0:I2 (List.replicate n none)=0:=by simp [I2]
    simp only [h0] at this
    simpa [F7] using this
  intro g hg;unfold F7 at hg
  rcases List.mem_or_eq_of_mem_set hg with q|q
  · have:=List.eq_of_mem_replicate q;cases this
  · cases q
    have:=PB m;have:=GU m (EU m);exact⟨by dsimp only;omega,by rw [hc];exact Nat.le_refl _⟩
structure SM where
  σ:Fs
  cs:List Value
  HF:B6
  HH:B6
  K:B6
attribute [local irreducible] SL.T C7 Dc C6 Db DS Du
theorem Lj (p:Ql)(im:Im)(m:Me)(K0 ko km:B6)(fE:List Value)(ET:Hk K0 im.cls p.DF p.DW)(HM:I6 K0 im.ms p.mb p.mn)(Hi:Sl K0 p.cb (Cp m.code))
    (h:0≤p.mi/\p.mi<p.mn) (hm:im.ms[p.mi.toNat]?=some m) (gu:m.code.length=p.n) (h0:0<p.n) (DE:p.n≤1000000)
    (IL:OS ko p.fb p.n p.n 59 2 fE) (IE:OS km p.hb p.n p.n 4 1 (Dp (List.replicate p.n none))) (gE:GF K0 (List.replicate p.n none) fE) {r:Except Er Fs} (hr:Ew im p.mi (R6 m.code p.n) p.n (F7 m p.n) r):
    SL.T Tryz.prog 34 [.pointer (some ⟨p.Dq,0,none⟩)] [p.B,ko,km,K0] (fM p K0 r):=by
  have FB:=Ln K0 im p.DF p.mb p.DW p.EG p.mn p.mc p.mi HM m h hm;haveI XL:=IL.sl;haveI Wb:=IE.sl;have Kl:fE.length=p.n*2:=by have:=gE.1;simpa using this
  have hkf:(0:Int).toNat*2<fE.length:=by simp;omega
  have hkh:(0:Int).toNat*1<(Dp (List.replicate p.n none)).length:=by simp [Dp];omega
  refine Ch Tryz.func34 rfl (Nat.le_of_ble_eq_true rfl) fun F=> ?_
  repeat' (first|apply B4|refine CF (fun β=> ?_)|refine Cn (fun β=> ?_)|refine B0 ?_|apply B5|refine B8 ?_)
  obtain⟨DZ,rfl⟩:∃x,x=β:=⟨_,rfl⟩;obtain⟨Eu,rfl⟩:∃x,x=β:=⟨_,rfl⟩;refine TR ?_;refine B4 ?_;refine Cu [.q [0,1,2,3,4,5,6,7],.an 12,.h false 8,.q [9,10],.f [11],.rv 12,.h true 13,.q [14]] [NM DZ .nilIface,Jg Eu p.Dq,p.B] Ac Ac Ac Ac ?_
  repeat' (first|apply B4|refine B3 0 BY AB ?_|refine B3 3 BY AF ?_|refine B3 5 BY Al ?_|refine Cz ?_|refine CQ rfl ?_|refine FD rfl ?_|refine Dg rfl rfl AK ?_|refine DL rfl rfl rfl (fun β=> ?_)|refine C2 rfl rfl rfl rfl rfl rfl Aa rfl Aa Aa ?_|(refine D0 rfl rfl rfl rfl rfl rfl rfl rfl (FB) (by rintro _ _ ⟨hS,bS,cS,rfl,rfl,osS⟩;exact⟨_,rfl⟩) ?_;rintro _ _ ⟨hS,bS,cS,rfl,rfl,osS⟩;refine⟨_,_,rfl,rfl,?_⟩)|apply B5)
  obtain⟨Io,rfl⟩:∃x,x=β:=⟨_,rfl⟩;refine Cu [.q [0,1,2,3,4,5,6,7],.r [8],.q [9],.h true 10,.q [11],.h true 12] [Jg Eu p.Dq,p.B,SY Io bS none (EU m) 0 cS 0] Ac Ac Ac Ac ?_
  repeat' (first|apply B4|refine B3 3 BY Bd ?_|refine B3 5 BY Al ?_|refine Cz ?_|refine CQ rfl ?_|refine MV rfl ?_|refine D3 rfl rfl rfl rfl rfl rfl IE rfl rfl rfl (Nat.succ_pos _) Aq (KP (EC m (EU m),[]) (t:=0) Aq) (fun hA RW=> ?_)|refine D3 rfl rfl rfl rfl rfl rfl IL rfl rfl rfl (Nat.succ_pos _) Aq rfl (fun hB Ro=> ?_)|apply B5)
  refine VV ?_;refine B8 ?_;refine JO [K0,hS] fun K1 kf=> ?_
  have lK:hle K0 K1:=kf _ Ak;have slS:Sl K1 bS ((EC m (EU m)).map i64):=osS.sl.mono (kf _ Ak);have hfr:=(gE.mono lK).set (t:=0) (g:=(EC m (EU m),[])) (c1:=cS) (c2:=0) Aq slS (Sl.none:Sl K1 none []) (Nat.le_refl _);dsimp only at hfr
  rw [GU] at hfr
  have Xg:W8 p K0 (F7 m p.n) K1 hB hA _:=⟨lK,Ro,RW,hfr,Kw m h0,by simp [F7]⟩
  repeat' (first|apply B4|refine Cf ?_)
  refine VU (fun _:SM=> [(1,.pointer (some ⟨Eu,0,none⟩)),(2,.pointer (some ⟨DZ,0,none⟩))]) (fun s=> [NM DZ .nilIface,Jg Eu p.Dq,p.B,s.HF,s.HH,s.K])
    (fun s=>W8 p K0 s.σ s.K s.HF s.HH s.cs/\Ew im p.mi (R6 m.code p.n) p.n s.σ r) (fun s=>left s.σ) ⟨F7 m p.n,_,hB,hA,K1⟩ (by repeat first|exact Sub.nil _|refine Sub.cons rfl ?_) ⟨Xg,hr⟩ ?_
  clear hr Xg hfr XL Wb RW Ro;rintro⟨σ,cs,HF,HH,K⟩ ds M hM ⟨hf,hr⟩;dsimp only at hf hr ⊢
  repeat' (first|apply B4|refine B3 3 BY AD ?_|(refine gk 4 rfl ?_;(refine B9 rfl rfl rfl rfl rfl rfl rfl rfl (TL p.Dq) ?_;rintro _ _ ⟨GJ,rfl,rfl⟩;refine⟨_,_,rfl,rfl,?_⟩))|refine Cn (fun β=> ?_)|refine Ck ?_|refine B0 ?_|apply B5|refine B8 ?_|refine Cf ?_)
  obtain⟨Ic,rfl⟩:∃x,x=β:=⟨_,rfl⟩;have hJ0:JJ p im m M DZ Ic Eu GJ σ K0 (.scan 0 σ K) [Jg GJ p.Dq,R8 Ic false,M,NM DZ .nilIface,Jg Eu p.Dq,p.B,HF,HH,K]:=
    ⟨Kp p M DZ Ic Eu GJ false HF HH K,_,C1.perm,HF,HH,cs,false,rfl,hf,rfl⟩
  refine TT (hsI:= []) (s0:=WS.scan 0 σ K) (view:=ON p im m GJ) (nx:=jq p im m GJ) (tr:=jm) (mv:=dw p im m) (dn:=jr p)
    (JJ p im m M DZ Ic Eu GJ σ K0) (fun own1=>∃Dj K',JJ p im m M DZ Ic Eu GJ σ K0 (.scan p.n Dj K') own1) (mR p im m M DZ σ K0) rfl (VM p im m GJ σ K gu DE) (fun s H H' l v=>v.mono l) rfl hJ0 (fun s own1 q d=>WY ET HM Hi q d) (fun s s' own1 q1 q2=>aD q1 q2) (fun s own1 q1 q2=>by obtain⟨Dj,K',rfl⟩:=q1;exact⟨Dj,K',q2⟩) ?_ ?_ ?_
  · rintro L s own1 x Ws hJ hx;cases s with
    | scan a Rl K1=>
      obtain⟨g,c,Io,Fv,Rm,hs,FB,ha,rfl,rfl⟩:=hx;obtain⟨Jo,rest,hp,fS,fR,kl,b,rfl,Rr,iz⟩:=hJ;refine⟨rfl,fun F1=>⟨_,rfl,?_⟩⟩;refine M8 (RG hp) ?_;dsimp only [Kp,List.cons_append,List.nil_append]
      repeat' (first|apply B4|refine B3 0 BY Au ?_|refine B0 ?_|apply B5|refine B8 ?_)
      intro F2;have hfl:=aq p Fv GJ Rm Io c (a:Int)
      repeat' (first|refine Cq rfl rfl rfl (D7 rfl rfl) ?_|apply B4|refine B3 0 BY AB ?_|(refine gk 4 rfl ?_;(refine B9 rfl rfl rfl rfl rfl rfl rfl rfl (hfl) ?_;rintro _ _ ⟨D6,rfl,rfl⟩;refine⟨_,_,rfl,rfl,?_⟩))|refine Cn (fun β=> ?_)|refine Ck ?_|refine B0 ?_|apply B5|refine B8 ?_|refine Cl ?_|refine Cf ?_|apply Cb|refine Cx ?_|refine Dd ?_)
      exact Is [M,NM DZ (Ka D6),p.B,fS,fR,K1,D8 D6 c p.mi (a:Int)] ⟨rfl,fS,fR,K1,D6,c,(a:Int),rfl,Rr.le,by
        obtain⟨l2,Nn⟩:=range_split ha;rw [Nn];exact KD iz (by simp only [Fw,hs,FB])⟩
    | go a Rl K1 f j Fv b1 b2 c1 c2 gv=>
      obtain⟨t,ht,Z9,ir,rfl,hw⟩:=hx;obtain⟨Jo,rest,hp,fS,fR,kl,b,TG,ba,g,Rr,q1,q2,q3,q4,q5,q6,q7,q8,q9,dT⟩:=hJ;refine⟨rfl,fun F1=>⟨_,rfl,?_⟩⟩;refine VW (A:= [M,NM DZ .nilIface,R8 Ic b,Jg Eu p.Dq,Jg GJ p.Dq,p.B,fS,fR]) (K:=K1) (FR:=SY Fv b1 b2 f.1.length f.2.length c1 c2) (R:=fun K3=>Sl K3 b1 (f.1.map i64)/\Sl K3 b2 (f.2.map i64)/\f.2.length≤c2) hp ?_ ?_
      · rcases dT with ⟨e1,e2⟩|⟨e1,e2,e3⟩
        · right
          rcases hw with ⟨e4,_⟩|⟨_,Kn,K',e5,e6,e7,e8,e9⟩
          · rw [e1] at e4;cases e4
          · exact⟨e2,Kn,e5,fun K3 l1 l2=>⟨e7.mono (e6 K3 l1 l2),e8.mono (e6 K3 l1 l2),e9⟩⟩
        · exact .inl ⟨e2,e3⟩
      · rintro K3 lK ⟨s1,s2,LD⟩;obtain⟨tn,rfl⟩:∃tn:Nat,t=(tn:Int):=⟨t.toNat,by omega⟩;have hfs2:=MR (n:=p.n) ht;rw [if_pos Ab,Int.toNat_natCast] at hfs2
        have hfl1:=Rr.len;have hgo:=KQ p.Dq p.pb p.pn p.pc p.lo p.st p.cb p.n p.cc p.DF p.DW p.EG p.mb p.mn p.mc p.mi p.fb p.hb p.n K3 fS fR b1 b2 c1 c2 tn Rl kl f Ab Rr.len Rr.IL Rr.IE (Rr.fr.mono lK) s1 s2 LD Ab (XD Rr.CX Ab) Ab (by have:=Mv Rl;omega)
        repeat' (first|apply B4|refine B3 0 BY Au ?_|refine B0 ?_|apply B5|refine B8 ?_)
        intro F2;cases hgV:E1 Rl tn f with
        | error e=>
          obtain⟨c,a'⟩:=e;rw [hgV] at hgo
          have OW:Fw im p.mi (R6 m.code p.n) TG a ba= .error (c,a'):=by
            simp only [Fw,q3,q4];unfold R6;rw [Xz ht,List.filterMap_append,List.filterMap_cons,if_pos Ab,Int.toNat_natCast];exact P7 q5 hgV
          repeat' (first|refine Cq rfl rfl rfl (D7 rfl rfl) ?_|refine Cq rfl rfl rfl (DT rfl rfl) ?_|apply B4|refine B3 0 BY AB ?_|refine B3 3 BY AR ?_|refine B3 4 BY (Ca rfl rfl rfl rfl rfl (UF Fv b1 b2 f.1.length f.2.length c1 c2)) ?_|(refine gk 4 rfl ?_;(refine B9 rfl rfl rfl rfl rfl rfl rfl rfl (hgo) ?_;rintro _ _ ⟨HF',HH',D6,rfl,rfl⟩;refine⟨_,_,rfl,rfl,?_⟩))|refine Cn (fun β=> ?_)|refine Ck ?_|refine B0 ?_|apply B5|refine B8 ?_|refine Cl ?_|refine Cg ?_|refine Cf ?_|apply Cb|apply Cc|refine Cx ?_|refine Dd ?_)
          exact Is [M,NM DZ (Ka D6),p.B,HF',HH',K3,D8 D6 c p.mi a'] ⟨rfl,HF',HH',K3,D6,c,a',rfl,Rr.le.trans lK,by
            obtain⟨l2,Nn⟩:=range_split q2;rw [Nn];exact KD q1 OW⟩
        | ok q=>
          obtain⟨dZ,c⟩:=q;rw [hgV] at hgo
          obtain⟨S1,S2,S3⟩:=SV Rr.CX q6 Ab hgV;have Ke:Gb TG f (((Nd.GG (FH m.code) (a:Int)).take (j+1)).filterMap fun t:Int=>if 0≤t/\t<p.n then some t.toNat else none) ba= .ok (dZ,b ||c):=by
            rw [hfs2,Oq,q5];simp only [hgV]
          cases b with
          | false=>
            repeat' (first|refine Cq rfl rfl rfl (DT rfl rfl) ?_|apply B4|refine B3 0 BY AS ?_|refine B3 3 BY AR ?_|refine B3 4 BY (Ca rfl rfl rfl rfl rfl (UF Fv b1 b2 f.1.length f.2.length c1 c2)) ?_|(refine gk 4 rfl ?_;(refine B9 rfl rfl rfl rfl rfl rfl rfl rfl (hgo) ?_;rintro _ _ ⟨HF2,HH2,K2,cs2,rfl,lK2,rfl,osF2,osH2,al⟩;refine⟨_,_,rfl,rfl,?_⟩))|refine Cn (fun β=> ?_)|refine Ck ?_|refine B0 ?_|apply B5|refine B8 ?_|refine Cg ?_|refine Cf ?_|apply Cc|refine H4 ?_)
            refine JQ [M,NM DZ .nilIface,R8 Ic c,Jg Eu p.Dq,Jg GJ p.Dq,p.B,HF2,HH2,K2,SY Fv b1 b2 f.1.length f.2.length c1 c2] ⟨_,⟨dZ,K2,rfl⟩,Kp p M DZ Ic Eu GJ c HF2 HH2 K2++ [SY Fv b1 b2 f.1.length f.2.length c1 c2],[],by rw [List.append_nil];exact List.Perm.refl _,HF2,HH2,cs2,c,TG,ba,g,⟨(Rr.le.trans lK).trans lK2,osF2,osH2,al,S1,S3.trans Rr.len⟩,q1,q2,q3,q4,?_,q6,q7,Nat.le_trans q8 S2,q9,.inr ⟨rfl,rfl,s1.mono lK2,s2.mono lK2,LD⟩⟩;rw [Ke,Bool.false_or]
          | true=>
            repeat' (first|refine Cq rfl rfl rfl (DT rfl rfl) ?_|apply B4|refine B3 0 BY (by first|exact CS rfl rfl|exact CG rfl rfl|exact Ds rfl rfl rfl|exact Ex rfl rfl rfl) ?_|refine Cw 0 BZ ?_|refine B3 3 BY AR ?_|refine B3 4 BY (Ca rfl rfl rfl rfl rfl (UF Fv b1 b2 f.1.length f.2.length c1 c2)) ?_|(refine gk 4 rfl ?_;(refine B9 rfl rfl rfl rfl rfl rfl rfl rfl (hgo) ?_;rintro _ _ ⟨HF2,HH2,K2,cs2,rfl,lK2,rfl,osF2,osH2,al⟩;refine⟨_,_,rfl,rfl,?_⟩))|refine Cn (fun β=> ?_)|refine Ck ?_|refine B0 ?_|apply B5|refine B8 ?_|refine Cg ?_|refine Cf ?_|apply Cc|refine H4 ?_)
            refine JQ [M,NM DZ .nilIface,R8 Ic true,Jg Eu p.Dq,Jg GJ p.Dq,p.B,HF2,HH2,K2,SY Fv b1 b2 f.1.length f.2.length c1 c2] ⟨_,⟨dZ,K2,rfl⟩,Kp p M DZ Ic Eu GJ true HF2 HH2 K2++ [SY Fv b1 b2 f.1.length f.2.length c1 c2],[],by rw [List.append_nil];exact List.Perm.refl _,HF2,HH2,cs2,true,TG,ba,g,⟨(Rr.le.trans lK).trans lK2,osF2,osH2,al,S1,S3.trans Rr.len⟩,q1,q2,q3,q4,?_,q6,q7,Nat.le_trans q8 S2,q9,.inr ⟨rfl,rfl,s1.mono lK2,s2.mono lK2,LD⟩⟩;rw [Ke,Bool.true_or]
  · rintro D own1 ⟨Dj,K',Jo,rest,hp,HF',HH',cs',b,rfl,hf',Vr⟩;refine⟨own1,LS,?_⟩;refine H4 ?_;refine B8 ?_;refine VS hM hp fun M' df=> ?_
    cases b with
    | false=>
      obtain rfl:=Ew.iX hr (.done Vr)
      repeat' (first|apply B4|refine B3 0 BY Bv ?_|refine B3 3 BY AD ?_|refine Ck ?_|refine B0 ?_|apply B5|refine B8 ?_|refine Cl ?_|apply Cb|refine CC ?_)
      refine⟨(by intro l h;cases h),?_⟩;exact S5 df [p.B,HF',HH',K'] (Ce (Fu rfl rfl rfl)) ⟨HF',HH',K',cs',rfl,rfl,hf'⟩
    | true=>
      have Em:left Dj<left σ:=by
        obtain⟨_,a2,_⟩:=HX (U7 hf.CX) Vr;rcases a2 rfl with q|q
        · cases q
        · exact q
      repeat' (first|apply B4|refine B3 0 BY Bu ?_|refine B3 3 BY AD ?_|refine B0 ?_|apply B5|refine B8 ?_|refine Cg ?_|apply Cc|refine H4 ?_)
      exact⟨⟨Dj,cs',HF',HH',K'⟩,M',df,CA (by repeat first|exact Sub.nil _|refine Sub.cons rfl ?_),⟨hf',hr.next Vr⟩,Em⟩
  · rintro D c own1 ⟨rfl,HF',HH',K',D6,e,a,rfl,lK',Vr⟩;refine⟨_,rfl,?_⟩;refine Rw hM (own':= [NM DZ (Ka D6),p.B,HF',HH',K',D8 D6 e p.mi a]) (List.Perm.refl _) fun M' df=> ?_
    obtain rfl:=Ew.iX hr (.bad Vr)
    repeat' (first|apply Cb|refine Cx ?_|refine Dd ?_)
    refine⟨(by intro l h;cases h),?_⟩;exact S5 df [p.B,HF',HH',K',D8 D6 e p.mi a] (Ce (Fu rfl rfl rfl)) ⟨HF',HH',K',D6,rfl,rfl,lK'⟩
end Go.Proofs.YtcnmnmjmpocepaaGreatDoor
end
section
namespace Go.Proofs.YtcnmnmjmpocepaaGreatDoor
open Go.SL
open Kd
theorem Mb{im:Im}{mi:Int}{nx:Nat->List Nat}:∀ {l:List Nat} {σ Dj:Fs} {b c:Bool},G7 σ->D1 im mi nx σ l b= .ok (Dj,c)->G7 Dj/\Dj.length=σ.length
  | [],σ,Dj,b,c,hS,h=>by cases h;exact⟨hS,rfl⟩
  | a ::l,σ,Dj,b,c,hS,h=>by
    unfold D1 at h
    split at h
    · cases h
    · rename_i Rl c1 e
      obtain⟨a1,a2,a3⟩:=Wj hS e;obtain⟨b1,b2⟩:=Mb a1 h;exact⟨b1,by omega⟩
attribute [local irreducible] SL.T C7 Dc C6 Db DS Du
section
variable (K0:B6) (im:Im) (DF mb:Option Addr) (DW EG mn mc:Nat) (mi:Int)
end
end Go.Proofs.YtcnmnmjmpocepaaGreatDoor
end
section
namespace Go.Proofs.YtcnmnmjmpocepaaGreatDoor
open Go.SL
open Kd
def mP(p:Ql->Prop)(K0:B6)(e:Ending)(o:List B6):Prop:=
  ∃q HF HH cs,p q/\o= [q.B,HF,HH,K0]/\e= .returned (.pointer (some ⟨q.Dq,0,none⟩))/\OS HF q.fb q.n q.n 59 2 cs/\OS HH q.hb q.n q.n 4 1 (Dp (List.replicate q.n none))/\GF K0 (List.replicate q.n none) cs
theorem ep(K0:B6)(n:Nat):GF K0 (List.replicate n none) ((List.replicate n [Value.slice none 0 0,Value.slice none 0 0]).flatten):=⟨by simp,fun i g hg=>by
    have:=List.eq_of_mem_replicate (List.mem_of_getElem? hg);cases this⟩
theorem OS.eo{b n:Nat}{T:TypeId}{zs:List Value}(h:zs.length=2):OS (Co b (.cells ⟨(List.replicate n zs).flatten⟩ T (0,0))) (some ⟨b,0,none⟩) n n T 2 ((List.replicate n zs).flatten):=
  OS.Co (by simp [h])
theorem OS.eK(b n:Nat):OS (Co b (.cells ⟨List.replicate n (.bool false)⟩ 4 (0,0))) (some ⟨b,0,none⟩) n n 4 1 (Dp (List.replicate n none)):=by
  have e:Dp (List.replicate n none)=List.replicate n (.bool false):=by simp [Dp]
  rw [e];exact OS.Co Ak
attribute [local irreducible] SL.T C7 Dc C6 Db DS Du
section
variable (K0:B6) (im:Im) (DF mb:Option Addr) (DW EG mn mc:Nat) (mi:Int)
theorem X2(HM:I6 K0 im.ms mb mn)(m:Me)(h:0≤mi/\mi<mn)(hm:im.ms[mi.toNat]?=some m):
    SL.T Tryz.prog 32 [F8 DF DW EG mb mn mc,i64 mi] [K0] (mP (fun q=>q.n=m.code.length/\q.mi=mi/\q.DF=DF/\q.DW=DW/\q.EG=EG/\q.mb=mb/\q.mn=mn/\q.mc=mc/\q.lo=m.lo/\q.st=m.st/\Sl K0 q.cb (Cp m.code)/\Sl K0 q.pb (m.params.map i64)/\m.params.length=q.pn) K0):=by
  obtain⟨CY,z1,z2,z3,z4,z5⟩:=id HM;obtain⟨pb,pn,pc,cb,cn,cc,g1,g2,g3,g4,g5,g6,g7,g8,g9,g10⟩:=z5 _ _ hm;have hkm:mi.toNat*4<CY.length:=by omega
  refine Ch Tryz.func32 rfl (Nat.le_of_ble_eq_true rfl) fun F=> ?_
  repeat' (first|apply B4|refine B3 0 BY AJ ?_|refine Cs 2 BY AG Ab ?_|refine B3 3 BY (by first|exact DI rfl Aa rfl Aa|exact CV rfl rfl|exact D5 rfl Aa rfl Aa Aa|exact CD rfl rfl rfl Ab Ab Ab|exact Mg rfl Aa Ai Ad Ad Ad Ad) ?_|refine B3 4 BY Ag ?_|refine B3 5 BY A4 ?_|refine CF (fun β=> ?_)|refine Ck ?_|refine B0 ?_|apply B5|refine B8 ?_|refine Cl ?_)
  obtain⟨Dq,rfl⟩:∃x,x=β:=⟨_,rfl⟩;obtain rfl:m.code.length=cn:=by omega
  refine Cu [.q [0],.f [1],.q [2,3,4,5,6,7],.an 8,.q [9,10,11,12,13],.r [14],.an 15,.rv 8,.q [16,17],.h true 18,.rv 15,.q [19,20],.h true 21] [] Ac Ac Ac Ac ?_
  repeat' (first|apply B4|refine B3 0 BY Af ?_|refine B3 3 BY Ah ?_|refine B3 4 BY Ag ?_|refine B3 5 BY Al ?_|refine B0 ?_|refine Cz ?_|refine CQ rfl ?_|refine FD rfl ?_|refine MV rfl ?_|refine Dg rfl rfl (by exact EP rfl rfl rfl rfl Ab Ab) ?_|refine DL rfl rfl rfl (fun β=> ?_)|refine C2 rfl rfl rfl rfl rfl rfl Aa rfl Aa Aa ?_|refine Dg rfl rfl (N1 rfl rfl rfl Aa Aa Ab Ab Ab) ?_|apply B5|refine B8 ?_|apply Cb)
  obtain⟨fV,rfl⟩:∃x,x=β:=⟨_,rfl⟩;obtain⟨D6,rfl⟩:∃x,x=β:=⟨_,rfl⟩;exact Cj [(Ql.mk Dq pb pn pc m.lo m.st cb cc DF DW EG mb mn mc mi (some ⟨D6,0,none⟩) (some ⟨fV,0,none⟩) m.code.length).B,Co D6 (.cells ⟨(List.replicate m.code.length [Value.slice none 0 0,Value.slice none 0 0]).flatten⟩ 59 (0,0)),Co fV (.cells ⟨List.replicate m.code.length (.bool false)⟩ 4 (0,0)),K0] (Ce (B7 rfl))
    ⟨Ql.mk Dq pb pn pc m.lo m.st cb cc DF DW EG mb mn mc mi (some ⟨D6,0,none⟩) (some ⟨fV,0,none⟩) m.code.length,_,_,_,⟨rfl,rfl,rfl,rfl,rfl,rfl,rfl,rfl,rfl,rfl,g8,g5,g6⟩,rfl,rfl,OS.eo rfl,OS.eK fV _,ep K0 _⟩
end
section
variable (p:Ql) (K:B6) (code:List Ins)
theorem ct(sl:Sl K p.cb (Cp code))(hn:code.length=p.n)(DE:p.n≤1000000)(h:Nd.off (FH code)<0):C7 Tryz.prog 33 [.pointer (some ⟨p.Dq,0,none⟩)] [p.B,K] .nilIface:=by
  haveI slC:Sl K p.cb (Nd.Cp (FH code)):=by rw [GA];exact sl
  have ho:=Nd.Qk K (.slice p.pb p.pn p.pc) p.lo p.st p.cb p.n p.cc (FH code) (by rw [Dk];exact hn) Ab;refine Ci Tryz.func33 rfl (Nat.le_of_ble_eq_true rfl) fun F=> ?_
  repeat' (first|apply B4|refine B3 0 BY Af ?_|refine CE 2 BY AC Ab ?_|refine B3 3 BY Bl ?_|refine B3 4 BY (Ca rfl rfl rfl rfl rfl (ho)) ?_|refine B3 5 BY Al ?_|refine B0 ?_|apply B5|refine B8 ?_|refine Cg ?_|apply Cb|apply Cc)
  exact Cj [p.B,K] (Ce (B7 rfl)) ⟨rfl,rfl⟩
theorem ZS(sl:Sl K p.cb (Cp code))(hn:code.length=p.n)(DE:p.n≤1000000)(h:0≤Nd.off (FH code)):
    SL.T Tryz.prog 33 [.pointer (some ⟨p.Dq,0,none⟩)] [p.B,K] fun e o=>∃D6,e= .returned (Ka D6)/\o= [p.B,K,D8 D6 8 p.mi (Nd.off (FH code))]:=by
  haveI slC:Sl K p.cb (Nd.Cp (FH code)):=by rw [GA];exact sl
  have ho:=Nd.Qk K (.slice p.pb p.pn p.pc) p.lo p.st p.cb p.n p.cc (FH code) (by rw [Dk];exact hn) Ab;have hfl:=H8 p.Dq p.pb p.pn p.pc p.lo p.st p.cb p.n p.cc p.DF p.DW p.EG p.mb p.mn p.mc p.mi p.fb p.hb p.n 8 (Nd.off (FH code));refine Ch Tryz.func33 rfl (Nat.le_of_ble_eq_true rfl) fun F=> ?_
  repeat' (first|apply B4|refine B3 0 BY Af ?_|refine Cs 2 BY AC Ab ?_|refine B3 3 BY Bl ?_|refine B3 4 BY (Ca rfl rfl rfl rfl rfl (ho)) ?_|(refine gk 4 rfl ?_;(refine B9 rfl rfl rfl rfl rfl rfl rfl rfl (hfl) ?_;rintro _ _ ⟨D6,rfl,rfl⟩;refine⟨_,_,rfl,rfl,?_⟩))|refine B3 5 BY Al ?_|refine B0 ?_|apply B5|refine B8 ?_|refine Cl ?_|apply Cb|refine Cx ?_)
  exact Cj [p.B,K,D8 D6 8 p.mi (Nd.off (FH code))] (Ce (B7 rfl)) ⟨D6,rfl,rfl⟩
theorem Yd(sl:Sl K p.cb (Cp code))(hn:code.length=p.n)(DE:p.n≤1000000)(h:Nd.L0 (FH code)<0):C7 Tryz.prog 35 [.pointer (some ⟨p.Dq,0,none⟩)] [p.B,K] .nilIface:=by
  haveI slC:Sl K p.cb (Nd.Cp (FH code)):=by rw [GA];exact sl
  have ho:=Nd.Ey K (.slice p.pb p.pn p.pc) p.lo p.st p.cb p.n p.cc (FH code) (by rw [Dk];exact hn) Ab;rw [if_neg Ab] at ho
  refine Ci Tryz.func35 rfl (Nat.le_of_ble_eq_true rfl) fun F=> ?_
  repeat' (first|apply B4|refine B3 0 BY AB ?_|refine CE 2 BY Av Ab ?_|refine B3 3 BY Bl ?_|(refine gk 4 rfl ?_;(refine B9 rfl rfl rfl rfl rfl rfl rfl rfl (ho) ?_;rintro _ _ ⟨N,rfl,rfl,rfl, -⟩;refine⟨_,_,rfl,rfl,?_⟩))|refine B3 5 BY Al ?_|refine B0 ?_|apply B5|refine B8 ?_|refine Cg ?_|apply Cb|apply Cc)
  exact Cj [p.B,K] (Ce (B7 rfl)) ⟨rfl,rfl⟩
theorem Wx(sl:Sl K p.cb (Cp code))(hn:code.length=p.n)(DE:p.n≤1000000)(h:0≤Nd.L0 (FH code)):
    SL.T Tryz.prog 35 [.pointer (some ⟨p.Dq,0,none⟩)] [p.B,K] fun e o=>∃D6,e= .returned (Ka D6)/\o= [p.B,K,D8 D6 10 p.mi (Nd.L0 (FH code))]:=by
  haveI slC:Sl K p.cb (Nd.Cp (FH code)):=by rw [GA];exact sl
  have ho:=Nd.Ey K (.slice p.pb p.pn p.pc) p.lo p.st p.cb p.n p.cc (FH code) (by rw [Dk];exact hn) Ab;rw [if_pos h] at ho
  have hfl:=H8 p.Dq p.pb p.pn p.pc p.lo p.st p.cb p.n p.cc p.DF p.DW p.EG p.mb p.mn p.mc p.mi p.fb p.hb p.n 10 (Nd.L0 (FH code));refine Ch Tryz.func35 rfl (Nat.le_of_ble_eq_true rfl) fun F=> ?_
  repeat' (first|apply B4|refine B3 0 BY AB ?_|refine Cs 2 BY Av Ab ?_|refine B3 3 BY Bl ?_|(refine gk 4 rfl ?_;(refine B9 rfl rfl rfl rfl rfl rfl rfl rfl (ho) ?_;rintro _ _ ⟨N,rfl,rfl,rfl, -⟩;refine⟨_,_,rfl,rfl,?_⟩))|(refine gk 4 rfl ?_;(refine B9 rfl rfl rfl rfl rfl rfl rfl rfl (hfl) ?_;rintro _ _ ⟨D6,rfl,rfl⟩;refine⟨_,_,rfl,rfl,?_⟩))|refine B3 5 BY Al ?_|refine B0 ?_|apply B5|refine B8 ?_|refine Cl ?_|apply Cb|refine Cx ?_)
  exact Cj [p.B,K,D8 D6 10 p.mi (Nd.L0 (FH code))] (Ce (B7 rfl)) ⟨D6,rfl,rfl⟩
end
end Go.Proofs.YtcnmnmjmpocepaaGreatDoor
end
