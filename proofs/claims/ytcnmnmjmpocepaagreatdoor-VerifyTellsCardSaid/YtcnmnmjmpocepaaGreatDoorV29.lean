
import Derived.Test.YtcnmnmjmpocepaaGreatDoorV00
import Derived.Test.YtcnmnmjmpocepaaGreatDoorV09
import Derived.Test.YtcnmnmjmpocepaaGreatDoorV28
import Derived.Test.YtcnmnmjmpocepaaGreatDoorV27
import Derived.Test.YtcnmnmjmpocepaaGreatDoorV25
import Derived.Test.YtcnmnmjmpocepaaGreatDoorV23
set_option linter.unusedVariables false
set_option linter.unusedSimpArgs false
set_option linter.unusedSectionVars false
set_option maxRecDepth 100000
set_option maxHeartbeats 16000000
section
namespace Go.Proofs.YtcnmnmjmpocepaaGreatDoor
open Go.SL
open Kd
def G2(m:Me)(n:Nat):Fs:=(List.replicate n none).set 0 (some (Fi m (FL m),[]))
def mN(p:Pz)(K0:CA)(r:Except Er Fs)(e:Ending)(o:List CA):Prop:=
  match r with
  | .error (c,a)=>∃HF HH K Ec,o= [p.B,HF,HH,K,EF Ec c p.mi a]/\e= .returned (LQ Ec)/\hle K0 K
  | .ok σ=>∃HF HH K cs,o= [p.B,HF,HH,K]/\e= .returned .nilIface/\ae p K0 σ K HF HH cs
theorem E8.next{im:Im}{mi:Int}{nx:Nat->List Nat}{n:Nat}{σ ED:Fs}{r:Except Er Fs}(h:E8 im mi nx n σ r)(hr:Ez im mi nx σ (List.range n) false= .ok (ED,true)):E8 im mi nx n ED r:=by
  cases h with
  |bad h=>rw [hr] at h;cases h
  |done h=>rw [hr] at h;cases h
  |more h h2=>rw [hr] at h;cases h;exact h2
theorem Th{σ:Fs}(h:Hw σ):eD σ:=fun g hg=>(h g hg).1
theorem I1(m:Me){n:Nat}(h:0<n):Hw (G2 m n):=by
  have hc:J7 (G2 m n)=1:=by
    have:=KA (σ:=List.replicate n none) (i:=0) (o:=none) (some (Fi m (FL m),[])) (by simp [h]);have h0:J7 (List.replicate n none)=0:=by simp [J7]
    simp only [h0] at this
    simpa [G2] using this
  intro g hg;unfold G2 at hg
  rcases List.mem_or_eq_of_mem_set hg with q|q
  · have:=List.eq_of_mem_replicate q;cases this
  · cases q
    have:=NY m;have:=Ia m (FL m);exact⟨by dsimp only;omega,by rw [hc];exact Nat.le_refl _⟩
structure SM where
  σ:Fs
  cs:List Value
  HF:CA
  HH:CA
  K:CA
attribute [local irreducible] SL.T Dw DG DE DI Et D0
theorem M8 (p:Pz)(im:Im)(m:Me)(K0 kD iW:CA)(Z0:List Value)(EP:FY K0 im.cls p.Du p.Dr)(Gq:Hd K0 im.ms p.mb p.mn)(Iu:Sl K0 p.cb (CZ m.code))
    (h:0≤p.mi/\p.mi<p.mn) (hm:im.ms[p.mi.toNat]?=some m) (iH:m.code.length=p.n) (h0:0<p.n) (DO:p.n≤1000000)
    (HU:OS kD p.fb p.n p.n 59 2 Z0) (HT:OS iW p.hb p.n p.n 4 1 (DM (List.replicate p.n none))) (l8:GL K0 (List.replicate p.n none) Z0) {r:Except Er Fs} (hr:E8 im p.mi (Q7 m.code p.n) p.n (G2 m p.n) r):
    SL.T Tryz.prog 34 [.pointer (some ⟨p.DA,0,none⟩)] [p.B,kD,iW,K0] (mN p K0 r):=by
  have Gy:=TF K0 im p.Du p.mb p.Dr p.DP p.mn p.mc p.mi Gq m h hm;haveI Yb:=HU.sl;haveI WR:=HT.sl;have Jt:Z0.length=p.n*2:=by have:=l8.1;simpa using this
  have hkf:(0:Int).toNat*2<Z0.length:=by simp;omega
  have hkh:(0:Int).toNat*1<(DM (List.replicate p.n none)).length:=by simp [DM];omega
  refine CM Tryz.func34 rfl (Nat.le_of_ble_eq_true rfl) fun F=> ?_
  repeat' (first|apply Cv|refine C2 (fun β=> ?_)|refine CT (fun β=> ?_)|refine Cu ?_|apply Cw|refine Cy ?_)
  obtain⟨Ei,rfl⟩:∃x,x=β:=⟨_,rfl⟩;obtain⟨ET,rfl⟩:∃x,x=β:=⟨_,rfl⟩;refine WN ?_;refine Cv ?_;refine C0 [.q [0,1,2,3,4,5,6,7],.an 12,.h false 8,.q [9,10],.f [11],.rv 12,.h true 13,.q [14]] [PV Ei .nilIface,KP ET p.DA,p.B] Ac Ac Ac Ac ?_
  repeat' (first|apply Cv|refine Ct 0 Cr AC ?_|refine Ct 3 Cr AE ?_|refine Ct 5 Cr Ak ?_|refine C5 ?_|refine Dd rfl ?_|refine Fq rfl ?_|refine Dn rfl rfl AR ?_|refine DN rfl rfl rfl (fun β=> ?_)|refine Df rfl rfl rfl rfl rfl rfl Aa rfl Aa Aa ?_|(refine Ev rfl rfl rfl rfl rfl rfl rfl rfl (Gy) (by rintro _ _ ⟨hS,bS,cS,rfl,rfl,osS⟩;exact⟨_,rfl⟩) ?_;rintro _ _ ⟨hS,bS,cS,rfl,rfl,osS⟩;refine⟨_,_,rfl,rfl,?_⟩)|apply Cw)
  obtain⟨JQ,rfl⟩:∃x,x=β:=⟨_,rfl⟩;refine C0 [.q [0,1,2,3,4,5,6,7],.r [8],.q [9],.h true 10,.q [11],.h true 12] [KP ET p.DA,p.B,VH JQ bS none (FL m) 0 cS 0] Ac Ac Ac Ac ?_
  repeat' (first|apply Cv|refine Ct 3 Cr Bn ?_|refine Ct 5 Cr Ak ?_|refine C5 ?_|refine Dd rfl ?_|refine HW rfl ?_|refine Ew rfl rfl rfl rfl rfl rfl HT rfl rfl rfl (Nat.succ_pos _) As (Kt (Fi m (FL m),[]) (t:=0) As) (fun hA MO=> ?_)|refine Ew rfl rfl rfl rfl rfl rfl HU rfl rfl rfl (Nat.succ_pos _) As rfl (fun hB OL=> ?_)|apply Cw)
  refine Y5 ?_;refine Cy ?_;refine Lt [K0,hS] fun K1 l7=> ?_
  have lK:hle K0 K1:=l7 _ Am;have slS:Sl K1 bS ((Fi m (FL m)).map i64):=osS.sl.mono (l7 _ Am);have hfr:=(l8.mono lK).set (t:=0) (g:=(Fi m (FL m),[])) (c1:=cS) (c2:=0) As slS (Sl.none:Sl K1 none []) (Nat.le_refl _);dsimp only at hfr
  rw [Ia] at hfr
  have ZP:ae p K0 (G2 m p.n) K1 hB hA _:=⟨lK,OL,MO,hfr,I1 m h0,by simp [G2]⟩
  repeat' (first|apply Cv|refine CC ?_)
  refine Y4 (fun _:SM=> [(1,.pointer (some ⟨ET,0,none⟩)),(2,.pointer (some ⟨Ei,0,none⟩))]) (fun s=> [PV Ei .nilIface,KP ET p.DA,p.B,s.HF,s.HH,s.K])
    (fun s=>ae p K0 s.σ s.K s.HF s.HH s.cs/\E8 im p.mi (Q7 m.code p.n) p.n s.σ r) (fun s=>left s.σ) ⟨G2 m p.n,_,hB,hA,K1⟩ (by repeat first|exact Sub.nil _|refine Sub.cons rfl ?_) ⟨ZP,hr⟩ ?_
  clear hr ZP hfr Yb WR MO OL;rintro⟨σ,cs,HF,HH,K⟩ ds M hM ⟨hf,hr⟩;dsimp only at hf hr ⊢
  repeat' (first|apply Cv|refine Ct 3 Cr AN ?_|(refine gk 4 rfl ?_;(refine CK rfl rfl rfl rfl rfl rfl rfl rfl (WE p.DA) ?_;rintro _ _ ⟨HX,rfl,rfl⟩;refine⟨_,_,rfl,rfl,?_⟩))|refine CT (fun β=> ?_)|refine CN ?_|refine Cu ?_|apply Cw|refine Cy ?_|refine CC ?_)
  obtain⟨Gr,rfl⟩:∃x,x=β:=⟨_,rfl⟩;have hJ0:JJ p im m M Ei Gr ET HX σ K0 (.scan 0 σ K) [KP HX p.DA,Vb Gr false,M,PV Ei .nilIface,KP ET p.DA,p.B,HF,HH,K]:=
    ⟨Mc p M Ei Gr ET HX false HF HH K,_,Dx.perm,HF,HH,cs,false,rfl,hf,rfl⟩
  refine WQ (hsI:= []) (s0:=WS.scan 0 σ K) (view:=QY p im m HX) (nx:=o4 p im m HX) (tr:=oZ) (mv:=ki p im m) (dn:=o6 p)
    (JJ p im m M Ei Gr ET HX σ K0) (fun own1=>∃ED K',JJ p im m M Ei Gr ET HX σ K0 (.scan p.n ED K') own1) (sx p im m M Ei σ K0) rfl (YW p im m HX σ K iH DO) (fun s H H' l v=>v.mono l) rfl hJ0 (fun s own1 q d=>Z1 EP Gq Iu q d) (fun s s' own1 q1 q2=>gH q1 q2) (fun s own1 q1 q2=>by obtain⟨ED,K',rfl⟩:=q1;exact⟨ED,K',q2⟩) ?_ ?_ ?_
  · rintro L s own1 x Ws hJ hx;cases s with
    | scan a σ1 K1=>
      obtain⟨g,c,JQ,EO,RS,hs,Gy,ha,rfl,rfl⟩:=hx;obtain⟨K6,rest,hp,eB,eA,gG,b,rfl,SF,oa⟩:=hJ;refine⟨rfl,fun F1=>⟨_,rfl,?_⟩⟩;refine Pg (UJ hp) ?_;dsimp only [Mc,List.cons_append,List.nil_append]
      repeat' (first|apply Cv|refine Ct 0 Cr Au ?_|refine Cu ?_|apply Cw|refine Cy ?_)
      intro F2;have hfl:=gu p EO HX RS JQ c (a:Int)
      repeat' (first|refine CW rfl rfl rfl (E4 rfl rfl) ?_|apply Cv|refine Ct 0 Cr AC ?_|(refine gk 4 rfl ?_;(refine CK rfl rfl rfl rfl rfl rfl rfl rfl (hfl) ?_;rintro _ _ ⟨Ec,rfl,rfl⟩;refine⟨_,_,rfl,rfl,?_⟩))|refine CT (fun β=> ?_)|refine CN ?_|refine Cu ?_|apply Cw|refine Cy ?_|refine CH ?_|refine CC ?_|apply Cz|refine CQ ?_|refine C3 ?_)
      exact JV [M,PV Ei (LQ Ec),p.B,eB,eA,K1,EF Ec c p.mi (a:Int)] ⟨rfl,eB,eA,K1,Ec,c,(a:Int),rfl,SF.le,by
        obtain⟨l2,LK⟩:=range_split ha;rw [LK];exact I4 oa (by simp only [FN,hs,Gy])⟩
    | go a σ1 K1 f j EO b1 b2 c1 c2 gv=>
      obtain⟨t,ht,eo,ng,rfl,hw⟩:=hx;obtain⟨K6,rest,hp,eB,eA,gG,b,WA,ba,g,SF,q1,q2,q3,q4,q5,q6,q7,q8,q9,ZO⟩:=hJ;refine⟨rfl,fun F1=>⟨_,rfl,?_⟩⟩;refine Y6 (A:= [M,PV Ei .nilIface,Vb Gr b,KP ET p.DA,KP HX p.DA,p.B,eB,eA]) (K:=K1) (FR:=VH EO b1 b2 f.1.length f.2.length c1 c2) (R:=fun K3=>Sl K3 b1 (f.1.map i64)/\Sl K3 b2 (f.2.map i64)/\f.2.length≤c2) hp ?_ ?_
      · rcases ZO with ⟨e1,e2⟩|⟨e1,e2,e3⟩
        · right
          rcases hw with ⟨e4,_⟩|⟨_,Kn,K',e5,e6,e7,e8,e9⟩
          · rw [e1] at e4;cases e4
          · exact⟨e2,Kn,e5,fun K3 l1 l2=>⟨e7.mono (e6 K3 l1 l2),e8.mono (e6 K3 l1 l2),e9⟩⟩
        · exact .inl ⟨e2,e3⟩
      · rintro K3 lK ⟨s1,s2,L8⟩;obtain⟨tn,rfl⟩:∃tn:Nat,t=(tn:Int):=⟨t.toNat,by omega⟩;have hfs2:=Lj (n:=p.n) ht;rw [if_pos Ab,Int.toNat_natCast] at hfs2
        have hfl1:=SF.len;have hgo:=MD p.DA p.pb p.pn p.pc p.lo p.st p.cb p.n p.cc p.Du p.Dr p.DP p.mb p.mn p.mc p.mi p.fb p.hb p.n K3 eB eA b1 b2 c1 c2 tn σ1 gG f Ab SF.len SF.HU SF.HT (SF.fr.mono lK) s1 s2 L8 Ab (UF SF.Dl Ab) Ab (by have:=MI σ1;omega)
        repeat' (first|apply Cv|refine Ct 0 Cr Au ?_|refine Cu ?_|apply Cw|refine Cy ?_)
        intro F2;cases hgV:FZ σ1 tn f with
        | error e=>
          obtain⟨c,a'⟩:=e;rw [hgV] at hgo
          have OR:FN im p.mi (Q7 m.code p.n) WA a ba= .error (c,a'):=by
            simp only [FN,q3,q4];unfold Q7;rw [UA ht,List.filterMap_append,List.filterMap_cons,if_pos Ab,Int.toNat_natCast];exact Oj q5 hgV
          repeat' (first|refine CW rfl rfl rfl (E4 rfl rfl) ?_|refine CW rfl rfl rfl (EV rfl rfl) ?_|apply Cv|refine Ct 0 Cr AC ?_|refine Ct 3 Cr A2 ?_|refine Ct 4 Cr (CE rfl rfl rfl rfl rfl (XJ EO b1 b2 f.1.length f.2.length c1 c2)) ?_|(refine gk 4 rfl ?_;(refine CK rfl rfl rfl rfl rfl rfl rfl rfl (hgo) ?_;rintro _ _ ⟨HF',HH',Ec,rfl,rfl⟩;refine⟨_,_,rfl,rfl,?_⟩))|refine CT (fun β=> ?_)|refine CN ?_|refine Cu ?_|apply Cw|refine Cy ?_|refine CH ?_|refine CF ?_|refine CC ?_|apply Cz|apply CB|refine CQ ?_|refine C3 ?_)
          exact JV [M,PV Ei (LQ Ec),p.B,HF',HH',K3,EF Ec c p.mi a'] ⟨rfl,HF',HH',K3,Ec,c,a',rfl,SF.le.trans lK,by
            obtain⟨l2,LK⟩:=range_split q2;rw [LK];exact I4 q1 OR⟩
        | ok q=>
          obtain⟨eE,c⟩:=q;rw [hgV] at hgo
          obtain⟨S1,S2,S3⟩:=Qz SF.Dl q6 Ab hgV;have Kr:Hb WA f (((Nd.Gp (Hy m.code) (a:Int)).take (j+1)).filterMap fun t:Int=>if 0≤t/\t<p.n then some t.toNat else none) ba= .ok (eE,b ||c):=by
            rw [hfs2,ME,q5];simp only [hgV]
          cases b with
          | false=>
            repeat' (first|refine CW rfl rfl rfl (EV rfl rfl) ?_|apply Cv|refine Ct 0 Cr A0 ?_|refine Ct 3 Cr A2 ?_|refine Ct 4 Cr (CE rfl rfl rfl rfl rfl (XJ EO b1 b2 f.1.length f.2.length c1 c2)) ?_|(refine gk 4 rfl ?_;(refine CK rfl rfl rfl rfl rfl rfl rfl rfl (hgo) ?_;rintro _ _ ⟨HF2,HH2,K2,cs2,rfl,lK2,rfl,osF2,osH2,hF2⟩;refine⟨_,_,rfl,rfl,?_⟩))|refine CT (fun β=> ?_)|refine CN ?_|refine Cu ?_|apply Cw|refine Cy ?_|refine CF ?_|refine CC ?_|apply CB|refine Ja ?_)
            refine Lx [M,PV Ei .nilIface,Vb Gr c,KP ET p.DA,KP HX p.DA,p.B,HF2,HH2,K2,VH EO b1 b2 f.1.length f.2.length c1 c2] ⟨_,⟨eE,K2,rfl⟩,Mc p M Ei Gr ET HX c HF2 HH2 K2++ [VH EO b1 b2 f.1.length f.2.length c1 c2],[],by rw [List.append_nil];exact List.Perm.refl _,HF2,HH2,cs2,c,WA,ba,g,⟨(SF.le.trans lK).trans lK2,osF2,osH2,hF2,S1,S3.trans SF.len⟩,q1,q2,q3,q4,?_,q6,q7,Nat.le_trans q8 S2,q9,.inr ⟨rfl,rfl,s1.mono lK2,s2.mono lK2,L8⟩⟩;rw [Kr,Bool.false_or]
          | true=>
            repeat' (first|refine CW rfl rfl rfl (EV rfl rfl) ?_|apply Cv|refine Ct 0 Cr (by first|exact Dh rfl rfl|exact Db rfl rfl|exact DS rfl rfl rfl|exact Ey rfl rfl rfl) ?_|refine CG 0 Cs ?_|refine Ct 3 Cr A2 ?_|refine Ct 4 Cr (CE rfl rfl rfl rfl rfl (XJ EO b1 b2 f.1.length f.2.length c1 c2)) ?_|(refine gk 4 rfl ?_;(refine CK rfl rfl rfl rfl rfl rfl rfl rfl (hgo) ?_;rintro _ _ ⟨HF2,HH2,K2,cs2,rfl,lK2,rfl,osF2,osH2,hF2⟩;refine⟨_,_,rfl,rfl,?_⟩))|refine CT (fun β=> ?_)|refine CN ?_|refine Cu ?_|apply Cw|refine Cy ?_|refine CF ?_|refine CC ?_|apply CB|refine Ja ?_)
            refine Lx [M,PV Ei .nilIface,Vb Gr true,KP ET p.DA,KP HX p.DA,p.B,HF2,HH2,K2,VH EO b1 b2 f.1.length f.2.length c1 c2] ⟨_,⟨eE,K2,rfl⟩,Mc p M Ei Gr ET HX true HF2 HH2 K2++ [VH EO b1 b2 f.1.length f.2.length c1 c2],[],by rw [List.append_nil];exact List.Perm.refl _,HF2,HH2,cs2,true,WA,ba,g,⟨(SF.le.trans lK).trans lK2,osF2,osH2,hF2,S1,S3.trans SF.len⟩,q1,q2,q3,q4,?_,q6,q7,Nat.le_trans q8 S2,q9,.inr ⟨rfl,rfl,s1.mono lK2,s2.mono lK2,L8⟩⟩;rw [Kr,Bool.true_or]
  · rintro D own1 ⟨ED,K',K6,rest,hp,HF',HH',cs',b,rfl,hf',Ss⟩;refine⟨own1,NG,?_⟩;refine Ja ?_;refine Cy ?_;refine Y2 hM hp fun M' j1=> ?_
    cases b with
    | false=>
      obtain rfl:=E8.mu hr (.done Ss)
      repeat' (first|apply Cv|refine Ct 0 Cr BT ?_|refine Ct 3 Cr AN ?_|refine CN ?_|refine Cu ?_|apply Cw|refine Cy ?_|refine CH ?_|apply Cz|refine C1 ?_)
      refine⟨(by intro l h;cases h),?_⟩;exact VL j1 [p.B,HF',HH',K'] (CD (Gn rfl rfl rfl)) ⟨HF',HH',K',cs',rfl,rfl,hf'⟩
    | true=>
      have E6:left ED<left σ:=by
        obtain⟨_,a2,_⟩:=Ik (Th hf.Dl) Ss;rcases a2 rfl with q|q
        · cases q
        · exact q
      repeat' (first|apply Cv|refine Ct 0 Cr BS ?_|refine Ct 3 Cr AN ?_|refine Cu ?_|apply Cw|refine Cy ?_|refine CF ?_|apply CB|refine Ja ?_)
      exact⟨⟨ED,cs',HF',HH',K'⟩,M',j1,CX (by repeat first|exact Sub.nil _|refine Sub.cons rfl ?_),⟨hf',hr.next Ss⟩,E6⟩
  · rintro D c own1 ⟨rfl,HF',HH',K',Ec,e,a,rfl,lK',Ss⟩;refine⟨_,rfl,?_⟩;refine Ut hM (own':= [PV Ei (LQ Ec),p.B,HF',HH',K',EF Ec e p.mi a]) (List.Perm.refl _) fun M' j1=> ?_
    obtain rfl:=E8.mu hr (.bad Ss)
    repeat' (first|apply Cz|refine CQ ?_|refine C3 ?_)
    refine⟨(by intro l h;cases h),?_⟩;exact VL j1 [p.B,HF',HH',K',EF Ec e p.mi a] (CD (Gn rfl rfl rfl)) ⟨HF',HH',K',Ec,rfl,rfl,lK'⟩
end Go.Proofs.YtcnmnmjmpocepaaGreatDoor
end
section
namespace Go.Proofs.YtcnmnmjmpocepaaGreatDoor
open Go.SL
open Kd
def oU(n:Nat)(mi:Int)(K0:CA)(r:Except Er Fs)(e:Ending)(o:List CA):Prop:=
  ∃DA fb hb,e= .returned (.pointer (some ⟨DA,0,none⟩))/\match r with
  | .error (c,a)=>∃HF HH K,o= [Gs DA fb hb n c mi a,HF,HH,K]/\hle K0 K
  | .ok σ=>∃HF HH K cs,o= [Gs DA fb hb n 0 0 0,HF,HH,K]/\hle K0 K/\OS HF fb n n 60 2 cs/\OS HH hb n n 4 1 (DM σ)/\GL K σ cs
theorem OS.wide{b n:Nat}{T:TypeId}{zs:List Value}(h:zs.length=2):OS (CV b (.cells ⟨(List.replicate n zs).flatten⟩ T (0,0))) (some ⟨b,0,none⟩) n n T 2 ((List.replicate n zs).flatten):=
  OS.CV (by simp [h])
theorem Ly{im:Im}{mi:Int}{nx:Nat->List Nat}:∀ {l:List Nat} {σ ED:Fs} {b c:Bool},Hw σ->Ez im mi nx σ l b= .ok (ED,c)->Hw ED/\ED.length=σ.length
  | [],σ,ED,b,c,hS,h=>by cases h;exact⟨hS,rfl⟩
  | a ::l,σ,ED,b,c,hS,h=>by
    unfold Ez at h
    split at h
    · cases h
    · rename_i σ1 c1 e
      obtain⟨a1,a2,a3⟩:=Zq hS e;obtain⟨b1,b2⟩:=Ly a1 h;exact⟨b1,by omega⟩
attribute [local irreducible] SL.T Dw DG DE DI Et D0
section
variable (K0:CA) (im:Im) (Du mb:Option Addr) (Dr DP mn mc:Nat) (mi:Int)
theorem PY(h:¬(0≤mi/\mi<mn))(DO:mn≤4000000):
    SL.T Tryz.prog 16 [Gi Du Dr DP mb mn mc,i64 mi] [K0] fun e o=>∃DA,e= .returned (.pointer (some ⟨DA,0,none⟩))/\o= [Gs DA none none 0 8 mi 0,K0]:=by
  refine CM Tryz.func16 rfl (Nat.le_of_ble_eq_true rfl) fun F=> ?_
  by_cases h0:mi<0
  · repeat' (first|apply Cv|refine Ct 0 Cr Aw ?_|refine CG 0 Cs ?_|refine CG 2 Cs ?_|refine CO 2 Cr Aj Ab ?_|refine Ct 3 Cr Bc ?_|refine CG 3 Cs ?_|refine CG 4 Cs ?_|refine Ct 5 Cr AX ?_|refine C2 (fun β=> ?_)|refine CN ?_|refine Cu ?_|apply Cw|refine Cy ?_|refine CH ?_|apply Cz|refine CQ ?_)
    exact CJ [Gs β none none 0 8 mi 0,K0] (CD (Cx rfl)) ⟨β,rfl,rfl⟩
  · have h1:(mn:Int)≤mi:=by omega
    repeat' (first|apply Cv|refine Ct 0 Cr Ay ?_|refine CG 0 Cs ?_|refine CG 2 Cs ?_|refine CO 2 Cr Ar Ab ?_|refine CY 2 Cr Aj Ab ?_|refine Ct 3 Cr Af ?_|refine CG 3 Cs ?_|refine CG 4 Cs ?_|refine Ct 4 Cr Ae ?_|refine Ct 5 Cr AX ?_|refine C2 (fun β=> ?_)|refine CN ?_|refine Cu ?_|apply Cw|refine Cy ?_|refine CH ?_|apply Cz|refine CQ ?_)
    exact CJ [Gs β none none 0 8 mi 0,K0] (CD (Cx rfl)) ⟨β,rfl,rfl⟩
theorem JI(EP:FY K0 im.cls Du Dr)(Gq:Hd K0 im.ms mb mn)(m:Me)(h:0≤mi/\mi<mn)(hm:im.ms[mi.toNat]?=some m)(n:Nat)(iH:m.code.length=n)(h0:0<n)(DO:n≤1000000)
    {r:Except Er Fs} (hr:E8 im mi (Q7 m.code n) n (G2 m n) r):
    SL.T Tryz.prog 16 [Gi Du Dr DP mb mn mc,i64 mi] [K0] (oU n mi K0 r):=by
  have Gy:=Tw K0 im Du mb Dr DP mn mc mi Gq m h hm;obtain⟨C9,z1,z2,z3,z4,z5⟩:=id Gq;obtain⟨pb,pn,pc,cb,cn,cc,g1,g2,g3,g4,g5,g6,g7,g8,g9,g10⟩:=z5 _ _ hm;have hkm:mi.toNat*4<C9.length:=by omega
  have ZR:cn=n:=by omega
  subst ZR;refine CM Tryz.func16 rfl (Nat.le_of_ble_eq_true rfl) fun F=> ?_
  repeat' (first|apply Cv|refine Ct 0 Cr Az ?_|refine CY 2 Cr Bb Ab ?_|refine Ct 3 Cr AL ?_|refine Ct 4 Cr Ae ?_|refine Ct 5 Cr Aq ?_|refine C2 (fun β=> ?_)|refine Cu ?_|apply Cw|refine Cy ?_|refine CF ?_|apply CB)
  obtain⟨DA,rfl⟩:∃x,x=β:=⟨_,rfl⟩;obtain⟨eF,rfl⟩:∃x,x=β:=⟨_,rfl⟩;refine C0 [.q [0],.f [1],.q [2],.an 3,.f [4],.an 5,.rv 3,.q [6,7],.h true 8,.rv 5,.q [9,10],.h true 11] [] Ac Ac Ac Ac ?_
  repeat' (first|apply Cv|refine Ct 0 Cr Ap ?_|refine Ct 3 Cr Bc ?_|refine Ct 5 Cr Ak ?_|refine C5 ?_|refine Dd rfl ?_|refine Fq rfl ?_|refine Dn rfl rfl BH ?_|refine DN rfl rfl rfl (fun β=> ?_)|refine Df rfl rfl rfl rfl rfl rfl Aa rfl Aa Aa ?_|refine Dn rfl rfl (HM rfl rfl rfl Aa Aa Ab Ab Ab) ?_|apply Cw)
  obtain⟨Pd,rfl⟩:∃x,x=β:=⟨_,rfl⟩;obtain⟨Ec,rfl⟩:∃x,x=β:=⟨_,rfl⟩;have HU:=OS.wide (b:=Ec) (n:=cn) (T:=60) (zs:= [Value.slice none 0 0,Value.slice none 0 0]) rfl;have HT:OS (CV Pd (.cells ⟨List.replicate cn (.bool false)⟩ 4 (0,0))) (some ⟨Pd,0,none⟩) cn cn 4 1 (DM (List.replicate cn none)):=by
    have e:DM (List.replicate cn none)=List.replicate cn (.bool false):=by simp [DM]
    rw [e];exact OS.CV Am
  have l8:GL K0 (List.replicate cn none) ((List.replicate cn [Value.slice none 0 0,Value.slice none 0 0]).flatten):=⟨by simp,fun i g hg=>by
    have:=List.eq_of_mem_replicate (List.mem_of_getElem? hg);cases this⟩
  have Jt:((List.replicate cn [Value.slice none 0 0,Value.slice none 0 0]).flatten).length=cn*2:=by simp
  generalize Oi:(List.replicate cn [Value.slice none 0 0,Value.slice none 0 0]).flatten=Z0 at HU l8 Jt ⊢
  generalize (List.replicate cn (Value.bool false))=Wt at HT ⊢
  generalize CV Ec (.cells ⟨Z0⟩ 60 (0,0))=kD at HU ⊢
  generalize CV Pd (.cells ⟨Wt⟩ 4 (0,0))=iW at HT ⊢
  haveI Yb:=HU.sl;haveI WR:=HT.sl;have hkf:(0:Int).toNat*2<Z0.length:=by simp;omega
  have hkh:(0:Int).toNat*1<(DM (List.replicate cn none)).length:=by simp [DM];omega
  refine C0 [.q [0,1,2,3,4,5],.h false 6,.q [7,8],.f [9],.q [10],.h true 11] [Gs DA (some ⟨Ec,0,none⟩) (some ⟨Pd,0,none⟩) cn 0 0 0,CV eF (.cells ⟨[.slice Du Dr DP,.slice mb mn mc]⟩ 32 (0,0)),iW] Ac Ac Ac Ac ?_
  repeat' (first|refine Gl rfl rfl rfl rfl rfl HT rfl rfl rfl (Nat.succ_pos _) As (Kt (Fi m (FL m),[]) (t:=0) As) (fun hA MO=> ?_)|apply Cv|refine Ct 0 Cr BG ?_|refine Ct 3 Cr Bn ?_|refine Ct 5 Cr Ak ?_|refine Cu ?_|refine C5 ?_|refine Dd rfl ?_|refine Fq rfl ?_|(refine Ev rfl rfl rfl rfl rfl rfl rfl rfl (Gy) (by rintro _ _ ⟨hS,bS,cS,rfl,rfl,osS⟩;exact⟨_,rfl⟩) ?_;rintro _ _ ⟨hS,bS,cS,rfl,rfl,osS⟩;refine⟨_,_,rfl,rfl,?_⟩)|refine Ew rfl rfl rfl rfl rfl rfl HU rfl rfl rfl (Nat.succ_pos _) As rfl (fun hB OL=> ?_)|apply Cw|refine CC ?_)
  refine Lt [K0,hS] fun K1 l7=> ?_
  have lK:hle K0 K1:=l7 _ Am;have slS:Sl K1 bS ((Fi m (FL m)).map i64):=osS.sl.mono (l7 _ Am);have hfr:=(l8.mono lK).set (t:=0) (g:=(Fi m (FL m),[])) (c1:=cS) (c2:=0) As slS (Sl.none:Sl K1 none []) (Nat.le_refl _);dsimp only at hfr
  rw [Ia] at hfr
  refine C4 (fun _:SM=> [(1,i64 mi),(2,.pointer (some ⟨eF,0,none⟩)),(5,.pointer (some ⟨DA,0,none⟩))]) (fun s=> [Gs DA (some ⟨Ec,0,none⟩) (some ⟨Pd,0,none⟩) cn 0 0 0,CV eF (.cells ⟨[.slice Du Dr DP,.slice mb mn mc]⟩ 32 (0,0)),s.HF,s.HH,s.K])
    (fun s=>hle K0 s.K/\OS s.HF (some ⟨Ec,0,none⟩) cn cn 60 2 s.cs/\OS s.HH (some ⟨Pd,0,none⟩) cn cn 4 1 (DM s.σ)/\GL s.K s.σ s.cs/\Hw s.σ/\s.σ.length=cn/\E8 im mi (Q7 m.code cn) cn s.σ r) (fun s=>left s.σ) ⟨G2 m cn,_,hB,hA,K1⟩ (by repeat first|exact Sub.nil _|refine Sub.cons rfl ?_) ⟨lK,OL,MO,hfr,I1 m h0,by simp [G2],hr⟩ ?_
  clear hr hfr Yb WR MO OL HU HT;rintro⟨σ,cs,HF,HH,K⟩ ⟨l,HU,HT,hF,hS,hn,hr⟩;dsimp only at l HU HT hF hS hn hr ⊢
  have Kq:=UO K HF HH DA 0 0 im Du mb (some ⟨Ec,0,none⟩) (some ⟨Pd,0,none⟩) Dr DP mn mc cn mi σ cs m (EP.mono l) (Gq.mono l) h hm iH hn HU HT hF hS DO;cases hq:Ez im mi (Q7 m.code cn) σ (List.range cn) false with
  | error e=>
    obtain⟨c,a⟩:=e;rw [hq] at Kq
    obtain rfl:=E8.mu hr (.bad hq)
    repeat' (first|apply Cv|refine Ct 0 Cr Ag ?_|refine Ct 3 Cr AA ?_|(refine gk 4 rfl ?_;(refine CK rfl rfl rfl rfl rfl rfl rfl rfl (Kq) ?_;rintro _ _ ⟨HF',HH',K',rfl,lK',rfl⟩;refine⟨_,_,rfl,rfl,?_⟩))|refine Cu ?_|apply Cw|refine Cy ?_|refine CF ?_|apply Cz|refine C1 ?_)
    exact CJ [Gs DA (some ⟨Ec,0,none⟩) (some ⟨Pd,0,none⟩) cn c mi a,HF',HH',K'] (CD (Cx rfl)) ⟨DA,_,_,rfl,HF',HH',K',rfl,l.trans lK'⟩
  | ok q=>
    obtain⟨ED,b⟩:=q;rw [hq] at Kq
    cases b with
    | false=>
      obtain rfl:=E8.mu hr (.done hq)
      repeat' (first|apply Cv|refine Ct 0 Cr Ag ?_|refine Ct 3 Cr AA ?_|(refine gk 4 rfl ?_;(refine CK rfl rfl rfl rfl rfl rfl rfl rfl (Kq) ?_;rintro _ _ ⟨HF',HH',K',cs',rfl,lK',rfl,a1,a2,a3⟩;refine⟨_,_,rfl,rfl,?_⟩))|refine Cu ?_|apply Cw|refine Cy ?_|refine CF ?_|apply Cz|refine C1 ?_)
      exact CJ [Gs DA (some ⟨Ec,0,none⟩) (some ⟨Pd,0,none⟩) cn 0 0 0,HF',HH',K'] (CD (Cx rfl)) ⟨DA,_,_,rfl,HF',HH',K',cs',rfl,l.trans lK',a1,a2,a3⟩
    | true=>
      obtain⟨b1,b2⟩:=Ly hS hq;have E6:left ED<left σ:=by
        obtain⟨_,a2,_⟩:=Ik (Th hS) hq;rcases a2 rfl with q|q
        · cases q
        · exact q
      repeat' (first|apply Cv|refine Ct 0 Cr Ap ?_|refine Ct 3 Cr AA ?_|(refine gk 4 rfl ?_;(refine CK rfl rfl rfl rfl rfl rfl rfl rfl (Kq) ?_;rintro _ _ ⟨HF',HH',K',cs',rfl,lK',rfl,a1,a2,a3⟩;refine⟨_,_,rfl,rfl,?_⟩))|refine Cu ?_|apply Cw|refine Cy ?_|refine CH ?_|refine CC ?_|apply CB|refine Ja ?_)
      exact⟨rfl,⟨ED,cs',HF',HH',K'⟩,CX (by repeat first|exact Sub.nil _|refine Sub.cons rfl ?_),⟨l.trans lK',a1,a2,a3,b1,b2.trans hn,hr.next hq⟩,E6⟩
end
end Go.Proofs.YtcnmnmjmpocepaaGreatDoor
end
section
namespace Go.Proofs.YtcnmnmjmpocepaaGreatDoor
open Go.SL
open Kd
def qg(p:Pz->Prop)(K0:CA)(e:Ending)(o:List CA):Prop:=
  ∃q HF HH cs,p q/\o= [q.B,HF,HH,K0]/\e= .returned (.pointer (some ⟨q.DA,0,none⟩))/\OS HF q.fb q.n q.n 59 2 cs/\OS HH q.hb q.n q.n 4 1 (DM (List.replicate q.n none))/\GL K0 (List.replicate q.n none) cs
theorem aE(K0:CA)(n:Nat):GL K0 (List.replicate n none) ((List.replicate n [Value.slice none 0 0,Value.slice none 0 0]).flatten):=⟨by simp,fun i g hg=>by
    have:=List.eq_of_mem_replicate (List.mem_of_getElem? hg);cases this⟩
theorem OS.aD{b n:Nat}{T:TypeId}{zs:List Value}(h:zs.length=2):OS (CV b (.cells ⟨(List.replicate n zs).flatten⟩ T (0,0))) (some ⟨b,0,none⟩) n n T 2 ((List.replicate n zs).flatten):=
  OS.CV (by simp [h])
theorem OS.b9(b n:Nat):OS (CV b (.cells ⟨List.replicate n (.bool false)⟩ 4 (0,0))) (some ⟨b,0,none⟩) n n 4 1 (DM (List.replicate n none)):=by
  have e:DM (List.replicate n none)=List.replicate n (.bool false):=by simp [DM]
  rw [e];exact OS.CV Am
attribute [local irreducible] SL.T Dw DG DE DI Et D0
section
variable (K0:CA) (im:Im) (Du mb:Option Addr) (Dr DP mn mc:Nat) (mi:Int)
theorem lE(h:¬(0≤mi/\mi<mn))(DO:mn≤4000000):
    SL.T Tryz.prog 32 [Gi Du Dr DP mb mn mc,i64 mi] [K0] (qg (fun q=>q.n=0/\q.mi=mi) K0):=by
  refine CM Tryz.func32 rfl (Nat.le_of_ble_eq_true rfl) fun F=> ?_
  by_cases h0:0≤mi
  · have h1:¬mi<mn:=by omega
    repeat' (first|apply Cv|refine Ct 0 Cr Aw ?_|refine CO 2 Cr Ar Ab ?_|refine CY 2 Cr Aj Ab ?_|refine Ct 3 Cr AE ?_|refine Ct 4 Cr Ae ?_|refine Ct 5 Cr Aq ?_|refine C2 (fun β=> ?_)|refine Cu ?_|apply Cw|refine Cy ?_|refine CF ?_|apply CB)
    obtain⟨DA,rfl⟩:∃x,x=β:=⟨_,rfl⟩;refine C0 [.q [0],.f [1],.q [2,3,4,5,6,7],.an 8,.q [9,10,11,12,13],.r [14],.an 15,.rv 8,.q [16,17],.h true 18,.rv 15,.q [19,20],.h true 21] [] Ac Ac Ac Ac ?_
    repeat' (first|apply Cv|refine Ct 0 Cr Ag ?_|refine Ct 3 Cr Af ?_|refine Ct 4 Cr Ae ?_|refine Ct 5 Cr Ak ?_|refine Cu ?_|refine C5 ?_|refine Dd rfl ?_|refine Fq rfl ?_|refine HW rfl ?_|refine Dn rfl rfl BH ?_|refine DN rfl rfl rfl (fun β=> ?_)|refine Df rfl rfl rfl rfl rfl rfl Aa rfl Aa Aa ?_|refine Dn rfl rfl (HM (m:=0) rfl rfl rfl Aa Aa Ab Ab Ab) ?_|apply Cw|refine Cy ?_|apply Cz)
    obtain⟨Pd,rfl⟩:∃x,x=β:=⟨_,rfl⟩;obtain⟨Ec,rfl⟩:∃x,x=β:=⟨_,rfl⟩;exact CJ [(Pz.mk DA none 0 0 0 0 none 0 Du Dr DP mb mn mc mi (some ⟨Ec,0,none⟩) (some ⟨Pd,0,none⟩) 0).B,CV Ec (.cells ⟨(List.replicate 0 [Value.slice none 0 0,Value.slice none 0 0]).flatten⟩ 59 (0,0)),CV Pd (.cells ⟨List.replicate 0 (.bool false)⟩ 4 (0,0)),K0] (CD (Cx rfl))
      ⟨Pz.mk DA none 0 0 0 0 none 0 Du Dr DP mb mn mc mi (some ⟨Ec,0,none⟩) (some ⟨Pd,0,none⟩) 0,_,_,_,⟨rfl,rfl⟩,rfl,rfl,OS.aD rfl,OS.b9 Pd 0,aE K0 0⟩
  · repeat' (first|apply Cv|refine Ct 0 Cr Az ?_|refine CG 0 Cs ?_|refine CG 2 Cs ?_|refine CY 2 Cr AB Ab ?_|refine Ct 3 Cr AW ?_|refine CG 3 Cs ?_|refine CG 4 Cs ?_|refine Ct 5 Cr Aq ?_|refine C2 (fun β=> ?_)|refine Cu ?_|apply Cw|refine Cy ?_|refine CF ?_|apply CB)
    obtain⟨DA,rfl⟩:∃x,x=β:=⟨_,rfl⟩;refine C0 [.q [0],.f [1],.q [2,3,4,5,6,7],.an 8,.q [9,10,11,12,13],.r [14],.an 15,.rv 8,.q [16,17],.h true 18,.rv 15,.q [19,20],.h true 21] [] Ac Ac Ac Ac ?_
    repeat' (first|apply Cv|refine Ct 0 Cr Ag ?_|refine Ct 3 Cr Af ?_|refine Ct 4 Cr Ae ?_|refine Ct 5 Cr Ak ?_|refine Cu ?_|refine C5 ?_|refine Dd rfl ?_|refine Fq rfl ?_|refine HW rfl ?_|refine Dn rfl rfl BH ?_|refine DN rfl rfl rfl (fun β=> ?_)|refine Df rfl rfl rfl rfl rfl rfl Aa rfl Aa Aa ?_|refine Dn rfl rfl (HM (m:=0) rfl rfl rfl Aa Aa Ab Ab Ab) ?_|apply Cw|refine Cy ?_|apply Cz)
    obtain⟨Pd,rfl⟩:∃x,x=β:=⟨_,rfl⟩;obtain⟨Ec,rfl⟩:∃x,x=β:=⟨_,rfl⟩;exact CJ [(Pz.mk DA none 0 0 0 0 none 0 Du Dr DP mb mn mc mi (some ⟨Ec,0,none⟩) (some ⟨Pd,0,none⟩) 0).B,CV Ec (.cells ⟨(List.replicate 0 [Value.slice none 0 0,Value.slice none 0 0]).flatten⟩ 59 (0,0)),CV Pd (.cells ⟨List.replicate 0 (.bool false)⟩ 4 (0,0)),K0] (CD (Cx rfl))
      ⟨Pz.mk DA none 0 0 0 0 none 0 Du Dr DP mb mn mc mi (some ⟨Ec,0,none⟩) (some ⟨Pd,0,none⟩) 0,_,_,_,⟨rfl,rfl⟩,rfl,rfl,OS.aD rfl,OS.b9 Pd 0,aE K0 0⟩
theorem bW(Gq:Hd K0 im.ms mb mn)(m:Me)(h:0≤mi/\mi<mn)(hm:im.ms[mi.toNat]?=some m):
    SL.T Tryz.prog 32 [Gi Du Dr DP mb mn mc,i64 mi] [K0] (qg (fun q=>q.n=m.code.length/\q.mi=mi/\q.Du=Du/\q.Dr=Dr/\q.DP=DP/\q.mb=mb/\q.mn=mn/\q.mc=mc/\q.lo=m.lo/\q.st=m.st/\Sl K0 q.cb (CZ m.code)/\Sl K0 q.pb (m.params.map i64)/\m.params.length=q.pn) K0):=by
  obtain⟨C9,z1,z2,z3,z4,z5⟩:=id Gq;obtain⟨pb,pn,pc,cb,cn,cc,g1,g2,g3,g4,g5,g6,g7,g8,g9,g10⟩:=z5 _ _ hm;have hkm:mi.toNat*4<C9.length:=by omega
  refine CM Tryz.func32 rfl (Nat.le_of_ble_eq_true rfl) fun F=> ?_
  repeat' (first|apply Cv|refine Ct 0 Cr Aw ?_|refine CO 2 Cr Ar Ab ?_|refine Ct 3 Cr BB ?_|refine Ct 4 Cr Ae ?_|refine Ct 5 Cr AX ?_|refine C2 (fun β=> ?_)|refine CN ?_|refine Cu ?_|apply Cw|refine Cy ?_|refine CH ?_)
  obtain⟨DA,rfl⟩:∃x,x=β:=⟨_,rfl⟩;obtain rfl:m.code.length=cn:=by omega
  refine C0 [.q [0],.f [1],.q [2,3,4,5,6,7],.an 8,.q [9,10,11,12,13],.r [14],.an 15,.rv 8,.q [16,17],.h true 18,.rv 15,.q [19,20],.h true 21] [] Ac Ac Ac Ac ?_
  repeat' (first|apply Cv|refine Ct 0 Cr Ag ?_|refine Ct 3 Cr Af ?_|refine Ct 4 Cr Ae ?_|refine Ct 5 Cr Ak ?_|refine Cu ?_|refine C5 ?_|refine Dd rfl ?_|refine Fq rfl ?_|refine HW rfl ?_|refine Dn rfl rfl BH ?_|refine DN rfl rfl rfl (fun β=> ?_)|refine Df rfl rfl rfl rfl rfl rfl Aa rfl Aa Aa ?_|refine Dn rfl rfl (HM rfl rfl rfl Aa Aa Ab Ab Ab) ?_|apply Cw|refine Cy ?_|apply Cz)
  obtain⟨Pd,rfl⟩:∃x,x=β:=⟨_,rfl⟩;obtain⟨Ec,rfl⟩:∃x,x=β:=⟨_,rfl⟩;exact CJ [(Pz.mk DA pb pn pc m.lo m.st cb cc Du Dr DP mb mn mc mi (some ⟨Ec,0,none⟩) (some ⟨Pd,0,none⟩) m.code.length).B,CV Ec (.cells ⟨(List.replicate m.code.length [Value.slice none 0 0,Value.slice none 0 0]).flatten⟩ 59 (0,0)),CV Pd (.cells ⟨List.replicate m.code.length (.bool false)⟩ 4 (0,0)),K0] (CD (Cx rfl))
    ⟨Pz.mk DA pb pn pc m.lo m.st cb cc Du Dr DP mb mn mc mi (some ⟨Ec,0,none⟩) (some ⟨Pd,0,none⟩) m.code.length,_,_,_,⟨rfl,rfl,rfl,rfl,rfl,rfl,rfl,rfl,rfl,rfl,g8,g5,g6⟩,rfl,rfl,OS.aD rfl,OS.b9 Pd _,aE K0 _⟩
end
section
variable (p:Pz) (K:CA) (code:List Ins)
theorem jq(sl:Sl K p.cb (CZ code))(hn:code.length=p.n)(DO:p.n≤1000000)(h:Nd.off (Hy code)<0):Dw Tryz.prog 33 [.pointer (some ⟨p.DA,0,none⟩)] [p.B,K] .nilIface:=by
  haveI slC:Sl K p.cb (Nd.CZ (Hy code)):=by rw [HQ];exact sl
  have ho:=Nd.Tb K (.slice p.pb p.pn p.pc) p.lo p.st p.cb p.n p.cc (Hy code) (by rw [Fh];exact hn) Ab;refine CL Tryz.func33 rfl (Nat.le_of_ble_eq_true rfl) fun F=> ?_
  repeat' (first|apply Cv|refine Ct 0 Cr Ag ?_|refine CY 2 Cr AB Ab ?_|refine Ct 3 Cr AW ?_|refine Ct 4 Cr (CE rfl rfl rfl rfl rfl (ho)) ?_|refine Ct 5 Cr Ak ?_|refine Cu ?_|apply Cw|refine Cy ?_|refine CF ?_|apply Cz|apply CB)
  exact CJ [p.B,K] (CD (Cx rfl)) ⟨rfl,rfl⟩
theorem fD(sl:Sl K p.cb (CZ code))(hn:code.length=p.n)(DO:p.n≤1000000)(h:0≤Nd.off (Hy code)):
    SL.T Tryz.prog 33 [.pointer (some ⟨p.DA,0,none⟩)] [p.B,K] fun e o=>∃Ec,e= .returned (LQ Ec)/\o= [p.B,K,EF Ec 8 p.mi (Nd.off (Hy code))]:=by
  haveI slC:Sl K p.cb (Nd.CZ (Hy code)):=by rw [HQ];exact sl
  have ho:=Nd.Tb K (.slice p.pb p.pn p.pc) p.lo p.st p.cb p.n p.cc (Hy code) (by rw [Fh];exact hn) Ab;have hfl:=Iv p.DA p.pb p.pn p.pc p.lo p.st p.cb p.n p.cc p.Du p.Dr p.DP p.mb p.mn p.mc p.mi p.fb p.hb p.n 8 (Nd.off (Hy code));refine CM Tryz.func33 rfl (Nat.le_of_ble_eq_true rfl) fun F=> ?_
  repeat' (first|apply Cv|refine Ct 0 Cr Ag ?_|refine CO 2 Cr AB Ab ?_|refine Ct 3 Cr AW ?_|refine Ct 4 Cr (CE rfl rfl rfl rfl rfl (ho)) ?_|(refine gk 4 rfl ?_;(refine CK rfl rfl rfl rfl rfl rfl rfl rfl (hfl) ?_;rintro _ _ ⟨Ec,rfl,rfl⟩;refine⟨_,_,rfl,rfl,?_⟩))|refine Ct 5 Cr Ak ?_|refine Cu ?_|apply Cw|refine Cy ?_|refine CH ?_|apply Cz|refine CQ ?_)
  exact CJ [p.B,K,EF Ec 8 p.mi (Nd.off (Hy code))] (CD (Cx rfl)) ⟨Ec,rfl,rfl⟩
theorem cq(sl:Sl K p.cb (CZ code))(hn:code.length=p.n)(DO:p.n≤1000000)(h:Nd.MW (Hy code)<0):Dw Tryz.prog 35 [.pointer (some ⟨p.DA,0,none⟩)] [p.B,K] .nilIface:=by
  haveI slC:Sl K p.cb (Nd.CZ (Hy code)):=by rw [HQ];exact sl
  have ho:=Nd.GM K (.slice p.pb p.pn p.pc) p.lo p.st p.cb p.n p.cc (Hy code) (by rw [Fh];exact hn) Ab;rw [if_neg Ab] at ho
  refine CL Tryz.func35 rfl (Nat.le_of_ble_eq_true rfl) fun F=> ?_
  repeat' (first|apply Cv|refine Ct 0 Cr AC ?_|refine CY 2 Cr Ax Ab ?_|refine Ct 3 Cr AW ?_|(refine gk 4 rfl ?_;(refine CK rfl rfl rfl rfl rfl rfl rfl rfl (ho) ?_;rintro _ _ ⟨N,rfl,rfl,rfl, -⟩;refine⟨_,_,rfl,rfl,?_⟩))|refine Ct 5 Cr Ak ?_|refine Cu ?_|apply Cw|refine Cy ?_|refine CF ?_|apply Cz|apply CB)
  exact CJ [p.B,K] (CD (Cx rfl)) ⟨rfl,rfl⟩
theorem ZC(sl:Sl K p.cb (CZ code))(hn:code.length=p.n)(DO:p.n≤1000000)(h:0≤Nd.MW (Hy code)):
    SL.T Tryz.prog 35 [.pointer (some ⟨p.DA,0,none⟩)] [p.B,K] fun e o=>∃Ec,e= .returned (LQ Ec)/\o= [p.B,K,EF Ec 10 p.mi (Nd.MW (Hy code))]:=by
  haveI slC:Sl K p.cb (Nd.CZ (Hy code)):=by rw [HQ];exact sl
  have ho:=Nd.GM K (.slice p.pb p.pn p.pc) p.lo p.st p.cb p.n p.cc (Hy code) (by rw [Fh];exact hn) Ab;rw [if_pos h] at ho
  have hfl:=Iv p.DA p.pb p.pn p.pc p.lo p.st p.cb p.n p.cc p.Du p.Dr p.DP p.mb p.mn p.mc p.mi p.fb p.hb p.n 10 (Nd.MW (Hy code));refine CM Tryz.func35 rfl (Nat.le_of_ble_eq_true rfl) fun F=> ?_
  repeat' (first|apply Cv|refine Ct 0 Cr AC ?_|refine CO 2 Cr Ax Ab ?_|refine Ct 3 Cr AW ?_|(refine gk 4 rfl ?_;(refine CK rfl rfl rfl rfl rfl rfl rfl rfl (ho) ?_;rintro _ _ ⟨N,rfl,rfl,rfl, -⟩;refine⟨_,_,rfl,rfl,?_⟩))|(refine gk 4 rfl ?_;(refine CK rfl rfl rfl rfl rfl rfl rfl rfl (hfl) ?_;rintro _ _ ⟨Ec,rfl,rfl⟩;refine⟨_,_,rfl,rfl,?_⟩))|refine Ct 5 Cr Ak ?_|refine Cu ?_|apply Cw|refine Cy ?_|refine CH ?_|apply Cz|refine CQ ?_)
  exact CJ [p.B,K,EF Ec 10 p.mi (Nd.MW (Hy code))] (CD (Cx rfl)) ⟨Ec,rfl,rfl⟩
end
end Go.Proofs.YtcnmnmjmpocepaaGreatDoor
end
section
namespace Go.Proofs.YtcnmnmjmpocepaaGreatDoor
open Go.SL
open Kd
noncomputable def He(im:Im)(mi:Int)(m:Me):Except Er Fs:=
  open Classical in if h:∃r,E8 im mi (Q7 m.code m.code.length) m.code.length (G2 m m.code.length) r then Classical.choose h else .ok []
theorem Fz(im:Im)(mi:Int)(m:Me)(h0:0<m.code.length):E8 im mi (Q7 m.code m.code.length) m.code.length (G2 m m.code.length) (He im mi m):=by
  have h:=Zk im mi (Q7 m.code m.code.length) m.code.length _ _ (Nat.le_refl _) (Th (I1 m h0));unfold He;rw [dif_pos h];exact Classical.choose_spec h
noncomputable def IG(im:Im)(mi:Int)(m:Me):Option Er:=
  if 0≤Nd.off (Hy m.code) then some (8,Nd.off (Hy m.code))
  else match He im mi m with
  | .error e=>some e
  | .ok _=>if 0≤Nd.MW (Hy m.code) then some (10,Nd.MW (Hy m.code)) else none
noncomputable def GG(im:Im)(i:Nat):Option Er:=match im.ms[i]? with|none=>none|some m=>IG im (i:Int) m
noncomputable def Ex(im:Im):Option (Int×Int×Int):=(List.range im.ms.length).findSome? fun i=>(GG im i).map fun e=>(e.1,(i:Int),e.2)
theorem H8{im:Im}{i:Nat}{c a:Int}(hi:i<im.ms.length)(h:∀j,j<i->GG im j=none)(he:GG im i=some (c,a)):Ex im=some (c,(i:Int),a):=by
  unfold Ex;obtain⟨l2,hl⟩:=range_split hi;rw [hl,List.findSome?_append];have e:(List.range i).findSome? (fun i=>(GG im i).map fun e=>(e.1,(i:Int),e.2))=none:=by
    rw [List.findSome?_eq_none_iff];intro j hj;rw [h j (List.mem_range.1 hj)];rfl
  rw [e,List.findSome?_cons,he];rfl
theorem Ow{im:Im}(h:∀j,j<im.ms.length->GG im j=none):Ex im=none:=by
  unfold Ex;rw [List.findSome?_eq_none_iff];intro j hj;rw [h j (List.mem_range.1 hj)];rfl
theorem Pm{cs:List Nd.Ins}(h:Nd.off cs<0):0<cs.length:=by
  cases cs with
  |nil=>exact absurd h Ah
  |cons a l=>simp
def mQ(n:Nat)(mi:Int)(K0:CA)(r:Except Er Fs)(e:Ending)(o:List CA):Prop:=
  match r with
  | .error (c,a)=>∃K Ec,o= [K,EF Ec c mi a]/\hle K0 K/\e= .returned (.tuple #[.slice none 0 0,.slice none 0 0,LQ Ec])
  | .ok σ=>∃fb hb HF HH K cs,o= [HF,HH,K]/\hle K0 K/\e= .returned (.tuple #[.slice fb n n,.slice hb n n,.nilIface])/\OS HF fb n n 59 2 cs/\OS HH hb n n 4 1 (DM σ)/\GL K σ cs
def oW(K0:CA)(r:Option (Int×Int×Int))(e:Ending)(o:List CA):Prop:=
  match r with
  |none=>∃K,o= [K]/\hle K0 K/\e= .returned .nilIface
  |some (c,m,a)=>∃K Ec,o= [K,EF Ec c m a]/\hle K0 K/\e= .returned (LQ Ec)
section
variable (K0:CA) (im:Im) (Du mb:Option Addr) (Dr DP mn mc:Nat) (mi:Int)
theorem ij(Gq:Hd K0 im.ms mb mn)(m:Me)(h:0≤mi/\mi<mn)(hm:im.ms[mi.toNat]?=some m):
    SL.T Tryz.prog 32 [Gi Du Dr DP mb mn mc,i64 mi] [K0] fun e o=>∃p:Pz,p.n=m.code.length/\p.mi=mi/\p.Du=Du/\p.Dr=Dr/\p.DP=DP/\p.mb=mb/\p.mn=mn/\p.mc=mc/\Sl K0 p.cb (CZ m.code)/\
      ∃HF HH cs,o= [p.B,HF,HH,K0]/\e= .returned (.pointer (some ⟨p.DA,0,none⟩))/\OS HF p.fb p.n p.n 59 2 cs/\OS HH p.hb p.n p.n 4 1 (DM (List.replicate p.n none))/\GL K0 (List.replicate p.n none) cs:=by
  refine(bW K0 im Du mb Dr DP mn mc mi Gq m h hm).mono ?_;rintro e o ⟨p,HF,HH,cs,⟨h1,h2,h3,h4,h5,h6,h7,h8,h9,h10,h11,h12,h13⟩,h14,h15,h16,h17,h18⟩;exact⟨p,h1,h2,h3,h4,h5,h6,h7,h8,h11,HF,HH,cs,h14,h15,h16,h17,h18⟩
end
attribute [local irreducible] SL.T Dw DG DE DI Et D0
section
variable (K0:CA) (im:Im) (Du mb:Option Addr) (Dr DP mn mc:Nat) (mi:Int)
theorem Td(h:¬(0≤mi/\mi<mn))(DO:mn≤4000000):
    SL.T Tryz.prog 15 [Gi Du Dr DP mb mn mc,i64 mi] [K0] (mQ 0 mi K0 (.error (8,0))):=by
  have ho:=lE K0 Du mb Dr DP mn mc mi h DO;refine CM Tryz.func15 rfl (Nat.le_of_ble_eq_true rfl) fun F=> ?_
  repeat' (first|apply Cv|refine Ct 0 Cr Ag ?_|refine CO 2 Cr Al Ab ?_|refine Ct 3 Cr AE ?_|refine Ct 4 Cr Ae ?_|(refine gk 4 rfl ?_;(refine CK rfl rfl rfl rfl rfl rfl rfl rfl (ho) ?_;rintro _ _ ⟨p,HF,HH,cs,⟨ep,hmi⟩,rfl,rfl,HU,HT,hF⟩;refine⟨_,_,rfl,rfl,?_⟩))|refine Ct 5 Cr Ak ?_|refine C2 (fun β=> ?_)|refine Cu ?_|apply Cw|refine Cy ?_|refine CH ?_)
  have hfl:=Iv p.DA p.pb p.pn p.pc p.lo p.st p.cb p.n p.cc p.Du p.Dr p.DP p.mb p.mn p.mc p.mi p.fb p.hb p.n 8 0
  repeat' (first|refine Ct 0 Cr Au ?_|(refine gk 4 rfl ?_;(refine CK rfl rfl rfl rfl rfl rfl rfl rfl (hfl) ?_;rintro _ _ ⟨Ec,rfl,rfl⟩;refine⟨_,_,rfl,rfl,?_⟩))|apply Cw|refine Cy ?_|apply Cz|refine CQ ?_)
  exact CJ [K0,EF Ec 8 p.mi 0] (KY (Cx rfl) (Cx rfl) (Cx rfl)) ⟨K0,Ec,by rw [hmi],hle.refl _,rfl⟩
theorem NL(EP:FY K0 im.cls Du Dr)(Gq:Hd K0 im.ms mb mn)(m:Me)(h:0≤mi/\mi<mn)(hm:im.ms[mi.toNat]?=some m)(h0:0<m.code.length)(DO:m.code.length≤1000000):
    SL.T Tryz.prog 15 [Gi Du Dr DP mb mn mc,i64 mi] [K0] (mQ m.code.length mi K0 (He im mi m)):=by
  have ho:=ij K0 im Du mb Dr DP mn mc mi Gq m h hm;have hr:=Fz im mi m h0;refine CM Tryz.func15 rfl (Nat.le_of_ble_eq_true rfl) fun F=> ?_
  repeat' (first|apply Cv|refine Ct 0 Cr Ag ?_|refine CY 2 Cr Al Ab ?_|refine Ct 3 Cr AE ?_|refine Ct 4 Cr Ae ?_|(refine gk 4 rfl ?_;(refine CK rfl rfl rfl rfl rfl rfl rfl rfl (ho) ?_;rintro _ _ ⟨p,e1,e2,e3,e4,e5,e6,e7,e8,sC,HF,HH,cs,rfl,rfl,HU,HT,hF⟩;refine⟨_,_,rfl,rfl,?_⟩))|refine Ct 5 Cr Ak ?_|refine C2 (fun β=> ?_)|refine Cu ?_|apply Cw|refine Cy ?_|refine CF ?_|apply CB)
  have Kq:=M8 p im m K0 HF HH cs (by rw [e3,e4];exact EP) (by rw [e6,e7];exact Gq) sC (by rw [e2,e7];exact h) (by rw [e2];exact hm) e1.symm (by rw [e1];exact h0) (by rw [e1];exact DO) HU HT hF (r:=He im mi m) (by rw [e1,e2];exact hr);rw [<-e1]
  generalize He im mi m=r at Kq ⊢
  cases r with
  | error e=>
    obtain⟨c,a⟩:=e
    repeat' (first|refine CW rfl rfl rfl (E4 rfl rfl) ?_|apply Cv|refine Ct 0 Cr Ag ?_|(refine gk 4 rfl ?_;(refine CK rfl rfl rfl rfl rfl rfl rfl rfl (Kq) ?_;rintro _ _ ⟨HF',HH',K',Ec,rfl,rfl,lK⟩;refine⟨_,_,rfl,rfl,?_⟩))|refine Cu ?_|apply Cw|refine Cy ?_|refine CH ?_|apply Cz|refine CQ ?_)
    exact CJ [K',EF Ec c p.mi a] (KY (Cx rfl) (Cx rfl) (Cx rfl)) ⟨K',Ec,by rw [e2],lK,rfl⟩
  | ok σ=>
    repeat' (first|refine CW rfl rfl rfl (EV rfl rfl) ?_|apply Cv|refine Ct 0 Cr Ag ?_|(refine gk 4 rfl ?_;(refine CK rfl rfl rfl rfl rfl rfl rfl rfl (Kq) ?_;rintro _ _ ⟨HF',HH',K',cs',rfl,rfl,hf⟩;refine⟨_,_,rfl,rfl,?_⟩))|refine Cu ?_|apply Cw|refine Cy ?_|refine CF ?_|apply CB)
    refine De Ac Ac rfl ?_
    repeat' (first|refine Ct 0 Cr Ag ?_|refine Ct 3 Cr Af ?_|refine Ct 5 Cr Ak ?_|apply Cw|refine Cy ?_|apply Cz)
    exact CJ [HF',HH',K'] (KY (Cx rfl) (Cx rfl) (Cx rfl)) ⟨p.fb,p.hb,HF',HH',K',cs',rfl,hf.le,rfl,hf.HU,hf.HT,hf.fr⟩
theorem GM(EP:FY K0 im.cls Du Dr)(Gq:Hd K0 im.ms mb mn)(DO:∀m∈im.ms,m.code.length≤1000000):
    SL.T Tryz.prog 12 [Gi Du Dr DP mb mn mc] [K0] (oW K0 (Ex im)):=by
  obtain⟨C9,z1,z2,z3,z4,z5⟩:=id Gq;refine CM Tryz.func12 rfl (Nat.le_of_ble_eq_true rfl) fun F=> ?_
  repeat' (first|apply Cv|refine Ct 0 Cr Ag ?_|refine Ct 3 Cr Af ?_|refine Ct 4 Cr Ae ?_|refine C2 (fun β=> ?_)|refine Cu ?_|apply Cw|refine Cy ?_|refine CC ?_)
  obtain⟨eF,rfl⟩:∃x,x=β:=⟨_,rfl⟩;refine C4 (fun s:Nat×CA=> [(1,.pointer (some ⟨eF,0,none⟩)),(2,.nilIface),(10,i64 (mn:Int)),(11,i64 (s.1:Int))]) (fun s=> [s.2,CV eF (.cells ⟨[.slice Du Dr DP,.slice mb mn mc]⟩ 32 (0,0))])
    (fun s=>s.1≤mn/\hle K0 s.2/\∀j,j<s.1->GG im j=none) (fun s=>mn - s.1) (0,K0) (by repeat first|exact Sub.nil _|refine Sub.cons rfl ?_) ⟨Nat.zero_le _,hle.refl _,fun j hj=>absurd hj (Nat.not_lt_zero _)⟩ ?_
  rintro⟨i,K⟩ ⟨hi,lK,hbef⟩;dsimp only at hi lK hbef ⊢
  by_cases ES:i<mn
  · obtain⟨m,hm⟩:∃z,im.ms[i]?=some z:=⟨_,List.getElem?_eq_getElem Ab⟩;have FD:GG im i=IG im (i:Int) m:=by simp only [GG,hm]
    have hsmm:=DO m (List.mem_of_getElem? hm);have ho:=ij K im Du mb Dr DP mn mc (i:Int) (Gq.mono lK) m Ab (by simpa using hm)
    repeat' (first|apply Cv|refine Ct 0 Cr Be ?_|refine CO 2 Cr Aj Ab ?_|refine Ct 3 Cr AA ?_|(refine gk 4 rfl ?_;(refine CK rfl rfl rfl rfl rfl rfl rfl rfl (ho) ?_;rintro _ _ ⟨p,e1,e2,e3,e4,e5,e6,e7,e8,sC,HF,HH,cs,rfl,rfl,HU,HT,hF⟩;refine⟨_,_,rfl,rfl,?_⟩))|refine Ct 5 Cr Aq ?_|refine Cu ?_|apply Cw|refine Cy ?_|refine CH ?_|refine CC ?_|apply CB)
    by_cases hoff:0≤Nd.off (Hy m.code)
    · have hO:=fD p K m.code sC e1.symm (by rw [e1];exact hsmm) hoff;have e:Ex im=some (8,(i:Int),Nd.off (Hy m.code)):=H8 Ab hbef (by rw [FD];unfold IG;rw [if_pos hoff]);rw [e];refine HY 4 (Lw ?_)
      repeat' (first|refine CW rfl rfl rfl (E4 rfl rfl) ?_|refine CW rfl rfl rfl (JY rfl rfl rfl Ah Ah rfl) ?_|apply Cv|refine Ct 0 Cr Ag ?_|refine CO 2 Cr Aj Ab ?_|(refine gk 4 rfl ?_;(refine CK rfl rfl rfl rfl rfl rfl rfl rfl (hO) ?_;rintro _ _ ⟨Ec,rfl,rfl⟩;refine⟨_,_,rfl,rfl,?_⟩))|refine Cu ?_|apply Cw|refine Cy ?_|refine CH ?_|refine CC ?_|apply Cz|apply CB|refine CQ ?_|refine C3 ?_)
      exact CJ [K,EF Ec 8 p.mi (Nd.off (Hy m.code))] (CD (Cx rfl)) ⟨K,Ec,by rw [e2],lK,rfl⟩
    · have hO:=jq p K m.code sC e1.symm (by rw [e1];exact hsmm) Ab;have h0:0<m.code.length:=by have:=Pm (cs:=Hy m.code) Ab;rwa [Fh] at this
      have Kq:=M8 p im m K HF HH cs (by rw [e3,e4];exact EP.mono lK) (by rw [e6,e7];exact Gq.mono lK) sC (by rw [e2,e7];omega) (by rw [e2];simpa using hm) e1.symm (by rw [e1];exact h0) (by rw [e1];exact hsmm) HU HT hF (r:=He im (i:Int) m) (by rw [e1,e2];exact Fz im (i:Int) m h0);cases hV:He im (i:Int) m with
      | error e=>
        obtain⟨c,a⟩:=e;rw [hV] at Kq
        have e:Ex im=some (c,(i:Int),a):=H8 Ab hbef (by rw [FD];unfold IG;rw [if_neg hoff,hV]);rw [e];refine HY 4 (Lw ?_)
        repeat' (first|refine CW rfl rfl rfl (E4 rfl rfl) ?_|refine CW rfl rfl rfl (EV rfl rfl) ?_|refine CW rfl rfl rfl (JY rfl rfl rfl Ah Ah rfl) ?_|apply Cv|refine Ct 0 Cr Ag ?_|refine Ct 1 Cr Ao ?_|refine CO 2 Cr Aj Ab ?_|refine Ct 4 Cr (CE rfl rfl rfl rfl rfl (hO)) ?_|(refine gk 4 rfl ?_;(refine CK rfl rfl rfl rfl rfl rfl rfl rfl (Kq) ?_;rintro _ _ ⟨HF',HH',K',Ec,rfl,rfl,lK'⟩;refine⟨_,_,rfl,rfl,?_⟩))|refine Cu ?_|apply Cw|refine Cy ?_|refine CH ?_|refine CF ?_|refine CC ?_|apply Cz|apply CB|refine CQ ?_|refine C3 ?_)
        exact CJ [K',EF Ec c p.mi a] (CD (Cx rfl)) ⟨K',Ec,by rw [e2],lK.trans lK',rfl⟩
      | ok σ=>
        rw [hV] at Kq
        refine HY 4 (Lw ?_)
        repeat' (first|refine CW rfl rfl rfl (EV rfl rfl) ?_|refine CW rfl rfl rfl (JY rfl rfl rfl Ah Ah rfl) ?_|apply Cv|refine Ct 0 Cr Ag ?_|refine Ct 1 Cr Ao ?_|refine CO 2 Cr Aj Ab ?_|refine Ct 4 Cr (CE rfl rfl rfl rfl rfl (hO)) ?_|(refine gk 4 rfl ?_;(refine CK rfl rfl rfl rfl rfl rfl rfl rfl (Kq) ?_;rintro _ _ ⟨HF',HH',K',cs',rfl,rfl,hf⟩;refine⟨_,_,rfl,rfl,?_⟩))|refine Cu ?_|apply Cw|refine Cy ?_|refine CH ?_|refine CF ?_|refine CC ?_|apply CB)
        by_cases hwr:0≤Nd.MW (Hy m.code)
        · have hL:=ZC p K' m.code (sC.mono hf.le) e1.symm (by rw [e1];exact hsmm) hwr;have e:Ex im=some (10,(i:Int),Nd.MW (Hy m.code)):=H8 Ab hbef (by rw [FD];unfold IG;rw [if_neg hoff,hV];exact if_pos hwr);rw [e]
          repeat' (first|refine CW rfl rfl rfl (E4 rfl rfl) ?_|apply Cv|refine Ct 0 Cr Ag ?_|(refine gk 4 rfl ?_;(refine CK rfl rfl rfl rfl rfl rfl rfl rfl (hL) ?_;rintro _ _ ⟨Ec,rfl,rfl⟩;refine⟨_,_,rfl,rfl,?_⟩))|refine Cu ?_|apply Cw|refine Cy ?_|refine CH ?_|apply Cz|refine CQ ?_|refine C3 ?_)
          exact CJ [K',EF Ec 10 p.mi (Nd.MW (Hy m.code))] (CD (Cx rfl)) ⟨K',Ec,by rw [e2],lK.trans hf.le,rfl⟩
        · have hL:=cq p K' m.code (sC.mono hf.le) e1.symm (by rw [e1];exact hsmm) Ab;have e:GG im i=none:=by rw [FD];unfold IG;rw [if_neg hoff,hV];exact if_neg hwr
          repeat' (first|refine CW rfl rfl rfl (EV rfl rfl) ?_|apply Cv|refine Ct 0 Cr Ag ?_|refine Ct 1 Cr Ao ?_|refine CY 2 Cr Aj Ab ?_|refine Ct 4 Cr (CE rfl rfl rfl rfl rfl (hL)) ?_|refine Cu ?_|apply Cw|refine Cy ?_|refine CF ?_|refine C1 ?_|apply CB)
          refine⟨rfl,(i+1,K'),CX (by repeat first|exact Sub.nil _|refine Sub.cons rfl ?_),⟨ES,lK.trans hf.le,fun j hj=> ?_⟩,by dsimp only;omega⟩;by_cases ej:j=i
          · rw [ej];exact e
          · exact hbef j (by dsimp only at hj;omega)
  · obtain rfl:i=mn:=by omega
    have e:Ex im=none:=Ow (by rw [z3];exact hbef);rw [e]
    repeat' (first|apply Cv|refine Ct 0 Cr Au ?_|refine CY 2 Cr Aj Ab ?_|refine Cu ?_|apply Cw|refine Cy ?_|refine CF ?_|apply Cz|refine C1 ?_)
    exact CJ [K] (CD (Cx rfl)) ⟨K,rfl,lK,rfl⟩
end
end Go.Proofs.YtcnmnmjmpocepaaGreatDoor
end
