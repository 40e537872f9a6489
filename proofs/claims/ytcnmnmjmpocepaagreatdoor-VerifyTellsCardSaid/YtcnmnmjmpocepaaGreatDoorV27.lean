
import Derived.Test.YtcnmnmjmpocepaaGreatDoorV00
import Derived.Test.YtcnmnmjmpocepaaGreatDoorV09
import Derived.Test.YtcnmnmjmpocepaaGreatDoorV49
import Derived.Test.YtcnmnmjmpocepaaGreatDoorV23
import Derived.Test.YtcnmnmjmpocepaaGreatDoorV20
set_option linter.unusedVariables false
set_option linter.unusedSimpArgs false
set_option linter.unusedSectionVars false
set_option maxRecDepth 100000
set_option maxHeartbeats 16000000
section
namespace Go.Proofs.YtcnmnmjmpocepaaGreatDoor
def Hy(l:List Kd.Ins):List Nd.Ins:=l.map fun x=>(x.op,x.a,x.b)
theorem Fh(l:List Kd.Ins):(Hy l).length=l.length:=by simp [Hy]
theorem HQ:∀(l:List Kd.Ins),Nd.CZ (Hy l)=Kd.CZ l
  | []=>rfl
  | x::l=>by
    have:=HQ l;simp [Hy,Nd.CZ,Kd.CZ] at this ⊢
    exact this
def Q7(l:List Kd.Ins)(n:Nat)(at_:Nat):List Nat:=(Nd.Gp (Hy l) (at_:Int)).filterMap fun t:Int=>if 0≤t/\t<n then some t.toNat else none
theorem Lj{n:Nat}{l:List Int}{i:Nat}{t:Int}(h:l[i]?=some t):
    (l.take (i+1)).filterMap (fun t:Int=>if 0≤t/\t<n then some t.toNat else none)=(l.take i).filterMap (fun t:Int=>if 0≤t/\t<n then some t.toNat else none)++(if 0≤t/\t<n then [t.toNat] else []):=by
  rw [List.take_add_one,h,List.filterMap_append]
  congr 1
  by_cases q:0≤t/\t<n
  · simp [q]
  · simp [q]
theorem NX{im:Kd.Im}{mi at_:Int}{loc Dl:List Int}{c:Int}(h:Kd.E9 im mi at_ loc Dl= .inl c):c=8∨c=9:=by
  unfold Kd.E9 at h
  repeat' split at h
  all_goals first|(cases h;exact .inl rfl)|(cases h;exact .inr rfl)|cases h
theorem I4{im:Kd.Im}{mi:Int}{nx:Nat->List Nat}{a:Nat}{e:Er}:∀ {l l2:List Nat} {σ ED:Fs} {b b':Bool},Ez im mi nx σ l b= .ok (ED,b')->FN im mi nx ED a b'= .error e->Ez im mi nx σ (l++a::l2) b= .error e
  | [],l2,σ,ED,b,b',h,hp=>by
    cases h
    simp only [List.nil_append,Ez,hp]
  | x ::l,l2,σ,ED,b,b',h,hp=>by
    simp only [List.cons_append,Ez] at h ⊢
    split at h
    · cases h
    · rename_i σ1 b1 e1
      exact I4 h hp
theorem range_split{i n:Nat}(h:i<n):∃l2,List.range n=List.range i++i::l2:=by
  obtain⟨k,rfl⟩:∃k,n=i+(k+1):=⟨n - i - 1,by omega⟩;exact⟨((List.range k).map Nat.succ).map (i+ ·),by rw [List.range_add,List.range_succ_eq_map];rfl⟩
theorem SS{σ:Fs}{t:Nat}{f:Fm}{c a:Int}(h:FZ σ t f= .error (c,a)):c=9/\a=t:=by
  unfold FZ at h
  repeat' split at h
  all_goals first|(cases h;done)|(cases h;exact⟨rfl,rfl⟩)
theorem Oj{f:Fm}{t:Nat}{l2:List Nat}{e:Er}:∀ {ts:List Nat} {σ ED:Fs} {b b':Bool},Hb σ f ts b= .ok (ED,b')->FZ ED t f= .error e->Hb σ f (ts++t::l2) b= .error e
  | [],σ,ED,b,b',h,he=>by
    cases h
    simp only [List.nil_append,Hb,he]
  | x ::ts,σ,ED,b,b',h,he=>by
    simp only [List.cons_append,Hb] at h ⊢
    split at h
    · cases h
    · rename_i σ1 c1 e1
      exact Oj h he
theorem UA{l:List Int}{j:Nat}{t:Int}(h:l[j]?=some t):l=l.take j++t::l.drop (j+1):=by
  obtain⟨h1,h2⟩:=List.getElem?_eq_some_iff.1 h;rw [<-h2,List.getElem_cons_drop,List.take_append_drop]
end Go.Proofs.YtcnmnmjmpocepaaGreatDoor
end
section
namespace Go.Proofs.YtcnmnmjmpocepaaGreatDoor
theorem UF{σ:Fs}(h:Hw σ)(hn:σ.length≤1000000):Small σ:=fun g hg=>by
  have:=h g hg;have:=MI σ;omega
end Go.Proofs.YtcnmnmjmpocepaaGreatDoor
end
section
namespace Go.Proofs.YtcnmnmjmpocepaaGreatDoor
open Go.SL
open Kd
def kx(DA:Nat)(fb hb:Option Addr)(n:Nat)(wm wa mi:Int)(K:CA)(r:Except Er (Fs×Bool))(e:Ending)(o:List CA):Prop:=
  match r with
  | .error (c,a)=>∃HF HH K',o= [Gs DA fb hb n c mi a,HF,HH,K']/\hle K K'/\e= .returned (.bool false)
  | .ok (ED,b)=>∃HF HH K' cs,o= [Gs DA fb hb n 0 wm wa,HF,HH,K']/\hle K K'/\e= .returned (.bool b)/\OS HF fb n n 60 2 cs/\OS HH hb n n 4 1 (DM ED)/\GL K' ED cs
structure SR where
  i:Nat
  σ:Fs
  b:Bool
  cs:List Value
  HF:CA
  HH:CA
  K:CA
attribute [local irreducible] SL.T Dw DG DE DI Et D0
theorem UO (K0 kD iW:CA)(DA:Nat)(wm wa:Int)(im:Im)(Du mb fb hb:Option Addr)(Dr DP mn mc n:Nat)(mi:Int)(Rf:Fs)(Z0:List Value)(m:Me)
    (EP:FY K0 im.cls Du Dr) (Gq:Hd K0 im.ms mb mn) (h:0≤mi/\mi<mn) (hm:im.ms[mi.toNat]?=some m) (iH:m.code.length=n)
    (hn:Rf.length=n) (HU:OS kD fb n n 60 2 Z0) (HT:OS iW hb n n 4 1 (DM Rf)) (hF:GL K0 Rf Z0) (hS:Hw Rf) (DO:n≤1000000):
    SL.T Tryz.prog 42 [.pointer (some ⟨DA,0,none⟩),Gi Du Dr DP mb mn mc,i64 mi] [Gs DA fb hb n 0 wm wa,kD,iW,K0] (kx DA fb hb n wm wa mi K0 (Ez im mi (Q7 m.code n) Rf (List.range n) false)):=by
  refine CM Tryz.func42 rfl (Nat.le_of_ble_eq_true rfl) fun F=> ?_
  repeat' (first|apply Cv|refine Ct 0 Cr Au ?_|refine C2 (fun β=> ?_)|refine Cu ?_|apply Cw|refine Cy ?_|refine CC ?_)
  obtain⟨EO,rfl⟩:∃x,x=β:=⟨_,rfl⟩;refine C4 (fun s:SR=> [(0,.pointer (some ⟨DA,0,none⟩)),(2,i64 mi),(4,.pointer (some ⟨EO,0,none⟩)),(6,.bool false),(7,.bool s.b),(8,i64 (s.i:Int))])
    (fun s=> [Gs DA fb hb n 0 wm wa,s.HF,s.HH,s.K,CV EO (.cells ⟨[.slice Du Dr DP,.slice mb mn mc]⟩ 32 (0,0))])
    (fun s=>s.i≤n/\Ez im mi (Q7 m.code n) Rf (List.range s.i) false= .ok (s.σ,s.b)/\hle K0 s.K/\OS s.HF fb n n 60 2 s.cs/\OS s.HH hb n n 4 1 (DM s.σ)/\GL s.K s.σ s.cs/\Hw s.σ/\s.σ.length=n) (fun s=>n - s.i) ⟨0,Rf,false,Z0,kD,iW,K0⟩ (by repeat first|exact Sub.nil _|refine Sub.cons rfl ?_) ⟨Nat.zero_le _,rfl,hle.refl _,HU,HT,hF,hS,hn⟩ ?_
  rintro⟨i,σ,b,cs,HF,HH,K⟩ ⟨hi,hR,lK,HU,HT,hF,hS,hn⟩;dsimp only at hi hR lK HU HT hF hS hn ⊢
  by_cases hj:i<n
  · obtain ⟨o,hs⟩:∃o,σ[i]?=some o:=⟨_,List.getElem?_eq_getElem Ab⟩;haveI WR:=HT.sl;haveI Yb:=HU.sl;have Jt:=hF.1;have hhl:(DM σ).length=n:=by simp [DM,hn]
    have hkf:((i:Nat):Int).toNat*2<cs.length:=by simp;omega
    have hkh:((i:Nat):Int).toNat*1<(DM σ).length:=by simp;omega
    cases o with
    | none=>
      have XE:(DM σ)[((i:Nat):Int).toNat*1]?=some (.bool false):=by simpa using F8 hs
      repeat' (first|apply Cv|refine Ct 0 Cr A3 ?_|refine Ct 1 Cr Ao ?_|refine CO 2 Cr Aj Ab ?_|refine Ct 3 Cr AG ?_|refine Ct 4 Cr Ae ?_|refine Ct 5 Cr Ak ?_|refine Cu ?_|apply Cw|refine Cy ?_|refine CH ?_|refine CC ?_|refine C1 ?_|apply CB)
      exact⟨rfl,⟨i+1,σ,b,cs,HF,HH,K⟩,CX (by repeat first|exact Sub.nil _|refine Sub.cons rfl ?_),⟨hj,by rw [List.range_succ,Ij,hR];simp only [FN,hs],lK,HU,HT,hF,hS,hn⟩,by dsimp only;omega⟩
    | some g=>
      have XE:(DM σ)[((i:Nat):Int).toNat*1]?=some (.bool true):=by simpa using F8 hs
      obtain⟨d1,e1,d2,e2,q1,q2,q3,q4,q5⟩:=hF.2 i g hs;have L9:cs[((i:Nat):Int).toNat*2]?=some (.slice d1 g.1.length e1):=q1;have L8:cs[((i:Nat):Int).toNat*2+1]?=some (.slice d2 g.2.length e2):=q2;have hg:=hS g (List.mem_of_getElem? hs);have hct:=MI σ;have Gy:=UR K im Du mb d1 d2 Dr DP mn mc g.1.length e1 g.2.length e2 mi (i:Int) g.1 g.2 (EP.mono lK) (Gq.mono lK) q3 q4 rfl rfl Ab Ab q5;cases hsf:E9 im mi (i:Int) g.1 g.2 with
      | inl c=>
        rw [hsf] at Gy
        have hnz:c≠0:=by rcases NX hsf with q|q <;>omega
        have OR:FN im mi (Q7 m.code n) σ i b= .error (c,(i:Int)):=by simp only [FN,hs,hsf]
        repeat' (first|apply Cv|refine Ct 0 Cr Br ?_|refine CO 2 Cr Aj Ab ?_|refine Ct 3 Cr AG ?_|refine Ct 4 Cr Ae ?_|refine Ct 5 Cr Ak ?_|refine Cu ?_|apply Cw|refine Cy ?_|refine CH ?_|refine CF ?_|refine CC ?_|apply CB)
        refine C0 [.q [0,1,2,3,4,5,6,7,8,9],.an 14,.h true 10,.q [11,12],.f [13],.rv 14,.h true 15,.q [16]] [Gs DA fb hb n 0 wm wa,HF,HH] Ac Ac Ac Ac ?_
        repeat' (first|apply Cv|refine Ct 0 Cr AC ?_|refine CO 2 Cr Ax Ab ?_|refine Ct 3 Cr A6 ?_|refine Ct 5 Cr AX ?_|refine CN ?_|refine Cu ?_|refine C5 ?_|refine Dd rfl ?_|refine Fq rfl ?_|refine Dn rfl rfl AR ?_|refine DN rfl rfl rfl (fun β=> ?_)|refine Df rfl rfl rfl rfl rfl rfl Aa rfl Aa Aa ?_|(refine EL rfl rfl rfl rfl rfl rfl rfl rfl (Gy) ?_;rintro _ _ ⟨K',rfl,lK',rfl⟩;refine⟨_,_,rfl,rfl,?_⟩)|apply Cw|refine Cy ?_|refine CH ?_|apply Cz|refine CQ ?_|refine C3 ?_)
        obtain⟨l2,LK⟩:=range_split hj;rw [LK,I4 hR OR];exact CJ [Gs DA fb hb n c mi i,HF,HH,K'] (CD (Cx rfl)) ⟨HF,HH,K',rfl,lK.trans lK',rfl⟩
      | inr f =>
        rw [hsf] at Gy
        obtain⟨C9,z1,z2,z3,z4,z5⟩:=id Gq;obtain⟨pb,pn,pc,cb,cn,cc,g1,g2,g3,g4,g5,g6,g7,g8,g9,g10⟩:=z5 _ _ hm;have hkm:mi.toNat*4<C9.length:=by omega
        repeat' (first|apply Cv|refine Ct 0 Cr Br ?_|refine CO 2 Cr Aj Ab ?_|refine Ct 3 Cr AG ?_|refine Ct 4 Cr Ae ?_|refine Ct 5 Cr Ak ?_|refine Cu ?_|apply Cw|refine Cy ?_|refine CH ?_|refine CF ?_|refine CC ?_|apply CB)
        refine C0 [.q [0,1,2,3,4,5,6,7,8,9],.an 14,.h true 10,.q [11,12],.f [13],.rv 14,.h true 15,.q [16]] [Gs DA fb hb n 0 wm wa,HF,HH] Ac Ac Ac Ac ?_
        repeat' ((fail_if_success (refine Ep 10 ?_));(first|apply Cv|refine Ct 0 Cr AC ?_|refine CY 2 Cr Ax Ab ?_|refine Ct 3 Cr A6 ?_|refine Ct 5 Cr Ak ?_|refine Cu ?_|refine C5 ?_|refine Dd rfl ?_|refine Fq rfl ?_|refine Dn rfl rfl AR ?_|refine DN rfl rfl rfl (fun β=> ?_)|refine Df rfl rfl rfl rfl rfl rfl Aa rfl Aa Aa ?_|(refine EL rfl rfl rfl rfl rfl rfl rfl rfl (Gy) ?_;rintro _ _ ⟨K',rfl,lK',f1,v1,f2,v2,rfl,r1,r2,r3⟩;refine⟨_,_,rfl,rfl,?_⟩)|apply Cw|refine Cy ?_|refine CF ?_|apply CB))
        haveI slM:=z1.mono (lK.trans lK');haveI slC:Sl K' cb (Nd.CZ (Hy m.code)):=by rw [HQ];exact g8.mono (lK.trans lK')
        repeat' (first|apply Cv|refine Ct 0 Cr Ag ?_|refine Ct 3 Cr AZ ?_|(refine gk 4 rfl ?_;(refine Gg rfl rfl rfl rfl rfl rfl rfl rfl (Nd.Tx _ (.slice pb pn pc) m.lo m.st cb cn cc (Hy m.code) (i:Int) (by rw [Fh];exact g9) Ab) ?_;rintro _ _ ⟨hN,bN,cN,rfl,rfl,osN⟩;refine⟨_,_,rfl,rfl,?_⟩))|refine Cu ?_|apply Cw|refine Cy ?_|refine CC ?_)
        obtain⟨dY,rfl⟩:∃x,x=β:=⟨_,rfl⟩;have hfl:=JT hsf;have hfs:=Lv hsf
        generalize hL:Nd.Gp (Hy m.code) (i:Int)=L at osN ⊢
        haveI slN:=osN.sl;have nq:=osN.hle;have hlL:(L.map i64).length=L.length:=by simp
        have hLs:=osN.len;have hL2:L.length≤2:=by rw [<-hL];exact Nd.H6 _ _
        refine C4 (fun s:SR=> [(0,.pointer (some ⟨DA,0,none⟩)),(2,i64 mi),(4,.pointer (some ⟨EO,0,none⟩)),(6,.bool false),(7,.bool s.b),(8,i64 (i:Int)),(9,.pointer (some ⟨dY,0,none⟩)),(11,.slice bN L.length cN),(12,i64 (s.i:Int))])
          (fun s=> [CV dY (.cells ⟨[.slice f1 f.1.length v1,.slice f2 f.2.length v2]⟩ 60 (0,0)),s.K,Gs DA fb hb n 0 wm wa,s.HF,s.HH,CV EO (.cells ⟨[.slice Du Dr DP,.slice mb mn mc]⟩ 32 (0,0)),hN])
          (fun s=>s.i≤L.length/\Hb σ f ((L.take s.i).filterMap fun t:Int=>if 0≤t/\t<n then some t.toNat else none) b= .ok (s.σ,s.b)/\hle K' s.K/\OS s.HF fb n n 60 2 s.cs/\OS s.HH hb n n 4 1 (DM s.σ)/\GL s.K s.σ s.cs/\Hw s.σ/\s.σ.length=n/\J7 σ≤J7 s.σ) (fun s=>L.length - s.i) ⟨0,σ,b,cs,HF,HH,K'⟩ (by repeat first|exact Sub.nil _|refine Sub.cons rfl ?_) ⟨Nat.zero_le _,rfl,hle.refl _,HU,HT,hF.mono lK',hS,hn,Nat.le_refl _⟩ ?_
        rintro⟨j,σ1,b1,gG,eB,eA,K1⟩ ⟨LV,hG,lK1,osF1,osH1,hF1,hS1,Yx,L9⟩;dsimp only at LV hG lK1 osF1 osH1 hF1 hS1 Yx L9 ⊢
        by_cases hjL:j<L.length
        · obtain ⟨t,ht⟩:∃z,L[j]?=some z:=⟨_,List.getElem?_eq_getElem hjL⟩;have hct2:(L.map i64)[((j:Nat):Int).toNat*1]?=some (i64 t):=by simp [ht]
          have hkj:((j:Nat):Int).toNat*1<(L.map i64).length:=by simp;omega
          have hfs2:=Lj (n:=n) ht;by_cases eo:0≤t
          · by_cases ng:t<n
            · obtain⟨tn,rfl⟩:∃tn:Nat,t=(tn:Int):=⟨t.toNat,by omega⟩;rw [if_pos Ab,Int.toNat_natCast] at hfs2
              have hgo:=UQ K1 eB eA DA 0 wm wa mi fb hb f1 f2 n v1 v2 tn σ1 gG f Ab Yx osF1 osH1 hF1 (r1.mono lK1) (r2.mono lK1) r3 Ab (UF hS1 Ab) Ab Ab;cases ZO:FZ σ1 tn f with
              | error e=>
                obtain⟨c,a⟩:=e;rw [ZO] at hgo
                obtain⟨rfl,rfl⟩:=SS ZO;have OR:FN im mi (Q7 m.code n) σ i b= .error (9,(tn:Int)):=by
                  simp only [FN,hs,hsf];unfold Q7;rw [hL,UA ht,List.filterMap_append,List.filterMap_cons,if_pos Ab,Int.toNat_natCast];exact Oj hG ZO
                repeat' (first|apply Cv|refine Ct 0 Cr Ap ?_|refine CO 2 Cr Aj Ab ?_|refine Ct 4 Cr Ae ?_|refine Cu ?_|apply Cw|refine Cy ?_|refine CH ?_|refine CC ?_|apply CB)
                refine De Ac Ac rfl ?_
                repeat' (first|apply Cv|refine Ct 0 Cr Bf ?_|refine CY 2 Cr Ar Ab ?_|refine Ct 3 Cr AG ?_|refine Ct 4 Cr Ae ?_|refine Ct 5 Cr Ak ?_|apply Cw|refine Cy ?_|refine CF ?_|apply CB)
                refine C0 [.q [0,1,2,3,4,5,6],.h true 7,.q [8,9,10,11]] [CV dY (.cells ⟨[.slice f1 f.1.length v1,.slice f2 f.2.length v2]⟩ 60 (0,0)),hN] Ac Ac Ac Ac ?_
                repeat' (first|apply Cv|refine Ct 0 Cr Az ?_|refine CO 2 Cr Ax Ab ?_|refine Ct 3 Cr Bv ?_|refine Ct 5 Cr Ak ?_|refine Cu ?_|refine C5 ?_|refine Dd rfl ?_|(refine EL rfl rfl rfl rfl rfl rfl rfl rfl (hgo) ?_;rintro _ _ ⟨HF',HH',rfl,rfl⟩;refine⟨_,_,rfl,rfl,?_⟩)|apply Cw|refine Cy ?_|refine CH ?_|apply Cz|refine CQ ?_|refine C3 ?_)
                obtain⟨l2,LK⟩:=range_split hj;rw [LK,I4 hR OR];exact CJ [Gs DA fb hb n 9 mi tn,HF',HH',K1] (CD (Cx rfl)) ⟨HF',HH',K1,rfl,(lK.trans lK').trans lK1,rfl⟩
              | ok q=>
                obtain⟨eE,c⟩:=q;rw [ZO] at hgo
                obtain⟨S1,S2,S3⟩:=Qz hS1 Ab Ab ZO;have Kr:Hb σ f ((L.take (j+1)).filterMap fun t:Int=>if 0≤t/\t<n then some t.toNat else none) b= .ok (eE,b1 ||c):=by
                  rw [hfs2,ME,hG];simp only [ZO]
                repeat' (first|apply Cv|refine Ct 0 Cr Ap ?_|refine CO 2 Cr Aj Ab ?_|refine Ct 4 Cr Ae ?_|refine Cu ?_|apply Cw|refine Cy ?_|refine CH ?_|refine CC ?_|apply CB)
                refine De Ac Ac rfl ?_
                repeat' (first|apply Cv|refine Ct 0 Cr Bf ?_|refine CY 2 Cr Ar Ab ?_|refine Ct 3 Cr AG ?_|refine Ct 4 Cr Ae ?_|refine Ct 5 Cr Ak ?_|apply Cw|refine Cy ?_|refine CF ?_|apply CB)
                refine C0 [.q [0,1,2,3,4,5,6],.h true 7,.q [8,9,10,11]] [CV dY (.cells ⟨[.slice f1 f.1.length v1,.slice f2 f.2.length v2]⟩ 60 (0,0)),hN] Ac Ac Ac Ac ?_;cases c with
                | false=>
                  repeat' (first|apply Cv|refine Ct 0 Cr Az ?_|refine Ct 1 Cr Ao ?_|refine CY 2 Cr Ax Ab ?_|refine Ct 3 Cr Bv ?_|refine Ct 5 Cr Ak ?_|refine Cu ?_|refine C5 ?_|refine Dd rfl ?_|(refine EL rfl rfl rfl rfl rfl rfl rfl rfl (hgo) ?_;rintro _ _ ⟨HF2,HH2,K2,cs2,rfl,lK2,rfl,osF2,osH2,hF2⟩;refine⟨_,_,rfl,rfl,?_⟩)|apply Cw|refine Cy ?_|refine CF ?_|apply CB)
                  exact⟨rfl,⟨j+1,eE,b1,cs2,HF2,HH2,K2⟩,CX (by repeat first|exact Sub.nil _|refine Sub.cons rfl ?_),⟨hjL,by rw [Kr,Bool.or_false],lK1.trans lK2,osF2,osH2,hF2,S1,S3.trans Yx,Nat.le_trans L9 S2⟩,by dsimp only;omega⟩
                | true=>
                  repeat' (first|apply Cv|refine Ct 0 Cr Aw ?_|refine CG 0 Cs ?_|refine Ct 1 Cr Ao ?_|refine CY 2 Cr Ax Ab ?_|refine Ct 3 Cr Bv ?_|refine Ct 5 Cr Ak ?_|refine Cu ?_|refine C5 ?_|refine Dd rfl ?_|(refine EL rfl rfl rfl rfl rfl rfl rfl rfl (hgo) ?_;rintro _ _ ⟨HF2,HH2,K2,cs2,rfl,lK2,rfl,osF2,osH2,hF2⟩;refine⟨_,_,rfl,rfl,?_⟩)|apply Cw|refine Cy ?_|refine CF ?_|apply CB)
                  exact⟨rfl,⟨j+1,eE,true,cs2,HF2,HH2,K2⟩,CX (by repeat first|exact Sub.nil _|refine Sub.cons rfl ?_),⟨hjL,by rw [Kr,Bool.or_true],lK1.trans lK2,osF2,osH2,hF2,S1,S3.trans Yx,Nat.le_trans L9 S2⟩,by dsimp only;omega⟩
            · rw [if_neg Ab,List.append_nil] at hfs2
              repeat' (first|apply Cv|refine Ct 0 Cr Ap ?_|refine CO 2 Cr Aj Ab ?_|refine Ct 4 Cr Ae ?_|refine Cu ?_|apply Cw|refine Cy ?_|refine CH ?_|refine CC ?_|apply CB)
              refine De Ac Ac rfl ?_
              repeat' (first|refine Ct 0 Cr Az ?_|refine Ct 1 Cr Ao ?_|refine CO 2 Cr Ar Ab ?_|refine CY 2 Cr Aj Ab ?_|refine Ct 3 Cr AG ?_|refine Ct 4 Cr Ae ?_|refine Ct 5 Cr Ak ?_|refine Cu ?_|apply Cw|refine Cy ?_|refine CH ?_|refine C1 ?_)
              exact⟨rfl,⟨j+1,σ1,b1,gG,eB,eA,K1⟩,CX (by repeat first|exact Sub.nil _|refine Sub.cons rfl ?_),⟨hjL,by rw [hfs2];exact hG,lK1,osF1,osH1,hF1,hS1,Yx,L9⟩,by dsimp only;omega⟩
          · rw [if_neg Ab,List.append_nil] at hfs2
            repeat' (first|apply Cv|refine Ct 0 Cr Ap ?_|refine CO 2 Cr Aj Ab ?_|refine Ct 4 Cr Ae ?_|refine Cu ?_|apply Cw|refine Cy ?_|refine CH ?_|refine CC ?_|apply CB)
            refine De Ac Ac rfl ?_
            repeat' (first|refine Ct 0 Cr Aw ?_|refine CG 0 Cs ?_|refine Ct 1 Cr Ao ?_|refine CG 2 Cs ?_|refine CO 2 Cr Aj Ab ?_|refine Ct 3 Cr Bu ?_|refine CG 3 Cs ?_|refine CG 4 Cs ?_|refine CG 5 Cs ?_|refine Cu ?_|apply Cw|refine Cy ?_|refine CH ?_|refine C1 ?_)
            exact⟨rfl,⟨j+1,σ1,b1,gG,eB,eA,K1⟩,CX (by repeat first|exact Sub.nil _|refine Sub.cons rfl ?_),⟨hjL,by rw [hfs2];exact hG,lK1,osF1,osH1,hF1,hS1,Yx,L9⟩,by dsimp only;omega⟩
        · obtain rfl:j=L.length:=by omega
          rw [List.take_length] at hG
          repeat' (first|apply Cv|refine Ct 0 Cr Ag ?_|refine Ct 1 Cr Ao ?_|refine CY 2 Cr Aj Ab ?_|refine Ct 4 Cr Ae ?_|refine Cu ?_|apply Cw|refine Cy ?_|refine CF ?_|refine C1 ?_)
          exact⟨rfl,⟨i+1,σ1,b1,gG,eB,eA,K1⟩,CX (by repeat first|exact Sub.nil _|refine Sub.cons rfl ?_),⟨hj,by rw [List.range_succ,Ij,hR];simp only [FN,hs,hsf];unfold Q7;rw [hL];exact hG,(lK.trans lK').trans lK1,osF1,osH1,hF1,hS1,Yx⟩,by dsimp only;omega⟩
  · obtain rfl:i=n:=by omega
    rw [hR]
    repeat' (first|apply Cv|refine Ct 0 Cr Ag ?_|refine CY 2 Cr Aj Ab ?_|refine Ct 3 Cr Af ?_|refine Ct 4 Cr Ae ?_|refine Ct 5 Cr Ak ?_|refine Cu ?_|apply Cw|refine Cy ?_|refine CF ?_|apply Cz|refine C1 ?_)
    exact CJ [Gs DA fb hb i 0 wm wa,HF,HH,K] (CD (Cx rfl)) ⟨HF,HH,K,cs,rfl,lK,rfl,HU,HT,hF⟩
end Go.Proofs.YtcnmnmjmpocepaaGreatDoor
end
section
namespace Go.Proofs.YtcnmnmjmpocepaaGreatDoor
open Go.SL
open Kd
structure Pz where
  DA:Nat
  pb:Option Addr
  pn:Nat
  pc:Nat
  lo:Int
  st:Int
  cb:Option Addr
  cc:Nat
  Du:Option Addr
  Dr:Nat
  DP:Nat
  mb:Option Addr
  mn:Nat
  mc:Nat
  mi:Int
  fb:Option Addr
  hb:Option Addr
  n:Nat
abbrev Pz.B(p:Pz):CA:=Iq p.DA p.pb p.pn p.pc p.lo p.st p.cb p.n p.cc p.Du p.Dr p.DP p.mb p.mn p.mc p.mi p.fb p.hb p.n
abbrev KP(HX DA:Nat):CA:=CV HX (.cells ⟨[.pointer (some ⟨DA,0,none⟩)]⟩ 89 (0,0))
abbrev VH(β:Nat)(b1 b2:Option Addr)(n1 n2 c1 c2:Nat):CA:=CV β (.cells ⟨[.slice b1 n1 c1,.slice b2 n2 c2]⟩ 59 (0,0))
inductive WS where
  |scan (a:Nat) (σ:Fs) (K:CA)
  |go (a:Nat) (σ:Fs) (K:CA) (f:Fm) (j:Nat) (EO:Nat) (b1 b2:Option Addr) (c1 c2:Nat) (gv:Bool)
def WS.σ:WS->Fs
  | .scan _ σ _=>σ
  | .go _ σ .. =>σ
def WS.K:WS->CA
  | .scan _ _ K=>K
  | .go _ _ K .. =>K
structure QY(p:Pz)(im:Im)(m:Me)(HX:Nat)(s:WS)(H:CA):Prop where
  box:hle (KP HX p.DA) H
  fL:hle p.B H
  kk:hle s.K H
  cells:∃cs,Sl H p.fb cs/\Sl H p.hb (DM s.σ)/\GL s.K s.σ cs
  cls:FY s.K im.cls p.Du p.Dr
  ms:Hd s.K im.ms p.mb p.mn
  code:Sl s.K p.cb (CZ m.code)
  len:s.σ.length=p.n
  Dl:Hw s.σ
theorem QY.mono{p:Pz}{im:Im}{m:Me}{HX:Nat}{s:WS}{H H':CA}(h:QY p im m HX s H)(l:hle H H'):QY p im m HX s H':=
  ⟨h.box.trans l,h.fL.trans l,h.kk.trans l,by obtain⟨cs,a,b,c⟩:=h.cells;exact⟨cs,a.mono l,b.mono l,c⟩,h.cls,h.ms,h.code,h.len,h.Dl⟩
def o4(p:Pz)(im:Im)(m:Me)(HX:Nat):WS->List Value->List CA->Prop
  | .scan a σ _,x,Ws=>∃g c JQ EO Gr,σ[a]?=some (some g)/\E9 im p.mi (a:Int) g.1 g.2= .inl c/\a<p.n/\
      x= [i64 (a:Int),.func (.func 117) #[] #[.pointer (some ⟨EO,0,none⟩),.pointer (some ⟨HX,0,none⟩),.pointer (some ⟨Gr,0,none⟩),.pointer (some ⟨JQ,0,none⟩)]]/\
      Ws= [VH EO none none 0 0 0 0,CV Gr (.cells ⟨[i64 c]⟩ 34 (0,0)),CV JQ (.cells ⟨[i64 (a:Int)]⟩ 3 (0,0))]
  | .go a _ K f j EO b1 b2 c1 c2 gv,x,Ws=>∃t,(Nd.Gp (Hy m.code) (a:Int))[j]?=some t/\0≤t/\t<p.n/\
      x= [i64 t,.func (.func 118) #[] #[.pointer (some ⟨EO,0,none⟩)]]/\
      ((gv=true/\Ws= [emp,emp])∨(gv=false/\∃Kn K',Ws= [Kn,VH EO b1 b2 f.1.length f.2.length c1 c2]/\(∀K3,hle K K3->hle Kn K3->hle K' K3)/\Sl K' b1 (f.1.map i64)/\Sl K' b2 (f.2.map i64)/\f.2.length≤c2))
def oZ:WS->WS->Prop
  | .scan ..,_=>False
  | .go a _ _ f j EO b1 b2 c1 c2 _,s'=>∃ED K',s'= .go a ED K' f (j+1) EO b1 b2 c1 c2 true
inductive ki (p:Pz) (im:Im) (m:Me):WS->WS->Prop
  |none {a:Nat} {σ:Fs} {K:CA} (h:σ[a]?=some none) (ha:a<p.n):ki p im m (.scan a σ K) (.scan (a+1) σ K)
  |step {a:Nat} {σ:Fs} {K:CA} {g f:Fm} {EO:Nat} {b1 b2:Option Addr} {c1 c2:Nat} (h:σ[a]?=some (some g)) (hs:E9 im p.mi (a:Int) g.1 g.2= .inr f) (ha:a<p.n):ki p im m (.scan a σ K) (.go a σ K f 0 EO b1 b2 c1 c2 false)
  |skip {a:Nat} {σ:Fs} {K:CA} {f:Fm} {j EO:Nat} {b1 b2:Option Addr} {c1 c2:Nat} {gv:Bool} {t:Int} (h:(Nd.Gp (Hy m.code) (a:Int))[j]?=some t) (ht:¬(0≤t/\t<p.n)):ki p im m (.go a σ K f j EO b1 b2 c1 c2 gv) (.go a σ K f (j+1) EO b1 b2 c1 c2 gv)
  |behind {a:Nat} {σ:Fs} {K:CA} {f:Fm} {j EO:Nat} {b1 b2:Option Addr} {c1 c2:Nat} {gv:Bool} (h:j=(Nd.Gp (Hy m.code) (a:Int)).length):ki p im m (.go a σ K f j EO b1 b2 c1 c2 gv) (.scan (a+1) σ K)
def o6(p:Pz)(s:WS):Prop:=∃σ K,s= .scan p.n σ K
def mL(K:CA)(res:Int ⊕ Fm)(e:Ending)(N:List CA):Prop:=
  ∃Kn K',N= [Kn]/\(∀K3,hle K K3->hle Kn K3->hle K' K3)/\match res with
  | .inl c=>e= .returned (.tuple #[JZ,i64 c])
  | .inr (l,s)=>∃b1 c1 b2 c2,e= .returned (.tuple #[fr b1 b2 l.length s.length c1 c2,i64 0])/\Sl K' b1 (l.map i64)/\Sl K' b2 (s.map i64)/\s.length≤c2
theorem ku(own:List CA)(K:CA)(hk:∃k∈own,hle K k)(im:Im)(Du mb lb sb:Option Addr)(Dr DP mn mc ln lc sn sc:Nat)(mi at_:Int)(loc Dl:List Int)(EP:FY K im.cls Du Dr)(Gq:Hd K im.ms mb mn)(NN:Sl K lb (loc.map i64))(Yc:Sl K sb (Dl.map i64))(hl:loc.length=ln)(hs:Dl.length=sn)(Ww:ln≤4000000)(Wr:sn≤2000000)(jF:sn≤sc):
    SL.T Tryz.prog 20 [Gi Du Dr DP mb mn mc,i64 mi,fr lb sb ln sn lc sc,i64 at_] own fun e o=>∃N,o=own++N/\mL K (E9 im mi at_ loc Dl) e N:=by
  refine KH fun J hJ=> ?_
  obtain⟨k,Sz,MU⟩:=hk;have h:=XU K im Du mb lb sb Dr DP mn mc ln lc sn sc mi at_ loc Dl EP Gq NN Yc hl hs Ww Wr jF;have h2:=dS (R:=fun e K'=>match E9 im mi at_ loc Dl with
    | .inl c=>e= .returned (.tuple #[JZ,i64 c])
    | .inr (l,s)=>∃b1 c1 b2 c2,e= .returned (.tuple #[fr b1 b2 l.length s.length c1 c2,i64 0])/\Sl K' b1 (l.map i64)/\Sl K' b2 (s.map i64)/\s.length≤c2) (h.mono fun e o ⟨K',h1,h2,h3⟩=>⟨K',h1,h2,h3⟩) (MU.trans (hJ k Sz))
  exact h2.mono fun e o ⟨Kn,K',h1,h2,h3⟩=>⟨[Kn],h1,Kn,K',rfl,h2,h3⟩
theorem Zv{E env:Env}{own rest:List CA}{F h k:CA} [t:Dx own [h,k] rest](hs:Sub E env):Sub E env/\∀w,Sat (F::own) w->Sat (F:: [h,k,emp,emp]) w:=
  ⟨hs,fun w s=>by
    have s2:=PI (hs:= [h,k]) F w s;have s3:Sat ([]++([F,h,k]:List CA)) w:=s2;have e1:Sat (Da []::([F,h,k]:List CA)) w:=s3.Da;have e2:Sat (Da []::(Da []::([F,h,k]:List CA))) w:=(show Sat ([]++(Da []::([F,h,k]:List CA))) w from e1).Da;exact e2.perm (by
      show([emp,emp]++ [F,h,k]).Perm ([F,h,k]++ [emp,emp]);exact List.perm_append_comm)⟩
attribute [local irreducible] SL.T Dw DG DE DI Et D0
theorem WE(DA:Nat):SL.T Tryz.prog 66 [.pointer (some ⟨DA,0,none⟩)] [] fun e o=>∃HX,o= [KP HX DA]/\e= .returned (.func (.func 116) #[] #[.pointer (some ⟨HX,0,none⟩)]):=by
  refine CM Tryz.func66 rfl (Nat.le_of_ble_eq_true rfl) fun F=> ?_
  repeat' (first|apply Cv|refine Ct 0 Cr BE ?_|refine Ol 0 Cr BE (fun h=> ?_) (fun h=> ?_)|refine CG 0 Cs ?_|refine Ct 1 Cr (by first|exact H4 rfl rfl rfl Ab Ab|exact LD rfl rfl rfl Ab Ab|exact Ie rfl rfl rfl|exact fB rfl rfl rfl|exact Fu rfl rfl rfl|exact Jo rfl rfl rfl Ab|exact TI rfl rfl rfl Ab|exact Ng rfl rfl rfl Ab|exact TH rfl rfl rfl Ab|exact Ni rfl rfl rfl Ah) ?_|refine CG 1 Cs ?_|refine CG 2 Cs ?_|refine CO 2 Cr Bk (by first|omega|decide +kernel) ?_|refine CY 2 Cr Bk (by first|omega|decide +kernel) ?_|refine G5 2 Cr Bk (fun h=> ?_) (fun h=> ?_)|refine Ct 2 Cr (by first|exact LH rfl rfl|exact jn rfl rfl|exact Mt rfl rfl) ?_|refine gk 2 rfl (JU rfl rfl rfl (by first|exact HI Tryz.underlying4 rfl rfl rfl|exact G7 Tryz.underlying4 rfl rfl rfl|exact GD rfl rfl rfl rfl|exact Ip rfl rfl rfl rfl) BF ?_)|refine gk 2 rfl (M0 rfl rfl rfl (by first|exact HI Tryz.underlying4 rfl rfl rfl|exact G7 Tryz.underlying4 rfl rfl rfl|exact GD rfl rfl rfl rfl|exact Ip rfl rfl rfl rfl) BF ?_)|refine Ol 2 Cr (by first|exact HI Tryz.underlying4 rfl rfl rfl|exact G7 Tryz.underlying4 rfl rfl rfl|exact GD rfl rfl rfl rfl|exact Ip rfl rfl rfl rfl) (fun h=> ?_) (fun h=> ?_)|refine Ct 3 Cr (by first|exact DU rfl Aa rfl Aa|exact Dg rfl rfl|exact Fc rfl Aa rfl Aa Aa|exact C7 rfl rfl rfl Ab Ab Cb|exact JY rfl rfl rfl Ab Ab Bl|exact W8 rfl rfl rfl Ab Ab Bl|exact I7 rfl rfl rfl Ab Ab|exact Fx rfl rfl (by first|assumption|omega)|exact U3 rfl Aa Ai rfl rfl rfl|exact D7 rfl Aa Ai Bl|exact LG rfl Aa Ai Ad Ad|exact H0 rfl Aa Ai Ad Ad Ad) ?_|refine CG 3 Cs ?_|refine CG 4 Cs ?_|refine Ct 4 Cr Bm ?_|refine Ct 5 Cr (by first|exact Ka rfl rfl|exact ee rfl rfl|exact H3 rfl rfl Aa|exact Ms rfl rfl rfl rfl Ab Ab Ab|exact Io rfl rfl rfl Ab Ab|exact C8 rfl rfl|exact Hp rfl rfl rfl Ab Ab|exact U4 rfl rfl rfl rfl) ?_|refine CG 5 Cs ?_|refine CP (fun b=> ?_)|refine C2 (fun β=> ?_)|refine CT (fun β=> ?_)|refine CN ?_|refine Cu ?_|refine C5 ?_|refine Dd rfl ?_|refine Fq rfl ?_|refine HW rfl ?_|refine Dn rfl rfl (by first|exact J1 rfl Aa|exact fI rfl rfl rfl|exact Fw rfl rfl rfl rfl Ab Ab|exact FU rfl rfl Aa Aa Aa Aa Aa) ?_|refine DN rfl rfl rfl (fun β=> ?_)|refine NC rfl rfl rfl rfl ?_|refine Df rfl rfl rfl rfl rfl rfl Aa rfl Aa Aa ?_|refine Gc rfl (by decide +kernel) rfl rfl rfl rfl rfl Aa rfl Aa Aa ?_|apply Cw|refine Cy ?_|refine CH ?_|refine CF ?_|refine CC ?_|apply Cz|refine C1 ?_|apply CB|refine CQ ?_|refine C3 ?_|refine Ja ?_|refine Gf ?_|refine Gh ?_)
  exact CJ [KP β DA] (CD (Cx rfl)) ⟨β,rfl,rfl⟩
end Go.Proofs.YtcnmnmjmpocepaaGreatDoor
end
