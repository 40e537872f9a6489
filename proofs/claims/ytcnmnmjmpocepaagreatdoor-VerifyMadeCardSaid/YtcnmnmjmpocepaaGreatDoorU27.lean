
import Derived.Test.YtcnmnmjmpocepaaGreatDoorU00
import Derived.Test.YtcnmnmjmpocepaaGreatDoorU11
import Derived.Test.YtcnmnmjmpocepaaGreatDoorU21
import Derived.Test.YtcnmnmjmpocepaaGreatDoorU24
import Derived.Test.YtcnmnmjmpocepaaGreatDoorU20
import Derived.Test.YtcnmnmjmpocepaaGreatDoorU19
set_option linter.unusedVariables false
set_option linter.unusedSimpArgs false
set_option linter.unusedSectionVars false
set_option maxRecDepth 100000
set_option maxHeartbeats 16000000
section
namespace Go.Proofs.YtcnmnmjmpocepaaGreatDoor
def FH(l:List Kd.Ins):List Nd.Ins:=l.map fun x=>(x.op,x.a,x.b)
theorem Dk(l:List Kd.Ins):(FH l).length=l.length:=by simp [FH]
theorem GA:∀(l:List Kd.Ins),Nd.Cp (FH l)=Kd.Cp l
  | []=>rfl
  | x::l=>by
    have:=GA l;simp [FH,Nd.Cp,Kd.Cp] at this ⊢
    exact this
def R6(l:List Kd.Ins)(n:Nat)(at_:Nat):List Nat:=(Nd.GG (FH l) (at_:Int)).filterMap fun t:Int=>if 0≤t/\t<n then some t.toNat else none
theorem MR{n:Nat}{l:List Int}{i:Nat}{t:Int}(h:l[i]?=some t):
    (l.take (i+1)).filterMap (fun t:Int=>if 0≤t/\t<n then some t.toNat else none)=(l.take i).filterMap (fun t:Int=>if 0≤t/\t<n then some t.toNat else none)++(if 0≤t/\t<n then [t.toNat] else []):=by
  rw [List.take_add_one,h,List.filterMap_append]
  congr 1
  by_cases q:0≤t/\t<n
  · simp [q]
  · simp [q]
theorem V4{im:Kd.Im}{mi at_:Int}{loc CX:List Int}{c:Int}(h:Kd.Dv im mi at_ loc CX= .inl c):c=8∨c=9:=by
  unfold Kd.Dv at h
  repeat' split at h
  all_goals first|(cases h;exact .inl rfl)|(cases h;exact .inr rfl)|cases h
theorem KD{im:Kd.Im}{mi:Int}{nx:Nat->List Nat}{a:Nat}{e:Er}:∀ {l l2:List Nat} {σ Dj:Fs} {b b':Bool},D1 im mi nx σ l b= .ok (Dj,b')->Fw im mi nx Dj a b'= .error e->D1 im mi nx σ (l++a::l2) b= .error e
  | [],l2,σ,Dj,b,b',h,hp=>by
    cases h
    simp only [List.nil_append,D1,hp]
  | x ::l,l2,σ,Dj,b,b',h,hp=>by
    simp only [List.cons_append,D1] at h ⊢
    split at h
    · cases h
    · rename_i Rl b1 e1
      exact KD h hp
theorem range_split{i n:Nat}(h:i<n):∃l2,List.range n=List.range i++i::l2:=by
  obtain⟨k,rfl⟩:∃k,n=i+(k+1):=⟨n - i - 1,by omega⟩;exact⟨((List.range k).map Nat.succ).map (i+ ·),by rw [List.range_add,List.range_succ_eq_map];rfl⟩
theorem P7{f:Fm}{t:Nat}{l2:List Nat}{e:Er}:∀ {ts:List Nat} {σ Dj:Fs} {b b':Bool},Gb σ f ts b= .ok (Dj,b')->E1 Dj t f= .error e->Gb σ f (ts++t::l2) b= .error e
  | [],σ,Dj,b,b',h,he=>by
    cases h
    simp only [List.nil_append,Gb,he]
  | x ::ts,σ,Dj,b,b',h,he=>by
    simp only [List.cons_append,Gb] at h ⊢
    split at h
    · cases h
    · rename_i Rl c1 e1
      exact P7 h he
theorem Xz{l:List Int}{j:Nat}{t:Int}(h:l[j]?=some t):l=l.take j++t::l.drop (j+1):=by
  obtain⟨h1,h2⟩:=List.getElem?_eq_some_iff.1 h;rw [<-h2,List.getElem_cons_drop,List.take_append_drop]
end Go.Proofs.YtcnmnmjmpocepaaGreatDoor
end
section
namespace Go.Proofs.YtcnmnmjmpocepaaGreatDoor
theorem XD{σ:Fs}(h:G7 σ)(hn:σ.length≤1000000):Small σ:=fun g hg=>by
  have:=h g hg;have:=Mv σ;omega
end Go.Proofs.YtcnmnmjmpocepaaGreatDoor
end
section
namespace Go.Proofs.YtcnmnmjmpocepaaGreatDoor
open Go.SL
open Kd
attribute [local irreducible] SL.T C7 Dc C6 Db DS Du
end Go.Proofs.YtcnmnmjmpocepaaGreatDoor
end
section
namespace Go.Proofs.YtcnmnmjmpocepaaGreatDoor
open Go.SL
open Kd
structure Ql where
  Dq:Nat
  pb:Option Addr
  pn:Nat
  pc:Nat
  lo:Int
  st:Int
  cb:Option Addr
  cc:Nat
  DF:Option Addr
  DW:Nat
  EG:Nat
  mb:Option Addr
  mn:Nat
  mc:Nat
  mi:Int
  fb:Option Addr
  hb:Option Addr
  n:Nat
abbrev Ql.B(p:Ql):B6:=G3 p.Dq p.pb p.pn p.pc p.lo p.st p.cb p.n p.cc p.DF p.DW p.EG p.mb p.mn p.mc p.mi p.fb p.hb p.n
abbrev Jg(GJ Dq:Nat):B6:=Co GJ (.cells ⟨[.pointer (some ⟨Dq,0,none⟩)]⟩ 89 (0,0))
abbrev SY(β:Nat)(b1 b2:Option Addr)(n1 n2 c1 c2:Nat):B6:=Co β (.cells ⟨[.slice b1 n1 c1,.slice b2 n2 c2]⟩ 59 (0,0))
inductive WS where
  |scan (a:Nat) (σ:Fs) (K:B6)
  |go (a:Nat) (σ:Fs) (K:B6) (f:Fm) (j:Nat) (Fv:Nat) (b1 b2:Option Addr) (c1 c2:Nat) (gv:Bool)
def WS.σ:WS->Fs
  | .scan _ σ _=>σ
  | .go _ σ .. =>σ
def WS.K:WS->B6
  | .scan _ _ K=>K
  | .go _ _ K .. =>K
structure ON(p:Ql)(im:Im)(m:Me)(GJ:Nat)(s:WS)(H:B6):Prop where
  box:hle (Jg GJ p.Dq) H
  ZX:hle p.B H
  kk:hle s.K H
  cells:∃cs,Sl H p.fb cs/\Sl H p.hb (Dp s.σ)/\GF s.K s.σ cs
  cls:Hk s.K im.cls p.DF p.DW
  ms:I6 s.K im.ms p.mb p.mn
  code:Sl s.K p.cb (Cp m.code)
  len:s.σ.length=p.n
  CX:G7 s.σ
theorem ON.mono{p:Ql}{im:Im}{m:Me}{GJ:Nat}{s:WS}{H H':B6}(h:ON p im m GJ s H)(l:hle H H'):ON p im m GJ s H':=
  ⟨h.box.trans l,h.ZX.trans l,h.kk.trans l,by obtain⟨cs,a,b,c⟩:=h.cells;exact⟨cs,a.mono l,b.mono l,c⟩,h.cls,h.ms,h.code,h.len,h.CX⟩
def jq(p:Ql)(im:Im)(m:Me)(GJ:Nat):WS->List Value->List B6->Prop
  | .scan a σ _,x,Ws=>∃g c Io Fv Ic,σ[a]?=some (some g)/\Dv im p.mi (a:Int) g.1 g.2= .inl c/\a<p.n/\
      x= [i64 (a:Int),.func (.func 117) #[] #[.pointer (some ⟨Fv,0,none⟩),.pointer (some ⟨GJ,0,none⟩),.pointer (some ⟨Ic,0,none⟩),.pointer (some ⟨Io,0,none⟩)]]/\
      Ws= [SY Fv none none 0 0 0 0,Co Ic (.cells ⟨[i64 c]⟩ 34 (0,0)),Co Io (.cells ⟨[i64 (a:Int)]⟩ 3 (0,0))]
  | .go a _ K f j Fv b1 b2 c1 c2 gv,x,Ws=>∃t,(Nd.GG (FH m.code) (a:Int))[j]?=some t/\0≤t/\t<p.n/\
      x= [i64 t,.func (.func 118) #[] #[.pointer (some ⟨Fv,0,none⟩)]]/\
      ((gv=true/\Ws= [emp,emp])∨(gv=false/\∃Kn K',Ws= [Kn,SY Fv b1 b2 f.1.length f.2.length c1 c2]/\(∀K3,hle K K3->hle Kn K3->hle K' K3)/\Sl K' b1 (f.1.map i64)/\Sl K' b2 (f.2.map i64)/\f.2.length≤c2))
def jm:WS->WS->Prop
  | .scan ..,_=>False
  | .go a _ _ f j Fv b1 b2 c1 c2 _,s'=>∃Dj K',s'= .go a Dj K' f (j+1) Fv b1 b2 c1 c2 true
inductive dw (p:Ql) (im:Im) (m:Me):WS->WS->Prop
  |none {a:Nat} {σ:Fs} {K:B6} (h:σ[a]?=some none) (ha:a<p.n):dw p im m (.scan a σ K) (.scan (a+1) σ K)
  |step {a:Nat} {σ:Fs} {K:B6} {g f:Fm} {Fv:Nat} {b1 b2:Option Addr} {c1 c2:Nat} (h:σ[a]?=some (some g)) (hs:Dv im p.mi (a:Int) g.1 g.2= .inr f) (ha:a<p.n):dw p im m (.scan a σ K) (.go a σ K f 0 Fv b1 b2 c1 c2 false)
  |skip {a:Nat} {σ:Fs} {K:B6} {f:Fm} {j Fv:Nat} {b1 b2:Option Addr} {c1 c2:Nat} {gv:Bool} {t:Int} (h:(Nd.GG (FH m.code) (a:Int))[j]?=some t) (ht:¬(0≤t/\t<p.n)):dw p im m (.go a σ K f j Fv b1 b2 c1 c2 gv) (.go a σ K f (j+1) Fv b1 b2 c1 c2 gv)
  |behind {a:Nat} {σ:Fs} {K:B6} {f:Fm} {j Fv:Nat} {b1 b2:Option Addr} {c1 c2:Nat} {gv:Bool} (h:j=(Nd.GG (FH m.code) (a:Int)).length):dw p im m (.go a σ K f j Fv b1 b2 c1 c2 gv) (.scan (a+1) σ K)
def jr(p:Ql)(s:WS):Prop:=∃σ K,s= .scan p.n σ K
def fK(K:B6)(res:Int ⊕ Fm)(e:Ending)(N:List B6):Prop:=
  ∃Kn K',N= [Kn]/\(∀K3,hle K K3->hle Kn K3->hle K' K3)/\match res with
  | .inl c=>e= .returned (.tuple #[Kk,i64 c])
  | .inr (l,s)=>∃b1 c1 b2 c2,e= .returned (.tuple #[fr b1 b2 l.length s.length c1 c2,i64 0])/\Sl K' b1 (l.map i64)/\Sl K' b2 (s.map i64)/\s.length≤c2
theorem dE(own:List B6)(K:B6)(hk:∃k∈own,hle K k)(im:Im)(DF mb lb sb:Option Addr)(DW EG mn mc ln lc sn sc:Nat)(mi at_:Int)(loc CX:List Int)(ET:Hk K im.cls DF DW)(HM:I6 K im.ms mb mn)(ZH:Sl K lb (loc.map i64))(Wc:Sl K sb (CX.map i64))(hl:loc.length=ln)(hs:CX.length=sn)(WL:ln≤4000000)(WE:sn≤2000000)(gp:sn≤sc):
    SL.T Tryz.prog 20 [F8 DF DW EG mb mn mc,i64 mi,fr lb sb ln sn lc sc,i64 at_] own fun e o=>∃N,o=own++N/\fK K (Dv im mi at_ loc CX) e N:=by
  refine J7 fun J hJ=> ?_
  obtain⟨k,br,TB⟩:=hk;have h:=KX K im DF mb lb sb DW EG mn mc ln lc sn sc mi at_ loc CX ET HM ZH Wc hl hs WL WE gp;have h2:=Y7 (R:=fun e K'=>match Dv im mi at_ loc CX with
    | .inl c=>e= .returned (.tuple #[Kk,i64 c])
    | .inr (l,s)=>∃b1 c1 b2 c2,e= .returned (.tuple #[fr b1 b2 l.length s.length c1 c2,i64 0])/\Sl K' b1 (l.map i64)/\Sl K' b2 (s.map i64)/\s.length≤c2) (h.mono fun e o ⟨K',h1,h2,h3⟩=>⟨K',h1,h2,h3⟩) (TB.trans (hJ k br))
  exact h2.mono fun e o ⟨Kn,K',h1,h2,h3⟩=>⟨[Kn],h1,Kn,K',rfl,h2,h3⟩
theorem Wp{E env:Env}{own rest:List B6}{F h k:B6} [t:C1 own [h,k] rest](hs:Sub E env):Sub E env/\∀w,Sat (F::own) w->Sat (F:: [h,k,emp,emp]) w:=
  ⟨hs,fun w s=>by
    have s2:=NA (hs:= [h,k]) F w s;have s3:Sat ([]++([F,h,k]:List B6)) w:=s2;have e1:Sat (CB []::([F,h,k]:List B6)) w:=s3.CB;have e2:Sat (CB []::(CB []::([F,h,k]:List B6))) w:=(show Sat ([]++(CB []::([F,h,k]:List B6))) w from e1).CB;exact e2.perm (by
      show([emp,emp]++ [F,h,k]).Perm ([F,h,k]++ [emp,emp]);exact List.perm_append_comm)⟩
attribute [local irreducible] SL.T C7 Dc C6 Db DS Du
theorem TL(Dq:Nat):SL.T Tryz.prog 66 [.pointer (some ⟨Dq,0,none⟩)] [] fun e o=>∃GJ,o= [Jg GJ Dq]/\e= .returned (.func (.func 116) #[] #[.pointer (some ⟨GJ,0,none⟩)]):=by
  refine Ch Tryz.func66 rfl (Nat.le_of_ble_eq_true rfl) fun F=> ?_
  repeat' (first|apply B4|refine B3 0 BY Bj ?_|refine Mo 0 BY Bj (fun h=> ?_) (fun h=> ?_)|refine Cw 0 BZ ?_|refine B3 1 BY (by first|exact GN rfl rfl rfl Ab Ab|exact JS rfl rfl rfl Ab Ab|exact QH rfl rfl rfl|exact ZR rfl rfl rfl|exact EM rfl rfl rfl|exact Ho rfl rfl rfl Ab|exact QG rfl rfl rfl Ab|exact Nf rfl rfl rfl Ab|exact QF rfl rfl rfl Ab|exact Ls rfl rfl rfl Ae) ?_|refine Cw 1 BZ ?_|refine Cw 2 BZ ?_|refine Cs 2 BY A6 (by first|omega|decide +kernel) ?_|refine CE 2 BY A6 (by first|omega|decide +kernel) ?_|refine IC 2 BY A6 (fun h=> ?_) (fun h=> ?_)|refine B3 2 BY (by first|exact JT rfl rfl|exact cq rfl rfl|exact KH rfl rfl) ?_|refine gk 2 rfl (Ki rfl rfl rfl (by first|exact G1 Tryz.underlying4 rfl rfl rfl|exact Jq Tryz.underlying4 rfl rfl rfl|exact Ga rfl rfl rfl rfl|exact Jp rfl rfl rfl rfl) Bk ?_)|refine gk 2 rfl (XH rfl rfl rfl (by first|exact G1 Tryz.underlying4 rfl rfl rfl|exact Jq Tryz.underlying4 rfl rfl rfl|exact Ga rfl rfl rfl rfl|exact Jp rfl rfl rfl rfl) Bk ?_)|refine Mo 2 BY (by first|exact G1 Tryz.underlying4 rfl rfl rfl|exact Jq Tryz.underlying4 rfl rfl rfl|exact Ga rfl rfl rfl rfl|exact Jp rfl rfl rfl rfl) (fun h=> ?_) (fun h=> ?_)|refine B3 3 BY (by first|exact DI rfl Aa rfl Aa|exact CV rfl rfl|exact D5 rfl Aa rfl Aa Aa|exact CD rfl rfl rfl Ab Ab BO|exact Ix rfl rfl rfl Ab Ab A7|exact T5 rfl rfl rfl Ab Ab A7|exact NX rfl rfl rfl Ab Ab|exact EX rfl rfl (by first|assumption|omega)|exact RZ rfl Aa Ai rfl rfl rfl|exact D2 rfl Aa Ai A7|exact Iw rfl Aa Ai Ad Ad|exact Iv rfl Aa Ai Ad Ad Ad) ?_|refine Cw 3 BZ ?_|refine Cw 4 BZ ?_|refine B3 4 BY BP ?_|refine B3 5 BY (by first|exact IM rfl rfl|exact Zj rfl rfl|exact GM rfl rfl Aa|exact KG rfl rfl rfl rfl Ab Ab Ab|exact G0 rfl rfl rfl Ab Ab|exact CO rfl rfl|exact Gl rfl rfl rfl Ab Ab|exact R0 rfl rfl rfl rfl) ?_|refine Cw 5 BZ ?_|refine Cm (fun b=> ?_)|refine CF (fun β=> ?_)|refine Cn (fun β=> ?_)|refine Ck ?_|refine B0 ?_|refine Cz ?_|refine CQ rfl ?_|refine FD rfl ?_|refine MV rfl ?_|refine Dg rfl rfl (by first|exact JU rfl Aa|exact ZU rfl rfl rfl|exact EP rfl rfl rfl rfl Ab Ab|exact EY rfl rfl Aa Aa Aa Aa Aa) ?_|refine DL rfl rfl rfl (fun β=> ?_)|refine YW rfl rfl rfl rfl ?_|refine C2 rfl rfl rfl rfl rfl rfl Aa rfl Aa Aa ?_|refine FP rfl (by decide +kernel) rfl rfl rfl rfl rfl Aa rfl Aa Aa ?_|apply B5|refine B8 ?_|refine Cl ?_|refine Cg ?_|refine Cf ?_|apply Cb|refine CC ?_|apply Cc|refine Cx ?_|refine Dd ?_|refine H4 ?_|refine Fl ?_|refine Fp ?_)
  exact Cj [Jg β Dq] (Ce (B7 rfl)) ⟨β,rfl,rfl⟩
end Go.Proofs.YtcnmnmjmpocepaaGreatDoor
end
section
namespace Go.Proofs.YtcnmnmjmpocepaaGreatDoor
open Go.SL
open Kd
structure SA where
  a:Nat
  σ:Fs
  K:B6
  H:B6
structure SG where
  j:Nat
  σ:Fs
  K:B6
  gv:Bool
  H:B6
  A:B6
  B:B6
attribute [local irreducible] SL.T C7 Dc C6 Db DS Du
theorem VM (p : Ql)(im:Im)(m:Me)(GJ:Nat)(VK:Fs)(K0:B6)(gu:m.code.length=p.n)(DE:p.n≤1000000):
    bO Tryz.prog 116 [] [.pointer (some ⟨GJ,0,none⟩)] [] (.scan 0 VK K0) (ON p im m GJ) (jq p im m GJ) jm (dw p im m) (jr p):=by
  intro L J Jd Jx hv WI hd hr H h0;refine Ch Tryz.func116 rfl (Nat.le_of_ble_eq_true rfl) fun F=> ?_
  have V0:=hv _ _ h0;haveI iB:J8 H GJ _:=⟨V0.box _ _ (CT _ _)⟩;haveI iP:J8 H p.Dq _:=⟨V0.ZX _ _ (CT _ _)⟩
  repeat' (first|apply B4|refine B3 0 BY Am ?_|refine B3 3 BY Ah ?_|refine B3 4 BY Ag ?_|refine B3 5 BY Al ?_|refine B0 ?_|apply B5|refine B8 ?_|refine Cf ?_)
  clear iB iP V0;refine CH (fun s:SA=> [(0,.func (.yield L) #[] #[]),(1,.pointer (some ⟨GJ,0,none⟩)),(13,i64 (p.n:Int)),(14,i64 (s.a:Int))])
    (fun s=> [s.H]) (fun s=>s.a≤p.n/\J (.scan s.a s.σ s.K) s.H) (fun s=>p.n - s.a) ⟨0,VK,K0,H⟩ (by repeat first|exact Sub.nil _|refine Sub.cons rfl ?_) ⟨Nat.zero_le _,h0⟩ ?_
  clear h0;rintro⟨a,σ,K,H⟩ ⟨ha,hJ⟩;dsimp only at ha hJ ⊢
  have V:=hv _ _ hJ;haveI iB:J8 H GJ _:=⟨V.box _ _ (CT _ _)⟩;haveI iP:J8 H p.Dq _:=⟨V.ZX _ _ (CT _ _)⟩;obtain⟨cs,XL,Wb,hF⟩:∃cs,Sl H p.fb cs/\Sl H p.hb (Dp σ)/\GF K σ cs:=V.cells;have hn:σ.length=p.n:=V.len;have hS:G7 σ:=V.CX;by_cases ak:a<p.n
  · obtain ⟨o,hs⟩:∃o,σ[a]?=some o:=⟨_,List.getElem?_eq_getElem Ab⟩;have Kl:cs.length=σ.length*2:=hF.1;have hhl:(Dp σ).length=p.n:=by simp [Dp,hn]
    have hkf:((a:Nat):Int).toNat*2<cs.length:=by simp;omega
    have hkh:((a:Nat):Int).toNat*1<(Dp σ).length:=by simp;omega
    cases o with
    | none=>
      have Xh:(Dp σ)[((a:Nat):Int).toNat*1]?=some (.bool false):=by simpa using F3 hs
      repeat' (first|apply B4|refine B3 0 BY Am ?_|refine Cs 2 BY Aj Ab ?_|refine Cn (fun β=> ?_)|refine Ck ?_|refine B0 ?_|apply B5|refine Cl ?_|refine Cf ?_|apply Cc)
      refine C5 Ac Ac rfl ?_
      repeat' (first|refine B3 0 BY Bs ?_|refine B3 1 BY Ap ?_|refine B3 3 BY AA ?_|refine B3 5 BY Al ?_|refine B0 ?_|apply B5|refine B8 ?_|refine Cl ?_|refine CC ?_)
      exact⟨rfl,⟨a+1,σ,K,H⟩,CA (by repeat first|exact Sub.nil _|refine Sub.cons rfl ?_),⟨ak,WI _ _ _ (.none hs ak) hJ⟩,by dsimp only;omega⟩
    | some g=>
      have Xh:(Dp σ)[((a:Nat):Int).toNat*1]?=some (.bool true):=by simpa using F3 hs
      obtain⟨d1,e1,d2,e2,q1,q2,q3,q4,q5⟩:=hF.2 a g hs;have P5:cs[((a:Nat):Int).toNat*2]?=some (.slice d1 g.1.length e1):=q1;have LD:cs[((a:Nat):Int).toNat*2+1]?=some (.slice d2 g.2.length e2):=q2;have hg:=hS g (List.mem_of_getElem? hs);have hct:=Mv σ;have FB:=fun own hk=>dE own K hk im p.DF p.mb d1 d2 p.DW p.EG p.mn p.mc g.1.length e1 g.2.length e2 p.mi (a:Int) g.1 g.2 V.cls V.ms q3 q4 rfl rfl Ab Ab q5
      cases Uv:Dv im p.mi (a:Int) g.1 g.2 with
      | inl c=>
        rw [Uv] at FB
        have hnz:c≠0:=by rcases V4 Uv with q|q <;>omega
        repeat' (first|apply B4|refine B3 0 BY Am ?_|refine Cs 2 BY Aj Ab ?_|refine Cn (fun β=> ?_)|refine Ck ?_|refine B0 ?_|apply B5|refine Cl ?_|refine Cf ?_|apply Cc)
        refine C5 Ac Ac rfl ?_
        repeat' (first|apply B4|refine B3 0 BY Bu ?_|refine B3 3 BY AA ?_|refine B3 5 BY Al ?_|apply B5|refine B8 ?_|refine Cg ?_|apply Cc)
        obtain⟨Io,rfl⟩:∃x,x=β:=⟨_,rfl⟩;refine Cu [.q [0,1,2,3,4,5,6,7,8,9,10,11,12,13,14,15],.an 20,.an 21,.h false 16,.q [17,18],.f [19],.rv 20,.rv 21,.h true 22,.h true 23] [H,Co Io (.cells ⟨[i64 (a:Int)]⟩ 3 (0,0))] Ac Ac Ac Ac ?_
        repeat' ((fail_if_success (refine Ea 6 ?_));(first|apply B4|refine B3 0 BY BR ?_|refine Cs 2 BY Av Ab ?_|refine B3 3 BY AZ ?_|refine B3 5 BY Al ?_|refine B0 ?_|refine Cz ?_|refine CQ rfl ?_|refine FD rfl ?_|refine Dg rfl rfl AK ?_|refine DL rfl rfl rfl (fun β=> ?_)|refine C2 rfl rfl rfl rfl rfl rfl Aa rfl Aa Aa ?_|(refine HA rfl rfl rfl rfl rfl rfl rfl rfl (FB _ ⟨H,by simp,V.kk⟩) ?_;rintro _ _ ⟨Kn,K',rfl,hKn,rfl⟩;refine⟨_,_,rfl,rfl,?_⟩)|apply B5|refine B8 ?_|refine Cl ?_))
        obtain⟨Ic,rfl⟩:∃x,x=β:=⟨_,rfl⟩;obtain⟨Fv,rfl⟩:∃x,x=β:=⟨_,rfl⟩;refine B4 ?_;have hyy:=hr _ H _ _ hJ ⟨g,c,Io,Fv,Ic,hs,Uv,ak,rfl,rfl⟩
        repeat' (first|refine B3 0 BY Bb ?_|refine B3 3 BY AD ?_|refine B0 ?_)
        refine KB (hs:= [H,SY Fv none none 0 0 0 0,Co Ic (.cells ⟨[i64 c]⟩ 34 (0,0)),Co Io (.cells ⟨[i64 (a:Int)]⟩ 3 (0,0))]) rfl rfl rfl (Og rfl rfl rfl rfl hyy) ?_;rintro v own' ⟨H',rfl,⟨rfl,s',hf,_⟩|⟨rfl,hJ'⟩⟩
        · exact hf.elim
        · refine⟨_,rfl,?_⟩
          repeat' (first|apply B5|refine B8 ?_|apply Cb|refine Cx ?_|refine Dd ?_)
          exact Cj [H'] CU ⟨rfl,H',rfl,.inr hJ'⟩
      | inr f =>
        rw [Uv] at FB
        haveI slC:Sl H p.cb (Nd.Cp (FH m.code)):=by rw [GA];exact V.code.mono V.kk
        repeat' (first|apply B4|refine B3 0 BY Am ?_|refine Cs 2 BY Aj Ab ?_|refine Cn (fun β=> ?_)|refine Ck ?_|refine B0 ?_|apply B5|refine Cl ?_|refine Cf ?_|apply Cc)
        refine C5 Ac Ac rfl ?_
        repeat' (first|apply B4|refine B3 0 BY Bu ?_|refine B3 3 BY AA ?_|refine B3 5 BY Al ?_|apply B5|refine B8 ?_|refine Cg ?_|apply Cc)
        obtain⟨Io,rfl⟩:∃x,x=β:=⟨_,rfl⟩;refine Cu [.q [0,1,2,3,4,5,6,7,8,9,10,11,12,13,14,15],.an 20,.an 21,.h false 16,.q [17,18],.f [19],.rv 20,.rv 21,.h true 22,.h true 23] [H,Co Io (.cells ⟨[i64 (a:Int)]⟩ 3 (0,0))] Ac Ac Ac Ac ?_
        repeat' (first|apply B4|refine B3 0 BY BR ?_|refine CE 2 BY Av Ab ?_|refine B3 3 BY AZ ?_|refine B3 5 BY Al ?_|refine B0 ?_|refine Cz ?_|refine CQ rfl ?_|refine FD rfl ?_|refine Dg rfl rfl AK ?_|refine DL rfl rfl rfl (fun β=> ?_)|refine C2 rfl rfl rfl rfl rfl rfl Aa rfl Aa Aa ?_|(refine HA rfl rfl rfl rfl rfl rfl rfl rfl (FB _ ⟨H,by simp,V.kk⟩) ?_;rintro _ _ ⟨Kn,K',rfl,hKn,b1,c1,b2,c2,rfl,r1,r2,r3⟩;refine⟨_,_,rfl,rfl,?_⟩)|apply B5|refine B8 ?_|refine Cg ?_|apply Cc)
        obtain⟨Ic,rfl⟩:∃x,x=β:=⟨_,rfl⟩;obtain⟨Fv,rfl⟩:∃x,x=β:=⟨_,rfl⟩;refine Cu [.q [0,1,2,3,4,7],.h false 5,.q [6]] [H,Co Io (.cells ⟨[i64 (a:Int)]⟩ 3 (0,0))] Ac Ac Ac Ac ?_
        repeat' (first|refine B3 0 BY Am ?_|refine B3 3 BY AF ?_|refine B3 4 BY Ag ?_|refine B3 5 BY Al ?_|refine Cz ?_|refine CQ rfl ?_|(refine HA rfl rfl rfl rfl rfl rfl rfl rfl (Nd.OP _ (.slice p.pb p.pn p.pc) p.lo p.st p.cb p.n p.cc (FH m.code) (a:Int) (by rw [Dk];exact gu) Ab) ?_;rintro _ _ ⟨hN,bN,cN,rfl,rfl,osN⟩;refine⟨_,_,rfl,rfl,?_⟩)|apply B5|refine B8 ?_|refine Cf ?_)
        have hfl:=Hv Uv;have hfs:=Ir Uv;have hJ1:J (.go a σ K f 0 Fv b1 b2 c1 c2 false) H:=WI _ _ _ (.step hs Uv ak) hJ
        generalize hL:Nd.GG (FH m.code) (a:Int)=N at osN ⊢
        have hL2:N.length≤2:=by rw [<-hL];exact Nd.HJ _ _
        haveI slN:=osN.sl;clear iB iP slC XL Wb hJ;refine CH (fun s:SG=> [(0,.func (.yield L) #[] #[]),(1,.pointer (some ⟨GJ,0,none⟩)),(13,i64 (p.n:Int)),(14,i64 (a:Int)),(4,.pointer (some ⟨Fv,0,none⟩)),(56,.slice bN N.length cN),(57,i64 (N.length:Int)),(58,i64 (s.j:Int))])
          (fun s=> [s.H,hN,s.A,s.B])
          (fun s=>s.j≤N.length/\J (.go a s.σ s.K f s.j Fv b1 b2 c1 c2 s.gv) s.H/\((s.gv=true/\s.A=emp/\s.B=emp)∨(s.gv=false/\s.K=K/\s.A=Kn/\s.B=SY Fv b1 b2 f.1.length f.2.length c1 c2))) (fun s=>N.length - s.j)
          ⟨0,σ,K,false,H,Kn,SY Fv b1 b2 f.1.length f.2.length c1 c2⟩ (by repeat first|exact Sub.nil _|refine Sub.cons rfl ?_) ⟨Nat.zero_le _,hJ1,.inr ⟨rfl,rfl,rfl,rfl⟩⟩ ?_
        clear hJ1;rintro⟨j,Rl,K1,gv,H1,A,B⟩ ⟨hj,hJ1,dT⟩;dsimp only at hj hJ1 dT ⊢
        have V1:=hv _ _ hJ1;haveI iB:J8 H1 GJ _:=⟨V1.box _ _ (CT _ _)⟩;haveI iP:J8 H1 p.Dq _:=⟨V1.ZX _ _ (CT _ _)⟩;by_cases hjL:j<N.length
        · obtain⟨t,ht⟩:∃z,N[j]?=some z:=⟨_,List.getElem?_eq_getElem hjL⟩;have hct2:(N.map i64)[((j:Nat):Int).toNat*1]?=some (i64 t):=by simp [ht]
          have hkj:((j:Nat):Int).toNat*1<(N.map i64).length:=by simp;omega
          by_cases Z9:0≤t
          · by_cases ir:t<p.n
            · have hyy:=hr _ H1 [i64 t,.func (.func 118) #[] #[.pointer (some ⟨Fv,0,none⟩)]] [A,B] hJ1 ⟨t,by rw [hL];exact ht,Z9,ir,rfl,by
                rcases dT with ⟨q1,q2,q3⟩|⟨q1,q2,q3,q4⟩
                · exact .inl ⟨q1,by rw [q2,q3]⟩
                · exact .inr ⟨q1,Kn,K',by rw [q3,q4],by rw [q2];exact hKn,r1,r2,r3⟩⟩
              repeat' (first|apply B4|refine B3 0 BY (by first|exact CS rfl rfl|exact CG rfl rfl|exact Ds rfl rfl rfl|exact DR rfl rfl rfl) ?_|refine Cs 2 BY AG Ab ?_|refine B3 3 BY AA ?_|refine B3 4 BY Ag ?_|refine B3 5 BY Al ?_|refine B0 ?_|apply B5|refine Cl ?_|refine Cf ?_|apply Cc)
              refine KB (hs:= [H1,A,B]) rfl rfl rfl (Og rfl rfl rfl rfl hyy) ?_;rintro v own' ⟨H',rfl,⟨rfl,s',⟨Dj,K2,rfl⟩,hJ'⟩|⟨rfl,hJ'⟩⟩ <;>refine⟨_,rfl,?_⟩
              · repeat' (first|refine B3 0 BY (by first|exact CS rfl rfl|exact Ds rfl rfl rfl|exact DU rfl rfl) ?_|refine B3 1 BY Ap ?_|refine B0 ?_|apply B5|refine B8 ?_|refine Cg ?_|apply Cc)
                exact⟨rfl,⟨j+1,Dj,K2,true,H',emp,emp⟩,Wp (by repeat first|exact Sub.nil _|refine Sub.cons rfl ?_),⟨hjL,hJ',.inl ⟨rfl,rfl,rfl⟩⟩,by dsimp only;omega⟩
              · repeat' (first|refine B3 0 BY (by first|exact Ds rfl rfl rfl|exact El rfl rfl) ?_|apply B5|refine B8 ?_|refine Cl ?_|apply Cb|refine Cx ?_|refine Dd ?_)
                exact Cj [H'] CU ⟨rfl,H',rfl,.inr hJ'⟩
            · have hJ2:=WI _ _ _ (.skip (p:=p) (im:=im) (m:=m) (by rw [hL];exact ht) (fun q=>ir q.2)) hJ1
              repeat' (first|apply B4|refine B3 0 BY (by first|exact CS rfl rfl|exact CG rfl rfl|exact Ds rfl rfl rfl|exact DK rfl rfl rfl|exact DR rfl rfl rfl) ?_|refine Cw 0 BZ ?_|refine B3 1 BY Ap ?_|refine Cs 2 BY AG Ab ?_|refine CE 2 BY Aj Ab ?_|refine B3 3 BY AA ?_|refine Cw 4 BZ ?_|refine B3 4 BY Ag ?_|refine B3 5 BY Al ?_|refine B0 ?_|apply B5|refine B8 ?_|refine Cl ?_|refine Cg ?_|refine Cf ?_|apply Cc)
              exact⟨rfl,⟨j+1,Rl,K1,gv,H1,A,B⟩,CA (by repeat first|exact Sub.nil _|refine Sub.cons rfl ?_),⟨hjL,hJ2,dT⟩,by dsimp only;omega⟩
          · have hJ2:=WI _ _ _ (.skip (p:=p) (im:=im) (m:=m) (by rw [hL];exact ht) (fun q=>Z9 q.1)) hJ1
            repeat' (first|apply B4|refine B3 0 BY BI ?_|refine Cw 0 BZ ?_|refine B3 1 BY Ap ?_|refine Cw 2 BZ ?_|refine Cs 2 BY AG Ab ?_|refine CE 2 BY AC Ab ?_|refine B3 3 BY (by first|exact DI rfl Aa rfl Aa|exact CD rfl rfl rfl Ab Ab Ab|exact D2 rfl Aa Ai Ad) ?_|refine Cw 3 BZ ?_|refine Cw 4 BZ ?_|refine Cw 5 BZ ?_|refine B0 ?_|apply B5|refine B8 ?_|refine Cl ?_|refine Cg ?_|refine Cf ?_|apply Cc)
            exact⟨rfl,⟨j+1,Rl,K1,gv,H1,A,B⟩,CA (by repeat first|exact Sub.nil _|refine Sub.cons rfl ?_),⟨hjL,hJ2,dT⟩,by dsimp only;omega⟩
        · have hJ2:=WI _ _ _ (.behind (p:=p) (im:=im) (m:=m) (by rw [hL];omega)) hJ1
          repeat' (first|apply B4|refine B3 0 BY Am ?_|refine B3 1 BY Ap ?_|refine CE 2 BY Aj Ab ?_|refine B0 ?_|apply B5|refine B8 ?_|refine Cg ?_|refine CC ?_)
          exact⟨rfl,⟨a+1,Rl,K1,H1⟩,CA (by repeat first|exact Sub.nil _|refine Sub.cons rfl ?_),⟨ak,hJ2⟩,by dsimp only;omega⟩
  · obtain rfl:a=p.n:=by omega
    repeat' (first|apply B4|refine CE 2 BY Aj Ab ?_|refine B0 ?_|apply B5|refine Cg ?_|refine CC ?_|refine Fl ?_|refine Fp ?_)
    exact GB [H] CU ⟨rfl,H,rfl,.inl (hd _ _ ⟨σ,K,rfl⟩ hJ)⟩
end Go.Proofs.YtcnmnmjmpocepaaGreatDoor
end
section
namespace Go.Proofs.YtcnmnmjmpocepaaGreatDoor
open Go.SL
open Kd
abbrev R8(Ic:Nat)(b:Bool):B6:=Co Ic (.cells ⟨[.bool b]⟩ 4 (0,0))
abbrev NM(DZ:Nat)(v:Value):B6:=Co DZ (.cells ⟨[v]⟩ 40 (0,0))
abbrev Kp(p:Ql)(M:B6)(DZ Ic Eu GJ:Nat)(b:Bool)(HF HH K:B6):List B6:= [M,NM DZ .nilIface,R8 Ic b,Jg Eu p.Dq,Jg GJ p.Dq,p.B,HF,HH,K]
structure W8(p:Ql)(K0:B6)(σ:Fs)(K HF HH:B6)(cs:List Value):Prop where
  le:hle K0 K
  IL:OS HF p.fb p.n p.n 59 2 cs
  IE:OS HH p.hb p.n p.n 4 1 (Dp σ)
  fr:GF K σ cs
  CX:G7 σ
  len:σ.length=p.n
section
variable (p:Ql) (im:Im) (m:Me) (M:B6) (DZ Ic Eu GJ:Nat) (VK:Fs) (K0:B6)
def Core:WS->List B6->Prop
  | .scan a σ K,o=>∃HF HH cs b,o=Kp p M DZ Ic Eu GJ b HF HH K/\W8 p K0 σ K HF HH cs/\D1 im p.mi (R6 m.code p.n) VK (List.range a) false= .ok (σ,b)
  | .go a σ K f j Fv b1 b2 c1 c2 gv,o=>∃HF HH cs b TG ba g,W8 p K0 σ K HF HH cs/\D1 im p.mi (R6 m.code p.n) VK (List.range a) false= .ok (TG,ba)/\a<p.n/\
      TG[a]?=some (some g)/\Dv im p.mi (a:Int) g.1 g.2= .inr f/\
      Gb TG f (((Nd.GG (FH m.code) (a:Int)).take j).filterMap fun t:Int=>if 0≤t/\t<p.n then some t.toNat else none) ba= .ok (σ,b)/\
      f.1.length≤65536/\f.2.length≤I2 TG/\I2 TG≤I2 σ/\TG.length=p.n/\
      ((gv=false/\o=Kp p M DZ Ic Eu GJ b HF HH K)∨(gv=true/\o=Kp p M DZ Ic Eu GJ b HF HH K++ [SY Fv b1 b2 f.1.length f.2.length c1 c2]/\Sl K b1 (f.1.map i64)/\Sl K b2 (f.2.map i64)/\f.2.length≤c2))
def JJ(s:WS)(own1:List B6):Prop:=∃Jo rest,own1.Perm (Jo++rest)/\Core p im m M DZ Ic Eu GJ VK K0 s Jo
variable {p im m M DZ Ic Eu GJ VK K0}
theorem WY(ET:Hk K0 im.cls p.DF p.DW)(HM:I6 K0 im.ms p.mb p.mn)(Hi:Sl K0 p.cb (Cp m.code)){s:WS}{own1:List B6}(h:JJ p im m M DZ Ic Eu GJ VK K0 s own1)(d:own1.Pairwise DM):ON p im m GJ s (CB own1):=by
  obtain⟨Jo,rest,hp,h⟩:=h;have go:∀(σ:Fs) (K HF HH:B6) (cs:List Value) (b:Bool),s.σ=σ->s.K=K->W8 p K0 σ K HF HH cs->(∀k∈Kp p M DZ Ic Eu GJ b HF HH K,k∈own1)->ON p im m GJ s (CB own1):=by
    intro σ K HF HH cs b e1 e2 hf hk;have l:∀k∈Kp p M DZ Ic Eu GJ b HF HH K,hle k (CB own1):=fun k q=>DV d (hk k q)
    refine⟨l _ Ak,l _ Ak,by rw [e2];exact l _ Ak,?_,by rw [e2];exact ET.mono hf.le,by rw [e2];exact HM.mono hf.le,by rw [e2];exact Hi.mono hf.le,by rw [e1];exact hf.len,by rw [e1];exact hf.CX⟩;rw [e1,e2];exact⟨cs,hf.IL.sl.mono (l _ Ak),hf.IE.sl.mono (l _ Ak),hf.fr⟩
  have hm:∀k∈Jo,k∈own1:=fun k q=>hp.mem_iff.2 (List.mem_append_left _ q)
  cases s with
  | scan a σ K=>
    obtain⟨HF,HH,cs,b,rfl,hf,_⟩:=h;exact go σ K HF HH cs b rfl rfl hf hm
  | go a σ K f j Fv b1 b2 c1 c2 gv=>
    obtain⟨HF,HH,cs,b,TG,ba,g,hf, -, -, -, -, -, -, -, -, -,h⟩:=h;refine go σ K HF HH cs b rfl rfl hf fun k q=>hm k ?_
    rcases h with ⟨_,rfl⟩|⟨_,rfl,_⟩
    · exact q
    · exact List.mem_append_left _ q
theorem aD{s s':WS}{own1:List B6}(hm:dw p im m s s')(h:JJ p im m M DZ Ic Eu GJ VK K0 s own1):JJ p im m M DZ Ic Eu GJ VK K0 s' own1:=by
  obtain⟨Jo,rest,hp,h⟩:=h;cases hm with
  | @none a σ K hs ha=>
    obtain⟨HF,HH,cs,b,rfl,hf,hr⟩:=h;exact⟨_,rest,hp,HF,HH,cs,b,rfl,hf,by rw [List.range_succ,Jn,hr];simp only [Fw,hs]⟩
  | @step a σ K g f Fv b1 b2 c1 c2 hs FB ha=>
    obtain⟨HF,HH,cs,b,rfl,hf,hr⟩:=h;have hg:=hf.CX g (List.mem_of_getElem? hs);have l1:=Hv FB;have l2:=Ir FB;exact⟨_,rest,hp,HF,HH,cs,b,σ,b,g,hf,hr,ha,hs,FB,rfl,by omega,by omega,Nat.le_refl _,hf.len,.inl ⟨rfl,rfl⟩⟩
  | @skip a σ K f j Fv b1 b2 c1 c2 gv t ht ag=>
    obtain⟨HF,HH,cs,b,TG,ba,g,hf,q1,q2,q3,q4,q5,q6⟩:=h;refine⟨_,rest,hp,HF,HH,cs,b,TG,ba,g,hf,q1,q2,q3,q4,?_,q6⟩;rw [MR ht,if_neg ag,List.append_nil];exact q5
  | @behind a σ K f j Fv b1 b2 c1 c2 gv hj=>
    obtain⟨HF,HH,cs,b,TG,ba,g,hf,q1,q2,q3,q4,q5, -, -, -, -,q6⟩:=h;subst hj;rw [List.take_length] at q5
    have hr:D1 im p.mi (R6 m.code p.n) VK (List.range (a+1)) false= .ok (σ,b):=by
      rw [List.range_succ,Jn,q1];simp only [Fw,q3,q4];exact q5
    rcases q6 with ⟨_,rfl⟩|⟨_,rfl,_⟩
    · exact⟨_,rest,hp,HF,HH,cs,b,rfl,hf,hr⟩
    · exact⟨Kp p M DZ Ic Eu GJ b HF HH K,[SY Fv b1 b2 f.1.length f.2.length c1 c2]++rest,by rw [<-List.append_assoc];exact hp,HF,HH,cs,b,rfl,hf,hr⟩
end
def mR(p:Ql)(im:Im)(m:Me)(M:B6)(DZ:Nat)(VK:Fs)(K0:B6)(c:Code)(own1:List B6):Prop:=
  c= .ret/\∃HF HH K D6 e a,own1= [M,NM DZ (Ka D6),p.B,HF,HH,K,D8 D6 e p.mi a]/\hle K0 K/\D1 im p.mi (R6 m.code p.n) VK (List.range p.n) false= .error (e,a)
theorem VW{P:Program}{r:Option Nat}{F:B6}{n:Nat}{c:Code}{Q:C4}{env:Env}{own1 Jo rest Ws A:List B6}{ds:List Deferred}{K FR:B6}{R:B6->Prop}
    (hp:own1.Perm (Jo++rest))
    (hw:(Jo=A++ [K]++ [FR]/\R K)∨(Jo=A++ [K]/\∃Kn,Ws= [Kn,FR]/\∀K3,hle K K3->hle Kn K3->R K3))
    (h:∀K3,hle K K3->R K3->Db P r F n c Q env (K3::FR::A) ds):Db P r F n c Q env (own1++Ws) ds:=by
  refine M8 (RG hp) ?_;rcases hw with ⟨rfl,hR⟩|⟨rfl,Kn,rfl,hR⟩
  · refine M8 (own':=K::FR::A) (fun w s=> ?_) (h K (hle.refl _) hR);refine(s.perm (List.Perm.cons F (?_:List.Perm _ ((K::FR::A)++Ws)))).sub (List.Sublist.cons_cons F (List.sublist_append_left _ _));refine List.Perm.append_right Ws ?_;rw [List.append_assoc];exact List.perm_append_comm
  · intro a w ha hd s;have s2:Sat ([K,Kn]++(FR::(A++ [F]))) w:=s.perm (by
      have e:(F::((A++ [K])++ [Kn,FR])).Perm ((A++ [F])++ [K,Kn,FR]):=by
        have:(F::((A++ [K])++ [Kn,FR]))= [F]++A++ [K,Kn,FR]:=by simp
        rw [this];exact List.Perm.append_right _ List.perm_append_comm
      exact e.trans List.perm_append_comm)
    have d: [K,Kn].Pairwise DM:=(List.pairwise_append.1 s2.dj).1;have l1:hle K (CB [K,Kn]):=DV d Ak;have l2:hle Kn (CB [K,Kn]):=DV d Ak;refine h (CB [K,Kn]) l1 (hR _ l1 l2) a w ha hd (s2.CB.perm ?_);have:(CB [K,Kn]::FR::(A++ [F]))=(CB [K,Kn]::FR::A)++ [F]:=by simp
    rw [this];exact List.perm_append_comm (l₁:=CB [K,Kn]::FR::A) (l₂:= [F])
attribute [local irreducible] SL.T C7 Dc C6 Db DS Du
theorem UF(Fv:Nat)(b1 b2:Option Addr)(n1 n2 c1 c2:Nat):C7 Tryz.prog 118 [.pointer (some ⟨Fv,0,none⟩)] [SY Fv b1 b2 n1 n2 c1 c2] (.tuple #[fr b1 b2 n1 n2 c1 c2,.nilIface]):=by
  refine Ci Tryz.func118 rfl (Nat.le_of_ble_eq_true rfl) fun F=> ?_
  repeat' (first|apply B4|refine B3 0 BY Au ?_|refine B3 3 BY Az ?_|refine Cn (fun β=> ?_)|refine Ck ?_|refine B0 ?_|apply B5|refine B8 ?_|apply Cb)
  exact Cj [SY Fv b1 b2 n1 n2 c1 c2] (Ct (Cv rfl rfl rfl rfl) (B7 rfl)) ⟨rfl,rfl⟩
theorem aq(p:Ql)(Fv GJ Ic Io:Nat)(c a:Int):SL.T Tryz.prog 117 [.pointer (some ⟨Fv,0,none⟩),.pointer (some ⟨GJ,0,none⟩),.pointer (some ⟨Ic,0,none⟩),.pointer (some ⟨Io,0,none⟩)]
    [SY Fv none none 0 0 0 0,Jg GJ p.Dq,Co Ic (.cells ⟨[i64 c]⟩ 34 (0,0)),Co Io (.cells ⟨[i64 a]⟩ 3 (0,0)),p.B] fun e o=>
      ∃D6,e= .returned (.tuple #[Kk,Ka D6])/\o= [p.B,D8 D6 c p.mi a]:=by
  have hfl:=H8 p.Dq p.pb p.pn p.pc p.lo p.st p.cb p.n p.cc p.DF p.DW p.EG p.mb p.mn p.mc p.mi p.fb p.hb p.n c a;refine Ch Tryz.func117 rfl (Nat.le_of_ble_eq_true rfl) fun F=> ?_
  repeat' (first|apply B4|refine B3 0 BY Au ?_|refine Cn (fun β=> ?_)|refine B0 ?_|apply B5)
  refine Cu [.q [0,1,2,3],.h false 4,.h true 5,.q [6]] [SY Fv none none 0 0 0 0,Jg GJ p.Dq,Co Ic (.cells ⟨[i64 c]⟩ 34 (0,0)),Co Io (.cells ⟨[i64 a]⟩ 3 (0,0))] Ac Ac Ac Ac ?_
  repeat' (first|refine B3 0 BY Au ?_|refine B3 3 BY AR ?_|refine Cz ?_|refine CQ rfl ?_|refine C2 rfl rfl rfl rfl rfl rfl Aa rfl Aa Aa ?_|(refine D0 rfl rfl rfl rfl rfl rfl rfl rfl (hfl) (by rintro _ _ ⟨D6,rfl,rfl⟩;exact⟨_,rfl⟩) ?_;rintro _ _ ⟨D6,rfl,rfl⟩;refine⟨_,_,rfl,rfl,?_⟩)|apply B5|refine B8 ?_|apply Cb)
  exact Cj [p.B,D8 D6 c p.mi a] (Ct (Cv rfl rfl rfl rfl) (B7 rfl)) ⟨D6,rfl,rfl⟩
end Go.Proofs.YtcnmnmjmpocepaaGreatDoor
end
