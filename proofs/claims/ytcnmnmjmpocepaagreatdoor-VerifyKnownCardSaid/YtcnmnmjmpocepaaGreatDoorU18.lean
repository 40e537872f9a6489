
import Derived.Test.YtcnmnmjmpocepaaGreatDoorU00
import Derived.Test.YtcnmnmjmpocepaaGreatDoorU11
import Derived.Test.YtcnmnmjmpocepaaGreatDoorU17
import Derived.Test.YtcnmnmjmpocepaaGreatDoorU09
set_option linter.unusedVariables false
set_option linter.unusedSimpArgs false
set_option linter.unusedSectionVars false
set_option maxRecDepth 100000
set_option maxHeartbeats 16000000
section
namespace Go.Proofs.YtcnmnmjmpocepaaGreatDoor.Kd
open Go.SL
attribute [local irreducible] SL.T C7 Dc C6 Db DS Du Jh
open Classical in
noncomputable def Dv(im:Im)(mi at_:Int)(loc CX:List Int):Int ⊕ (List Int×List Int):=
  if FF im.ms mi then match im.ms[mi.toNat]? with
  |none=> .inl 8
  | some m=>if FF m.code at_ then match m.code[at_.toNat]? with
    |none=> .inl 8
    | some y=>match rowOf im m loc y.op y.a y.b with
      |none=> .inl 8
      | some r=>if r.is=false then .inl 8
        else if CX.length<r.take.length∨¬H6 (CX.drop (CX.length - r.take.length)) r.take∨ -1∈r.put then .inl 9
        else if m.st<((CX.length - r.take.length+r.put.length:Nat):Int) then .inl 9
        else .inr (if y.op=3 then loc.set y.a.toNat (CX.getD (CX.length - r.take.length) 0) else loc,CX.take (CX.length - r.take.length)++r.put)
    else .inl 8
  else .inl 8
def VI(K:B6)(res:Int ⊕ (List Int×List Int))(e:Ending)(o:List B6):Prop:=
  ∃K',o= [K']/\hle K K'/\match res with
  | .inl c=>e= .returned (.tuple #[Kk,i64 c])
  | .inr (l,s)=>∃b1 c1 b2 c2,e= .returned (.tuple #[fr b1 b2 l.length s.length c1 c2,i64 0])/\Sl K' b1 (l.map i64)/\Sl K' b2 (s.map i64)/\s.length≤c2
theorem Py{args:List Value}{K:B6}{c:Int}(h:C7 Tryz.prog 20 args [K] (.tuple #[Kk,i64 c])):SL.T Tryz.prog 20 args [K] (VI K (.inl c)):=
  h.T.mono fun e o ⟨h1,h2⟩=>⟨K,h2,hle.refl _,h1⟩
theorem dD(K:B6)(im:Im)(DF mb lb sb:Option Addr)(DW EG mn mc ln lc sn sc:Nat)(mi at_:Int)(loc CX:List Int)(ET:Hk K im.cls DF DW)(HM:I6 K im.ms mb mn)
    (h:¬(0≤mi/\mi<mn)):C7 Tryz.prog 20 [.agg ⟨[.slice DF DW EG,.slice mb mn mc]⟩,i64 mi,fr lb sb ln sn lc sc,i64 at_] [K] (.tuple #[Kk,i64 8]):=by
  obtain⟨CY,h1,h2,h3,h4,h5⟩:=HM;have h0:¬(0≤at_/\at_<((0:Nat):Int)):=by omega
  refine Ci Tryz.func20 rfl (Nat.le_of_ble_eq_true rfl) fun F=> ?_
  repeat' (first|apply B4|refine B3 0 BY A2 ?_|refine B3 3 BY Ah ?_|refine B3 4 BY (Ca rfl rfl rfl rfl rfl (VE [K] _ _ _ _ h4 h)) ?_|refine B3 4 BY (Ca rfl rfl rfl rfl rfl (Rf [K] _ 0 _ _ Ab h0)) ?_|refine B3 5 BY Ar ?_|refine CF (fun β=> ?_)|refine Cn (fun β=> ?_)|refine Ck ?_|refine B0 ?_|apply B5|refine B8 ?_|refine Cl ?_|apply Cb|refine Cx ?_)
  exact Cr (Ct (Cv rfl rfl rfl rfl) (B7 rfl)) rfl
theorem dz(K:B6)(im:Im)(DF mb lb sb:Option Addr)(DW EG mn mc ln lc sn sc:Nat)(mi at_:Int)(loc CX:List Int)(ET:Hk K im.cls DF DW)(HM:I6 K im.ms mb mn)(m:Me)
    (h:0≤mi/\mi<mn) (hm:im.ms[mi.toNat]?=some m) (ha:¬(0≤at_/\at_<m.code.length)):C7 Tryz.prog 20 [.agg ⟨[.slice DF DW EG,.slice mb mn mc]⟩,i64 mi,fr lb sb ln sn lc sc,i64 at_] [K] (.tuple #[Kk,i64 8]):=by
  obtain⟨CY,h1,h2,h3,h4,h5⟩:=HM;obtain⟨pb,pn,pc,cb,cn,cc,g1,g2,g3,g4,g5,g6,g7,g8,g9,g10⟩:=h5 _ _ hm;haveI:=h1;haveI:=g8;rw [g9] at ha
  refine Ci Tryz.func20 rfl (Nat.le_of_ble_eq_true rfl) fun F=> ?_
  repeat' (first|apply B4|refine B3 0 BY A2 ?_|refine B3 3 BY Ah ?_|refine B3 4 BY (Ca rfl rfl rfl rfl rfl (JL [K] _ _ _ CY _ _ _ _ _ h2 h4 h ⟨g1,g2,g3,g4⟩ rfl)) ?_|refine B3 4 BY (Ca rfl rfl rfl rfl rfl (Rf [K] _ _ _ _ g10 ha)) ?_|refine B3 5 BY Ar ?_|refine CF (fun β=> ?_)|refine Cn (fun β=> ?_)|refine Ck ?_|refine B0 ?_|apply B5|refine B8 ?_|refine Cl ?_|apply Cb|refine Cx ?_)
  exact Cr (Ct (Cv rfl rfl rfl rfl) (B7 rfl)) rfl
theorem dC(K:B6)(im:Im)(DF mb lb sb:Option Addr)(DW EG mn mc ln lc sn sc:Nat)(mi at_:Int)(loc CX:List Int)(ET:Hk K im.cls DF DW)(HM:I6 K im.ms mb mn) [ZH:Sl K lb (loc.map i64)] [Wc:Sl K sb (CX.map i64)](hl:loc.length=ln)(hs:CX.length=sn)(WL:ln≤4000000)(WE:sn≤4000000)(m:Me)(y:Ins)
    (h:0≤mi/\mi<mn) (hm:im.ms[mi.toNat]?=some m) (ha:0≤at_/\at_<m.code.length) (hy:m.code[at_.toNat]?=some y) (hr:rowOf im m loc y.op y.a y.b=none):
    SL.T Tryz.prog 20 [.agg ⟨[.slice DF DW EG,.slice mb mn mc]⟩,i64 mi,fr lb sb ln sn lc sc,i64 at_] [K] (VI K (.inl 8)):=by
  have hms':=HM;obtain⟨CY,h1,h2,h3,h4,h5⟩:=HM;obtain⟨pb,pn,pc,cb,cn,cc,g1,g2,g3,g4,g5,g6,g7,g8,g9,g10⟩:=h5 _ _ hm;haveI:=h1;haveI:=g8;rw [g9] at ha
  have ok:JM K ⟨y.op,y.a,y.b,DF,DW,EG,mb,mn,mc,pb,pn,pc,m.lo,m.st,cb,cn,cc,lb,ln,lc,sb,sn,sc⟩ im m loc:=⟨ET,hms',g8,g9,g10,ZH,hl,WL⟩;refine Ch Tryz.func20 rfl (Nat.le_of_ble_eq_true rfl) fun F=> ?_
  repeat' (first|apply B4|refine B3 0 BY AL ?_|refine B3 3 BY Ah ?_|refine B3 4 BY (Ca rfl rfl rfl rfl rfl (JL [K] _ _ _ CY _ _ _ _ _ h2 h4 h ⟨g1,g2,g3,g4⟩ rfl)) ?_|refine B3 4 BY (Ca rfl rfl rfl rfl rfl (OM [K] _ _ _ m.code _ y g9 g10 ha hy)) ?_|refine CF (fun β=> ?_)|refine Cn (fun β=> ?_)|refine Ck ?_|refine B0 ?_|apply B5|refine B8 ?_|refine Cg ?_|apply Cc)
  refine Cu [.q [0,1,2,3,4,6,7],.h false 5,.q [8,9,10,11,12,13]] [] Ac Ac Ac Ac ?_
  repeat' (first|refine Cq rfl rfl rfl (Mf mp rfl rfl rfl hf) ?_|apply B4|refine B3 0 BY A2 ?_|refine B3 3 BY AF ?_|refine B3 5 BY Ar ?_|refine Ck ?_|refine B0 ?_|refine Cz ?_|refine CQ rfl ?_|(refine D0 rfl rfl rfl rfl rfl rfl rfl rfl (Vy K _ im m loc ok) (by rintro _ _ ⟨Kn,hM,bm,f,K',rfl,hKn,rfl,mp,tab⟩;exact⟨_,rfl⟩) ?_;rintro _ _ ⟨Kn,hM,bm,f,K',rfl,hKn,rfl,mp,tab⟩;have hf:=tab y.op;simp only [hr] at hf;refine⟨_,_,rfl,rfl,?_⟩)|apply B5|refine B8 ?_|refine Cl ?_|apply Cb|refine Cx ?_)
  exact Cj [K] (Ct (Cv rfl rfl rfl rfl) (B7 rfl)) ⟨K,rfl,hle.refl _,rfl⟩
def Za(K:B6)(res:Int ⊕ (List Int×List Int))(e:Ending)(N:List B6):Prop:=(∃k∈N,hle K k)/\match res with
  | .inl c=>e= .returned (.tuple #[Kk,i64 c])
  | .inr (l,s)=>∃b1 c1 b2 c2,e= .returned (.tuple #[fr b1 b2 l.length s.length c1 c2,i64 0])/\C0 N b1 (l.map i64)/\C0 N b2 (s.map i64)/\s.length≤c2
theorem V2{args:List Value}{K:B6}{res:Int ⊕ (List Int×List Int)}(h:SL.T Tryz.prog 20 args [K] (Za K res)):SL.T Tryz.prog 20 args [K] (VI K res):=by
  refine(Ib (R:=fun e A N=>A= []/\Za K res e N) (h.mono fun e o hR=>⟨[],o,by simp,rfl,hR⟩)).mono ?_;rintro e o ⟨A,N,K',rfl,hK,rfl,⟨k,hk,hle0⟩,hR⟩;refine⟨K',rfl,hle0.trans (hK k hk),?_⟩;cases res with
  |inl c=>exact hR
  | inr p=>
    obtain⟨l,s⟩:=p;obtain⟨b1,c1,b2,c2,h1,h2,h3,h4⟩:=hR;exact⟨b1,c1,b2,c2,h1,h2.Y1 hK,h3.Y1 hK,h4⟩
open Classical in
noncomputable def Es(m:Me)(y:Ins)(loc CX:List Int)(r:Row):Int ⊕ (List Int×List Int):=
  if r.is=false then .inl 8
  else if CX.length<r.take.length∨¬H6 (CX.drop (CX.length - r.take.length)) r.take∨ -1∈r.put then .inl 9
  else if m.st<((CX.length - r.take.length+r.put.length:Nat):Int) then .inl 9
  else .inr (if y.op=3 then loc.set y.a.toNat (CX.getD (CX.length - r.take.length) 0) else loc,CX.take (CX.length - r.take.length)++r.put)
section
variable {m:Me} {y:Ins} {loc CX take put:List Int} {lf:Nat}
theorem Y5(h:CX.length<take.length):Es m y loc CX ⟨true,take,put⟩= .inl 9:=by
  simp only [Es];rw [if_neg Ak,if_pos (.inl h)]
theorem Y4(e:CX.length - take.length=lf)(h:¬H6 (CX.drop lf) take):Es m y loc CX ⟨true,take,put⟩= .inl 9:=by
  subst e;simp only [Es];rw [if_neg Ak,if_pos (.inr (.inl h))]
theorem Tr(h: -1∈put):Es m y loc CX ⟨true,take,put⟩= .inl 9:=by
  simp only [Es];rw [if_neg Ak,if_pos (.inr (.inr h))]
theorem Y3(e:CX.length - take.length=lf)(h0:¬CX.length<take.length)(h1:H6 (CX.drop lf) take)(h2: -1∉put)(h3:m.st<((lf+put.length:Nat):Int)):Es m y loc CX ⟨true,take,put⟩= .inl 9:=by
  subst e;simp only [Es];rw [if_neg Ak,if_neg (by rintro(h|h|h) <;>contradiction),if_pos h3]
theorem Y2(e:CX.length - take.length=lf)(h0:¬CX.length<take.length)(h1:H6 (CX.drop lf) take)(h2: -1∉put)(h3:¬m.st<((lf+put.length:Nat):Int)):
    Es m y loc CX ⟨true,take,put⟩= .inr (if y.op=3 then loc.set y.a.toNat (CX.getD lf 0) else loc,CX.take lf++put):=by
  subst e;simp only [Es];rw [if_neg Ak,if_neg (by rintro(h|h|h) <;>contradiction),if_neg h3]
end
theorem dA (K : B6)(im:Im)(DF mb lb sb:Option Addr)(DW EG mn mc ln lc sn sc:Nat)(mi at_:Int)(loc CX:List Int)(ET:Hk K im.cls DF DW)(HM:I6 K im.ms mb mn) [ZH:Sl K lb (loc.map i64)] [Wc:Sl K sb (CX.map i64)](hl:loc.length=ln)(hs:CX.length=sn)(WL:ln≤4000000)(WE:sn≤2000000)(gp:sn≤sc)(m:Me)(y:Ins)
    (h:0≤mi/\mi<mn) (hm:im.ms[mi.toNat]?=some m) (ha:0≤at_/\at_<m.code.length) (hy:m.code[at_.toNat]?=some y) (r:Row) (hr:rowOf im m loc y.op y.a y.b=some r) (iw:r.take.length≤4000000/\r.put.length≤2000000):
    SL.T Tryz.prog 20 [.agg ⟨[.slice DF DW EG,.slice mb mn mc]⟩,i64 mi,fr lb sb ln sn lc sc,i64 at_] [K] (Za K (Es m y loc CX r)):=by
  obtain⟨is,take,put⟩:=r;have hms':=HM;obtain⟨CY,h1,h2,h3,h4,h5⟩:=HM;obtain⟨pb,pn,pc,cb,cn,cc,g1,g2,g3,g4,g5,g6,g7,g8,g9,g10⟩:=h5 _ _ hm;haveI:=h1;haveI:=g8;rw [g9] at ha
  have ok:JM K ⟨y.op,y.a,y.b,DF,DW,EG,mb,mn,mc,pb,pn,pc,m.lo,m.st,cb,cn,cc,lb,ln,lc,sb,sn,sc⟩ im m loc:=⟨ET,hms',g8,g9,g10,ZH,hl,WL⟩;refine Ch Tryz.func20 rfl (Nat.le_of_ble_eq_true rfl) fun F=> ?_
  repeat' (first|apply B4|refine B3 0 BY AL ?_|refine B3 3 BY Ah ?_|refine B3 4 BY (Ca rfl rfl rfl rfl rfl (JL [K] _ _ _ CY _ _ _ _ _ h2 h4 h ⟨g1,g2,g3,g4⟩ rfl)) ?_|refine B3 4 BY (Ca rfl rfl rfl rfl rfl (OM [K] _ _ _ m.code _ y g9 g10 ha hy)) ?_|refine CF (fun β=> ?_)|refine Cn (fun β=> ?_)|refine Ck ?_|refine B0 ?_|apply B5|refine B8 ?_|refine Cg ?_|apply Cc)
  refine Cu [.q [0,1,2,3,4,6,7],.h false 5,.q [8,9,10,11,12,13]] [] Ac Ac Ac Ac ?_
  repeat' ((fail_if_success (refine U6 6 ?_));(first|refine Cq rfl rfl rfl (Dx mp rfl rfl rfl hf) ?_|refine B3 0 BY AB ?_|refine B3 3 BY AF ?_|refine B3 5 BY Ar ?_|refine Cz ?_|refine CQ rfl ?_|(refine D0 rfl rfl rfl rfl rfl rfl rfl rfl (Vy K _ im m loc ok) (by rintro _ _ ⟨Kn,hM,bm,f,K',rfl,hKn,rfl,mp,tab⟩;exact⟨_,rfl⟩) ?_;rintro _ _ ⟨Kn,hM,bm,f,K',rfl,hKn,rfl,mp,tab⟩;have hf:=tab y.op;simp only [hr] at hf;obtain⟨g,first,cap,all,l7,hf,iS,Kc⟩:=hf;have hrow2:=fun K2 (q1:hle K K2) (q2:hle Kn K2)=>Kc.more (hKn K2 q1 q2);refine⟨_,_,rfl,rfl,?_⟩)|apply B5))
  refine JO [K,Kn] fun K2 iV=> ?_
  have gq:=hrow2 K2 (iV K Ak) (iV Kn Ak);have lK2:hle K K2:=iV K Ak;clear hrow2 Kc hKn tab ok
  repeat' ((fail_if_success (refine U6 10 ?_));(first|apply B4|refine B3 0 BY (by first|exact CS rfl rfl|exact CG rfl rfl|exact DU rfl rfl|exact Ng rfl rfl) ?_|refine B3 1 BY Aw ?_|refine B3 3 BY Ah ?_|refine B3 4 BY Ag ?_|(refine gk 4 rfl ?_;(refine B9 rfl rfl rfl rfl rfl rfl rfl iS gq ?_;rintro _ _ ⟨K3,rfl,lK3,tb,tn,tc,qb,qn,qc,rfl,slt,slq,Em,hlq⟩;refine⟨_,_,rfl,rfl,?_⟩))|refine Cn (fun β=> ?_)|refine Ck ?_|refine B0 ?_|apply B5|refine B8 ?_|refine Cg ?_|refine Cf ?_|apply Cc))
  have lK:hle K K3:=lK2.trans lK3;haveI:=slt;haveI:=slq;dsimp only at slt slq Em hlq iw
  obtain⟨nE,nF⟩:=iw;cases is with
  | false=>
    rw [show Es m y loc CX ⟨false,take,put⟩= .inl 8 from by simp [Es]]
    repeat' (first|apply B4|refine B3 0 BY Au ?_|refine B3 5 BY Ar ?_|refine Ck ?_|refine B0 ?_|apply B5|refine B8 ?_|refine Cl ?_|apply Cb|refine Cx ?_|refine Dd ?_)
    exact Cj [K3] (Ct (Cv rfl rfl rfl rfl) (B7 rfl)) ⟨⟨K3,by simp,lK⟩,rfl⟩
  | true=>
    by_cases hB:sn<tn
    · rw [Y5 Ab]
      repeat' (first|apply B4|refine Cg ?_)
      refine C5 Ac Ac rfl ?_
      repeat' (first|apply B4|refine B3 0 BY AJ ?_|refine Cw 0 BZ ?_|refine Cs 2 BY Aj Ab ?_|refine Cw 3 BZ ?_|refine Cw 4 BZ ?_|refine B3 5 BY Ar ?_|refine Cw 5 BZ ?_|refine Ck ?_|refine B0 ?_|apply B5|refine B8 ?_|refine Cl ?_|apply Cb|refine Cx ?_|refine Dd ?_)
      exact Cj [K3] (Ct (Cv rfl rfl rfl rfl) (B7 rfl)) ⟨⟨K3,by simp,lK⟩,rfl⟩
    · obtain ⟨lf,gy⟩:∃lf:Nat,(sn:Int) - (tn:Int)=(lf:Int):=⟨sn - tn,by omega⟩;haveI slS:Sl K3 (sub sb ((lf:Nat):Int).toNat sc 1) ((CX.drop lf).map i64):=by
        have:=(Wc.mono lK).drop lf sc 1 Aq;rw [Nat.mul_one,<-List.map_drop] at this
        exact this
      have hdl:(CX.drop lf).length=sn - ((lf:Nat):Int).toNat:=by rw [List.length_drop,hs];rfl
      obtain⟨b,hb,hE⟩:=M7 [K3] (sub sb ((lf:Nat):Int).toNat sc 1) tb (sn - ((lf:Nat):Int).toNat) tn (sc - ((lf:Nat):Int).toNat) tc (CX.drop lf) take hdl Em Ab;have hC:=EF [K3] qb qn qc put (-1) hlq Ab;have elf:CX.length - take.length=lf:=by omega
      cases b with
      | false=>
        rw [Y4 elf (fun q=>by have:=hb.2 q;cases this)];rw [gy]
        repeat' (first|apply B4|refine Cg ?_)
        refine C5 Ac Ac rfl ?_
        repeat' (first|apply B4|refine B3 0 BY Br ?_|refine CE 2 BY Aj Ab ?_|refine B3 3 BY Ah ?_|refine Cw 3 BZ ?_|refine Cw 4 BZ ?_|refine B3 4 BY (Ca rfl rfl rfl rfl rfl (hE)) ?_|refine B3 5 BY BF ?_|refine Ck ?_|refine B0 ?_|apply B5|refine B8 ?_|refine Cl ?_|apply Cb|refine Cx ?_|refine Dd ?_)
        exact Cj [K3] (Ct (Cv rfl rfl rfl rfl) (B7 rfl)) ⟨⟨K3,by simp,lK⟩,rfl⟩
      | true=>
        by_cases hD: -1∈put
        · rw [Tr hD];rw [decide_eq_true hD] at hC
          rw [gy]
          repeat' (first|apply B4|refine Cg ?_)
          refine C5 Ac Ac rfl ?_
          repeat' (first|apply B4|refine B3 0 BY AY ?_|refine CE 2 BY Aj Ab ?_|refine B3 3 BY Ah ?_|refine B3 4 BY (Ca rfl rfl rfl rfl rfl (hE)) ?_|refine B3 4 BY (Ca rfl rfl rfl rfl rfl (hC)) ?_|refine B3 5 BY BF ?_|refine Ck ?_|refine B0 ?_|apply B5|refine B8 ?_|refine Cl ?_|apply Cb|refine Cx ?_|refine Dd ?_)
          exact Cj [K3] (Ct (Cv rfl rfl rfl rfl) (B7 rfl)) ⟨⟨K3,by simp,lK⟩,rfl⟩
        · rw [decide_eq_false hD] at hC
          by_cases hx:m.st<((lf+put.length:Nat):Int)
          · rw [Y3 elf Ab (hb.1 rfl) hD hx];rw [gy]
            repeat' (first|apply B4|refine Cg ?_)
            refine C5 Ac Ac rfl ?_
            repeat' (first|apply B4|refine B3 0 BY AY ?_|refine B3 1 BY Ap ?_|refine Cs 2 BY Bc Ab ?_|refine CE 2 BY Aj Ab ?_|refine B3 3 BY Ah ?_|refine B3 4 BY Ag ?_|refine B3 4 BY (Ca rfl rfl rfl rfl rfl (hE)) ?_|refine B3 4 BY (Ca rfl rfl rfl rfl rfl (hC)) ?_|refine B3 5 BY BF ?_|refine Ck ?_|refine B0 ?_|apply B5|refine B8 ?_|refine Cl ?_|refine Cg ?_|apply Cb|refine Cx ?_|refine Dd ?_)
            exact Cj [K3] (Ct (Cv rfl rfl rfl rfl) (B7 rfl)) ⟨⟨K3,by simp,lK⟩,rfl⟩
          · rw [Y2 elf Ab (hb.1 rfl) hD hx];haveI slL:=ZH.mono lK;rw [gy]
            repeat' (first|apply B4|refine Cg ?_)
            refine C5 Ac Ac rfl ?_
            repeat' (first|apply B4|refine B3 0 BY AY ?_|refine B3 1 BY Ap ?_|refine CE 2 BY Bc Ab ?_|refine B3 3 BY Ah ?_|refine B3 4 BY Ag ?_|refine B3 4 BY (Ca rfl rfl rfl rfl rfl (hE)) ?_|refine B3 4 BY (Ca rfl rfl rfl rfl rfl (hC)) ?_|refine B3 5 BY BW ?_|refine B0 ?_|apply B5|refine B8 ?_|refine Cg ?_|apply Cc)
            refine Cu [.q [0,1,3,4,5,6,7,8,9],.an 12,.h false 2,.h true 10,.q [11],.rv 12,.h true 13] [] Ac Ac Ac Ac ?_
            repeat' (first|apply B4|refine B3 0 BY Am ?_|refine B3 3 BY Ah ?_|refine B3 5 BY (by first|exact GM rfl rfl Aa|exact KG rfl rfl rfl rfl Ab Ab Ab) ?_|refine B0 ?_|refine Cz ?_|refine CQ rfl ?_|refine Dg rfl rfl AK ?_|refine DL rfl rfl rfl (fun β=> ?_)|refine C2 rfl rfl rfl rfl rfl rfl Aa rfl Aa Aa ?_|(refine HA rfl rfl rfl rfl rfl rfl rfl rfl (LZ _ _ _ _ loc hl WL) ?_;rintro _ _ ⟨hA,bA,cA,rfl,rfl,RW⟩;refine⟨_,_,rfl,rfl,?_⟩)|refine Tl (K:=K3) rfl rfl rfl rfl rfl rfl rfl rfl rfl (by have:=(Wc.mono lK).take lf;rwa [<-List.map_take] at this) slq Aq (by simp [hlq]) Ae Ab Ab (fun hB bB cB dM=> ?_)|apply B5)
            have htl:(CX.take lf++put).length=((lf:Nat):Int).toNat+qn:=by rw [List.length_append,List.length_take,hlq,Nat.min_eq_left Ab];rfl
            rw [<-List.map_append] at dM
            have hal:(loc.map i64).length=ln:=by simp [hl]
            have hgl:(loc.map i64).length=loc.length:=by simp
            obtain⟨hX,mq,gd⟩:=dM;have hXm2:hX=hB∨hX=K3:=by simpa using mq
            by_cases Yu:y.op=3
            · have hr3:rowOf im m loc 3 y.a y.b=some ⟨FF loc y.a,[-2],[]⟩:=rfl;rw [Yu,hr3] at hr
              simp only [Option.some.injEq,Row.mk.injEq] at hr
              obtain⟨Eh,rfl,rfl⟩:=hr;have hin2:0≤y.a/\y.a<loc.length:=of_decide_eq_true Eh;obtain⟨v,hv⟩:∃z,CX[lf]?=some z:=⟨_,List.getElem?_eq_getElem (by simp at Em;omega)⟩;have hcv:(CX.map i64)[((lf:Nat):Int).toNat*1]?=some (i64 v):=by simp [hv]
              have hgd:CX.getD lf 0=v:=by simp [List.getD,hv]
              have hlf2:lf<sn:=by simp at Em;omega
              rw [if_pos Yu,hgd];haveI slS2:=Wc.mono lK;haveI gY:=RW.sl;rcases hXm2 with e|e
              all_goals
                rw [e] at gd
                haveI:=gd
                repeat' (first|apply B4|refine Cs 2 BY Ao Ab ?_|refine B3 3 BY Ah ?_|(refine gk 4 rfl ?_;(refine FI rfl rfl rfl rfl rfl rfl rfl rfl (LZ _ _ _ _ _ htl Ab) ?_;rintro _ _ ⟨hC,bC,cC,rfl,rfl,FK⟩;refine⟨_,_,rfl,rfl,?_⟩))|refine Ck ?_|refine B0 ?_|apply B5|refine B8 ?_|refine Cl ?_)
                refine Cu [.q [0,1,2,3,4,5,6,7,8,9],.h true 10] [] Ac Ac Ac Ac ?_
                repeat' (first|apply B4|refine B3 0 BY Af ?_|refine B3 3 BY (by first|exact DI rfl Aa rfl Aa|exact CV rfl rfl|exact D5 rfl Aa rfl Aa Aa|exact CD rfl rfl rfl Ab Ab (by first|omega|(simp only [List.length_map];omega))|exact D2 rfl Aa Ai Ad) ?_|refine Ck ?_|refine B0 ?_|refine Cz ?_|refine CQ rfl ?_|refine D3 rfl rfl rfl rfl rfl rfl RW rfl rfl rfl (Nat.succ_pos _) Aq (NI (j:=y.a.toNat) Ab Ab) (fun kh ic=> ?_)|apply B5|refine B8 ?_|apply Cb)
                refine Cj [K3,kh,hC] (Ct (Cv rfl rfl rfl rfl) (B7 rfl)) ⟨⟨K3,by simp,lK⟩,bA,cA,bC,cC,?_,⟨kh,by simp,ic.sl⟩,⟨hC,by simp,FK.sl⟩,by have:=FK.hle;omega⟩;rw [List.length_set,hl,htl]
            · rw [if_neg Yu];rcases hXm2 with e|e
              all_goals
                rw [e] at gd
                haveI:=gd
                repeat' (first|apply B4|refine B3 0 BY Au ?_|refine CE 2 BY Ao Ab ?_|refine B3 3 BY AF ?_|(refine gk 4 rfl ?_;(refine FI rfl rfl rfl rfl rfl rfl rfl rfl (LZ _ _ _ _ _ htl Ab) ?_;rintro _ _ ⟨hC,bC,cC,rfl,rfl,FK⟩;refine⟨_,_,rfl,rfl,?_⟩))|refine Ck ?_|refine B0 ?_|apply B5|refine B8 ?_|refine Cg ?_|apply Cb|apply Cc)
                refine Cj [K3,hA,hC] (Ct (Cv rfl rfl rfl rfl) (B7 rfl)) ⟨⟨K3,by simp,lK⟩,bA,cA,bC,cC,?_,⟨hA,by simp,RW.sl⟩,⟨hC,by simp,FK.sl⟩,by have:=FK.hle;omega⟩;rw [hl,htl]
end Go.Proofs.YtcnmnmjmpocepaaGreatDoor.Kd
end
section
namespace Go.Proofs.YtcnmnmjmpocepaaGreatDoor.Kd
open Go.SL
theorem Oc{A B:List Int}{i:Nat}{x y:Int}(hx:A[i]?=some x)(hy:B[i]?=some y):(CP A B)[i]?=some (if x=y then x else -1):=by
  simp [CP,List.getElem?_zipWith,hx,hy]
theorem PX:∀ {A B:List Int} {i:Nat} {v:Int},A.length=B.length->(CP A B).set i v=CP (A.set i v) (B.set i v)
  | [],[],i,v,_=>by simp [CP]
  | [],_::_,_,_,h=>by simp at h
  |_::_,[],_,_,h=>by simp at h
  |a::A,b::B,0,v,h=>by simp [CP]
  | a::A,b::B,i+1,v,h=>by
    have ih:=PX (A:=A) (B:=B) (i:=i) (v:=v) (by simpa using h);simp only [CP,List.zipWith_cons_cons,List.set_cons_succ,List.cons.injEq,true_and] at ih ⊢
    exact ih
theorem Rg(m:Me)(y:Ins)(loc CX:List Int)(r:Row):
    (r.is=false/\Es m y loc CX r= .inl 8)∨(r.is=true/\Es m y loc CX r= .inl 9)∨
    (r.is=true/\ -1∉r.put/\((CX.length - r.take.length+r.put.length:Nat):Int)≤m.st/\∀Z2,Es m y Z2 CX r= .inr (if y.op=3 then Z2.set y.a.toNat (CX.getD (CX.length - r.take.length) 0) else Z2,CX.take (CX.length - r.take.length)++r.put)):=by
  unfold Es;by_cases h1:r.is=false
  · exact .inl ⟨h1,by rw [if_pos h1]⟩
  · have h1':r.is=true:=by simpa using h1
    by_cases h2:CX.length<r.take.length∨¬H6 (CX.drop (CX.length - r.take.length)) r.take∨ -1∈r.put
    · exact .inr (.inl ⟨h1',by rw [if_neg h1,if_pos h2]⟩)
    · by_cases h3:m.st<((CX.length - r.take.length+r.put.length:Nat):Int)
      · exact .inr (.inl ⟨h1',by rw [if_neg h1,if_neg h2,if_pos h3]⟩)
      · refine .inr (.inr ⟨h1',fun h=>h2 (.inr (.inr h)),by omega,fun Z2=>by rw [if_neg h1,if_neg h2,if_neg h3]⟩)
theorem U9{im:Im}{m:Me}{L L':List Int}{op a b:Int}(h:L.length=L'.length)(h2:op≠2):rowOf im m L op a b=rowOf im m L' op a b:=by
  have e:FF L a=FF L' a:=by unfold FF;rw [h]
  unfold rowOf;rw [if_neg h2,if_neg h2,e]
theorem Yn{c:Prop} [Decidable c]{x y:Option Row}{r:Row}(h:(if c then x else y)=some r):x=some r∨y=some r:=by
  split at h
  · exact .inl h
  · exact .inr h
theorem Qu{im:Im}{m:Me}{L:List Int}{op a b:Int}{r:Row}(h:rowOf im m L op a b=some r):r.put.length≤1:=by
  unfold rowOf at h
  iterate 21
    rcases Yn h with h|h
    · cases h
      first|exact Nat.le_refl 1|exact Nat.zero_le 1
  cases h
theorem XN{im:Im}{m:Me}{L:List Int}{op a b:Int}{r:Row}(h:rowOf im m L op a b=some r):r.take.length≤2∨∃m'∈im.ms,r.take=m'.params:=by
  have YC:∀a,(Fy im a).getD []= []∨∃m'∈im.ms,(Fy im a).getD []=m'.params:=fun a=>by
    unfold Fy
    split
    · cases hm:im.ms[a.toNat]? with
      |none=>exact .inl rfl
      |some m'=>exact .inr ⟨m',List.mem_of_getElem? hm,rfl⟩
    · exact .inl rfl
  unfold rowOf at h
  iterate 21
    rcases Yn h with h|h
    · cases h
      first
        |exact .inl (Nat.le_refl 2)
        |exact .inl (Nat.le_succ 1)
        |exact .inl (Nat.zero_le 2)
        |exact(YC a).imp (fun e=>by simp only [e];exact Nat.zero_le 2) id
  cases h
theorem Hm{im:Im}{m:Me}{L:List Int}{a b:Int}:rowOf im m L 2 a b=some ⟨FF L a,[],[if FF L a then L.getD a.toNat 0 else 0]⟩:=rfl
theorem V3(im:Im)(mi at_:Int)(S:List Int):(∀L,Dv im mi at_ L S= .inl 8)∨∃m y,im.ms[mi.toNat]?=some m/\∀L,Dv im mi at_ L S=match rowOf im m L y.op y.a y.b with|none=> .inl 8|some r=>Es m y L S r:=by
  unfold Dv;by_cases h1:FF im.ms mi=true
  · cases hm:im.ms[mi.toNat]? with
    |none=>exact .inl fun L=>by rw [if_pos h1]
    | some m=>
      by_cases h2:FF m.code at_=true
      · cases hy:m.code[at_.toNat]? with
        |none=>exact .inl fun L=>by simp only [if_pos h1,if_pos h2,hy]
        |some y=>exact .inr ⟨m,y,rfl,fun L=>by simp only [if_pos h1,if_pos h2,hy];rfl⟩
      · exact .inl fun L=>by simp only [if_pos h1,if_neg h2]
  · exact .inl fun L=>by rw [if_neg h1]
theorem TU(im:Im)(mi at_:Int)(A B S:List Int)(h:A.length=B.length):
    (Dv im mi at_ (CP A B) S= .inl 8/\Dv im mi at_ A S= .inl 8/\Dv im mi at_ B S= .inl 8)∨Dv im mi at_ (CP A B) S= .inl 9∨
    ∃lA lB s,Dv im mi at_ (CP A B) S= .inr (CP lA lB,s)/\Dv im mi at_ A S= .inr (lA,s)/\Dv im mi at_ B S= .inr (lB,s)/\lA.length=A.length/\lB.length=B.length/\s.length≤S.length+1/\∀m,im.ms[mi.toNat]?=some m->(s.length:Int)≤m.st:=by
  have hj:(CP A B).length=A.length:=Dz h;rcases V3 im mi at_ S with h0|⟨m,y,hm,h0⟩
  · exact .inl ⟨h0 _,h0 _,h0 _⟩
  · have fin:∀r,(∀op,rowOf im m A op y.a y.b=rowOf im m A op y.a y.b)->rowOf im m (CP A B) y.op y.a y.b=some r->rowOf im m A y.op y.a y.b=some r->rowOf im m B y.op y.a y.b=some r->r.put.length≤1->(Dv im mi at_ (CP A B) S= .inl 8/\Dv im mi at_ A S= .inl 8/\Dv im mi at_ B S= .inl 8)∨Dv im mi at_ (CP A B) S= .inl 9∨
        ∃lA lB s,Dv im mi at_ (CP A B) S= .inr (CP lA lB,s)/\Dv im mi at_ A S= .inr (lA,s)/\Dv im mi at_ B S= .inr (lB,s)/\lA.length=A.length/\lB.length=B.length/\s.length≤S.length+1/\∀m,im.ms[mi.toNat]?=some m->(s.length:Int)≤m.st:=by
      intro r _ rJ rA rB hp;rw [h0,h0,h0,rJ,rA,rB];simp only;rcases Rg m y (CP A B) S r with ⟨hi,he⟩|⟨hi,he⟩|⟨hi,bj,FB,he⟩
      · refine .inl ⟨he,?_,?_⟩ <;>simp [Es,hi]
      · exact .inr (.inl he)
      · refine .inr (.inr ⟨if y.op=3 then A.set y.a.toNat (S.getD (S.length - r.take.length) 0) else A,if y.op=3 then B.set y.a.toNat (S.getD (S.length - r.take.length) 0) else B,_,?_,he A,he B,?_,?_,?_,?_⟩)
        · rw [he]
          split
          · rw [PX h]
          · rfl
        · split <;>simp
        · split <;>simp
        · simp only [List.length_append,List.length_take];omega
        · intro m' Yw;rw [hm] at Yw;cases Yw
          simp only [List.length_append,List.length_take];omega
    by_cases h2:y.op=2
    ·
      have eA:FF A y.a=FF (CP A B) y.a:=by unfold FF;rw [hj]
      have eB:FF B y.a=FF (CP A B) y.a:=by unfold FF;rw [hj,h]
      rw [h0,h0,h0,h2,Hm,Hm,Hm];by_cases Eh:FF (CP A B) y.a=true
      · have hr:0≤y.a/\y.a<(CP A B).length:=of_decide_eq_true Eh;obtain⟨x,hx⟩:∃z,A[y.a.toNat]?=some z:=⟨_,List.getElem?_eq_getElem Ab⟩;obtain⟨z,hz⟩:∃z,B[y.a.toNat]?=some z:=⟨_,List.getElem?_eq_getElem Ab⟩;have hjx:=Oc hx hz;by_cases hxz:x=z
        · subst hxz;rw [if_pos rfl] at hjx
          have g1:A.getD y.a.toNat 0=x:=by simp [List.getD,hx]
          have g2:B.getD y.a.toNat 0=x:=by simp [List.getD,hz]
          have g3:(CP A B).getD y.a.toNat 0=x:=by simp [List.getD,hjx]
          have:=fin ⟨true,[],[x]⟩ (fun _=>rfl) (by rw [h2,Hm,Eh,if_pos rfl,g3]) (by rw [h2,Hm,eA,Eh,if_pos rfl,g1]) (by rw [h2,Hm,eB,Eh,if_pos rfl,g2]) (Nat.le_refl 1);rw [h0,h0,h0,h2,Hm,Hm,Hm] at this
          exact this
        · rw [if_neg hxz] at hjx
          have g3:(CP A B).getD y.a.toNat 0= -1:=by simp [List.getD,hjx]
          refine .inr (.inl ?_);simp only [Eh,if_true,g3];exact Tr Ak
      · have hin':FF (CP A B) y.a=false:=by simpa using Eh
        refine .inl ⟨?_,?_,?_⟩
        · simp [hin',Es]
        · simp [eA,hin',Es]
        · simp [eB,hin',Es]
    · have rA:=U9 (im:=im) (m:=m) (a:=y.a) (b:=y.b) hj h2;have rB:=U9 (im:=im) (m:=m) (a:=y.a) (b:=y.b) (hj.trans h) h2;cases Kc:rowOf im m (CP A B) y.op y.a y.b with
      | none=>
        refine .inl ⟨?_,?_,?_⟩
        · rw [h0,Kc]
        · rw [h0,<-rA,Kc]
        · rw [h0,<-rB,Kc]
      | some r=>
        refine fin r (fun _=>rfl) Kc (by rw [<-rA,Kc]) (by rw [<-rB,Kc]) ?_;exact Qu Kc
end Go.Proofs.YtcnmnmjmpocepaaGreatDoor.Kd
end
section
namespace Go.Proofs.YtcnmnmjmpocepaaGreatDoor.Kd
open Go.SL
attribute [local irreducible] SL.T C7 Dc C6 Db DS Du Jh
end Go.Proofs.YtcnmnmjmpocepaaGreatDoor.Kd
end
section
namespace Go.Proofs.YtcnmnmjmpocepaaGreatDoor.Kd
open Go.SL
theorem KX(K:B6)(im:Im)(DF mb lb sb:Option Addr)(DW EG mn mc ln lc sn sc:Nat)(mi at_:Int)(loc CX:List Int)(ET:Hk K im.cls DF DW)(HM:I6 K im.ms mb mn)(ZH:Sl K lb (loc.map i64))(Wc:Sl K sb (CX.map i64))(hl:loc.length=ln)(hs:CX.length=sn)(WL:ln≤4000000)(WE:sn≤2000000)(gp:sn≤sc):
    SL.T Tryz.prog 20 [.agg ⟨[.slice DF DW EG,.slice mb mn mc]⟩,i64 mi,fr lb sb ln sn lc sc,i64 at_] [K] (VI K (Dv im mi at_ loc CX)):=by
  have hms':=HM;obtain⟨CY,h1,h2,h3,h4,h5⟩:=HM;by_cases h:0≤mi/\mi<mn
  · have e1:FF im.ms mi=true:=decide_eq_true Ab;obtain⟨m,hm⟩:∃z,im.ms[mi.toNat]?=some z:=⟨_,List.getElem?_eq_getElem Ab⟩;by_cases ha:0≤at_/\at_<m.code.length
    · have e2:FF m.code at_=true:=decide_eq_true ha;obtain⟨y,hy⟩:∃z,m.code[at_.toNat]?=some z:=⟨_,List.getElem?_eq_getElem Ab⟩;cases hr:rowOf im m loc y.op y.a y.b with
      | none=>
        have e:Dv im mi at_ loc CX= .inl 8:=by simp only [Dv,e1,if_true,hm,e2,hy,hr]
        rw [e];exact dC K im DF mb lb sb DW EG mn mc ln lc sn sc mi at_ loc CX ET hms' hl hs WL Ab m y h hm ha hy hr
      | some r=>
        have e:Dv im mi at_ loc CX=Es m y loc CX r:=by simp only [Dv,e1,if_true,hm,e2,hy,hr];rfl
        rw [e];refine V2 (dA K im DF mb lb sb DW EG mn mc ln lc sn sc mi at_ loc CX ET hms' hl hs WL WE gp m y h hm ha hy r hr ⟨?_,by have:=Qu hr;omega⟩);rcases XN hr with q|⟨m',Yw,q⟩
        · omega
        · obtain⟨i,hi⟩:=List.mem_iff_getElem?.1 Yw;obtain⟨pb,pn,pc,cb,cn,cc,g1,g2,g3,g4,g5,g6,g7, -⟩:=h5 i m' hi;rw [q];omega
    · have e2:FF m.code at_=false:=decide_eq_false ha;have e:Dv im mi at_ loc CX= .inl 8:=by simp [Dv,e1,hm,e2]
      rw [e];exact Py (dz K im DF mb lb sb DW EG mn mc ln lc sn sc mi at_ loc CX ET hms' m h hm ha)
  · have e1:FF im.ms mi=false:=decide_eq_false Ab;have e:Dv im mi at_ loc CX= .inl 8:=by simp [Dv,e1]
    rw [e];exact Py (dD K im DF mb lb sb DW EG mn mc ln lc sn sc mi at_ loc CX ET hms' h)
theorem dG(K:B6)(a b a' b':Option Addr)(n m n' m' c d c' d':Nat)(xs ys HR J9:List Int)(s1:Sl K a (xs.map i64))(s2:Sl K b (ys.map i64))(s3:Sl K a' (HR.map i64))(s4:Sl K b' (J9.map i64))
    (h1:xs.length=n) (h2:ys.length=m) (h3:HR.length=n') (h4:J9.length=m') (DE:n≤4000000) (Pk:m≤4000000) (hn:n=n') (hy:ys=J9):
    SL.T Tryz.prog 119 [fr a b n m c d,fr a' b' n' m' c' d'] [K] fun e o=>∃K',o= [K']/\hle K K'/\∃b1 c1 b2 c2,e= .returned (.tuple #[fr b1 b2 n m c1 c2,.bool true])/\Sl K' b1 ((CP xs HR).map i64)/\Sl K' b2 (ys.map i64)/\m≤c2:=by
  refine(Ib (R:=fun e A N=>A= []/\∃h1 h2 b1 c1 b2 c2,N= [K,h1,h2]/\e= .returned (.tuple #[fr b1 b2 n m c1 c2,.bool true])/\OS h1 b1 n c1 79 1 ((CP xs HR).map i64)/\OS h2 b2 m c2 79 1 (ys.map i64)) ((UX K a b a' b' n m n' m' c d c' d' xs ys HR J9 h1 h2 h3 h4 DE Pk hn hy).mono ?_)).mono ?_
  · rintro e o ⟨N,rfl,q1,q2,b1,c1,b2,c2,rfl,rfl,EH,GC⟩;exact⟨[],_,by simp,rfl,q1,q2,b1,c1,b2,c2,rfl,rfl,EH,GC⟩
  · rintro e o ⟨A,N,K',rfl,hK,rfl,q1,q2,b1,c1,b2,c2,rfl,rfl,EH,GC⟩;exact⟨K',rfl,hK K Ak,b1,c1,b2,c2,rfl,EH.sl.mono (hK q1 Ak),GC.sl.mono (hK q2 Ak),GC.hle⟩
end Go.Proofs.YtcnmnmjmpocepaaGreatDoor.Kd
end
