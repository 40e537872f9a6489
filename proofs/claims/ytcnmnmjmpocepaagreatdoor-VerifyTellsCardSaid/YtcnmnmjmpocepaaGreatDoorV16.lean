
import Derived.Test.YtcnmnmjmpocepaaGreatDoorV00
import Derived.Test.YtcnmnmjmpocepaaGreatDoorV09
import Derived.Test.YtcnmnmjmpocepaaGreatDoorV15
import Derived.Test.YtcnmnmjmpocepaaGreatDoorV08
set_option linter.unusedVariables false
set_option linter.unusedSimpArgs false
set_option linter.unusedSectionVars false
set_option maxRecDepth 100000
set_option maxHeartbeats 16000000
section
namespace Go.Proofs.YtcnmnmjmpocepaaGreatDoor.Kd
open Go.SL
attribute [local irreducible] SL.T Dw DG DE DI Et D0 KQ
open Classical in
noncomputable def E9(im:Im)(mi at_:Int)(loc Dl:List Int):Int ⊕ (List Int×List Int):=
  if EZ im.ms mi then match im.ms[mi.toNat]? with
  |none=> .inl 8
  | some m=>if EZ m.code at_ then match m.code[at_.toNat]? with
    |none=> .inl 8
    | some y=>match rowOf im m loc y.op y.a y.b with
      |none=> .inl 8
      | some r=>if r.is=false then .inl 8
        else if Dl.length<r.take.length∨¬Jv (Dl.drop (Dl.length - r.take.length)) r.take∨ -1∈r.put then .inl 9
        else if m.st<((Dl.length - r.take.length+r.put.length:Nat):Int) then .inl 9
        else .inr (if y.op=3 then loc.set y.a.toNat (Dl.getD (Dl.length - r.take.length) 0) else loc,Dl.take (Dl.length - r.take.length)++r.put)
    else .inl 8
  else .inl 8
def QZ(K:CA)(res:Int ⊕ (List Int×List Int))(e:Ending)(o:List CA):Prop:=
  ∃K',o= [K']/\hle K K'/\match res with
  | .inl c=>e= .returned (.tuple #[JZ,i64 c])
  | .inr (l,s)=>∃b1 c1 b2 c2,e= .returned (.tuple #[fr b1 b2 l.length s.length c1 c2,i64 0])/\Sl K' b1 (l.map i64)/\Sl K' b2 (s.map i64)/\s.length≤c2
theorem RW{args:List Value}{K:CA}{c:Int}(h:Dw Tryz.prog 20 args [K] (.tuple #[JZ,i64 c])):SL.T Tryz.prog 20 args [K] (QZ K (.inl c)):=
  h.T.mono fun e o ⟨h1,h2⟩=>⟨K,h2,hle.refl _,h1⟩
theorem kr(K:CA)(im:Im)(Du mb lb sb:Option Addr)(Dr DP mn mc ln lc sn sc:Nat)(mi at_:Int)(loc Dl:List Int)(EP:FY K im.cls Du Dr)(Gq:Hd K im.ms mb mn)
    (h:¬(0≤mi/\mi<mn)):Dw Tryz.prog 20 [.agg ⟨[.slice Du Dr DP,.slice mb mn mc]⟩,i64 mi,fr lb sb ln sn lc sc,i64 at_] [K] (.tuple #[JZ,i64 8]):=by
  obtain⟨C9,h1,h2,h3,h4,h5⟩:=Gq;have h0:¬(0≤at_/\at_<((0:Nat):Int)):=by omega
  refine CL Tryz.func20 rfl (Nat.le_of_ble_eq_true rfl) fun F=> ?_
  repeat' (first|apply Cv|refine Ct 0 Cr Bg ?_|refine Ct 3 Cr Af ?_|refine Ct 4 Cr (CE rfl rfl rfl rfl rfl (YQ [K] _ _ _ _ h4 h)) ?_|refine Ct 4 Cr (CE rfl rfl rfl rfl rfl (Uf [K] _ 0 _ _ Ab h0)) ?_|refine Ct 5 Cr Aq ?_|refine C2 (fun β=> ?_)|refine CT (fun β=> ?_)|refine CN ?_|refine Cu ?_|apply Cw|refine Cy ?_|refine CH ?_|apply Cz|refine CQ ?_)
  exact CS (CU (CR rfl rfl rfl rfl) (Cx rfl)) rfl
theorem ko(K:CA)(im:Im)(Du mb lb sb:Option Addr)(Dr DP mn mc ln lc sn sc:Nat)(mi at_:Int)(loc Dl:List Int)(EP:FY K im.cls Du Dr)(Gq:Hd K im.ms mb mn)(m:Me)
    (h:0≤mi/\mi<mn) (hm:im.ms[mi.toNat]?=some m) (ha:¬(0≤at_/\at_<m.code.length)):Dw Tryz.prog 20 [.agg ⟨[.slice Du Dr DP,.slice mb mn mc]⟩,i64 mi,fr lb sb ln sn lc sc,i64 at_] [K] (.tuple #[JZ,i64 8]):=by
  obtain⟨C9,h1,h2,h3,h4,h5⟩:=Gq;obtain⟨pb,pn,pc,cb,cn,cc,g1,g2,g3,g4,g5,g6,g7,g8,g9,g10⟩:=h5 _ _ hm;haveI:=h1;haveI:=g8;rw [g9] at ha
  refine CL Tryz.func20 rfl (Nat.le_of_ble_eq_true rfl) fun F=> ?_
  repeat' (first|apply Cv|refine Ct 0 Cr Bg ?_|refine Ct 3 Cr Af ?_|refine Ct 4 Cr (CE rfl rfl rfl rfl rfl (Lr [K] _ _ _ C9 _ _ _ _ _ h2 h4 h ⟨g1,g2,g3,g4⟩ rfl)) ?_|refine Ct 4 Cr (CE rfl rfl rfl rfl rfl (Uf [K] _ _ _ _ g10 ha)) ?_|refine Ct 5 Cr Aq ?_|refine C2 (fun β=> ?_)|refine CT (fun β=> ?_)|refine CN ?_|refine Cu ?_|apply Cw|refine Cy ?_|refine CH ?_|apply Cz|refine CQ ?_)
  exact CS (CU (CR rfl rfl rfl rfl) (Cx rfl)) rfl
theorem kq(K:CA)(im:Im)(Du mb lb sb:Option Addr)(Dr DP mn mc ln lc sn sc:Nat)(mi at_:Int)(loc Dl:List Int)(EP:FY K im.cls Du Dr)(Gq:Hd K im.ms mb mn) [NN:Sl K lb (loc.map i64)] [Yc:Sl K sb (Dl.map i64)](hl:loc.length=ln)(hs:Dl.length=sn)(Ww:ln≤4000000)(Wr:sn≤4000000)(m:Me)(y:Ins)
    (h:0≤mi/\mi<mn) (hm:im.ms[mi.toNat]?=some m) (ha:0≤at_/\at_<m.code.length) (hy:m.code[at_.toNat]?=some y) (hr:rowOf im m loc y.op y.a y.b=none):
    SL.T Tryz.prog 20 [.agg ⟨[.slice Du Dr DP,.slice mb mn mc]⟩,i64 mi,fr lb sb ln sn lc sc,i64 at_] [K] (QZ K (.inl 8)):=by
  have hms':=Gq;obtain⟨C9,h1,h2,h3,h4,h5⟩:=Gq;obtain⟨pb,pn,pc,cb,cn,cc,g1,g2,g3,g4,g5,g6,g7,g8,g9,g10⟩:=h5 _ _ hm;haveI:=h1;haveI:=g8;rw [g9] at ha
  have ok:Ls K ⟨y.op,y.a,y.b,Du,Dr,DP,mb,mn,mc,pb,pn,pc,m.lo,m.st,cb,cn,cc,lb,ln,lc,sb,sn,sc⟩ im m loc:=⟨EP,hms',g8,g9,g10,NN,hl,Ww⟩;refine CM Tryz.func20 rfl (Nat.le_of_ble_eq_true rfl) fun F=> ?_
  repeat' (first|apply Cv|refine Ct 0 Cr AV ?_|refine Ct 3 Cr Af ?_|refine Ct 4 Cr (CE rfl rfl rfl rfl rfl (Lr [K] _ _ _ C9 _ _ _ _ _ h2 h4 h ⟨g1,g2,g3,g4⟩ rfl)) ?_|refine Ct 4 Cr (CE rfl rfl rfl rfl rfl (QX [K] _ _ _ m.code _ y g9 g10 ha hy)) ?_|refine C2 (fun β=> ?_)|refine CT (fun β=> ?_)|refine CN ?_|refine Cu ?_|apply Cw|refine Cy ?_|refine CF ?_|apply CB)
  refine C0 [.q [0,1,2,3,4,6,7],.h false 5,.q [8,9,10,11,12,13]] [] Ac Ac Ac Ac ?_
  repeat' (first|refine CW rfl rfl rfl (N6 mp rfl rfl rfl hf) ?_|apply Cv|refine Ct 0 Cr Bg ?_|refine Ct 3 Cr AE ?_|refine Ct 5 Cr Aq ?_|refine CN ?_|refine Cu ?_|refine C5 ?_|refine Dd rfl ?_|(refine Ev rfl rfl rfl rfl rfl rfl rfl rfl (YH K _ im m loc ok) (by rintro _ _ ⟨Kn,hM,bm,f,K',rfl,hKn,rfl,mp,tab⟩;exact⟨_,rfl⟩) ?_;rintro _ _ ⟨Kn,hM,bm,f,K',rfl,hKn,rfl,mp,tab⟩;have hf:=tab y.op;simp only [hr] at hf;refine⟨_,_,rfl,rfl,?_⟩)|apply Cw|refine Cy ?_|refine CH ?_|apply Cz|refine CQ ?_)
  exact CJ [K] (CU (CR rfl rfl rfl rfl) (Cx rfl)) ⟨K,rfl,hle.refl _,rfl⟩
def Ta(K:CA)(res:Int ⊕ (List Int×List Int))(e:Ending)(N:List CA):Prop:=(∃k∈N,hle K k)/\match res with
  | .inl c=>e= .returned (.tuple #[JZ,i64 c])
  | .inr (l,s)=>∃b1 c1 b2 c2,e= .returned (.tuple #[fr b1 b2 l.length s.length c1 c2,i64 0])/\Ds N b1 (l.map i64)/\Ds N b2 (s.map i64)/\s.length≤c2
theorem Y9{args:List Value}{K:CA}{res:Int ⊕ (List Int×List Int)}(h:SL.T Tryz.prog 20 args [K] (Ta K res)):SL.T Tryz.prog 20 args [K] (QZ K res):=by
  refine(Gw (R:=fun e A N=>A= []/\Ta K res e N) (h.mono fun e o hR=>⟨[],o,by simp,rfl,hR⟩)).mono ?_;rintro e o ⟨A,N,K',rfl,hK,rfl,⟨k,hk,hle0⟩,hR⟩;refine⟨K',rfl,hle0.trans (hK k hk),?_⟩;cases res with
  |inl c=>exact hR
  | inr p=>
    obtain⟨l,s⟩:=p;obtain⟨b1,c1,b2,c2,h1,h2,h3,h4⟩:=hR;exact⟨b1,c1,b2,c2,h1,h2.RO hK,h3.RO hK,h4⟩
open Classical in
noncomputable def FQ(m:Me)(y:Ins)(loc Dl:List Int)(r:Row):Int ⊕ (List Int×List Int):=
  if r.is=false then .inl 8
  else if Dl.length<r.take.length∨¬Jv (Dl.drop (Dl.length - r.take.length)) r.take∨ -1∈r.put then .inl 9
  else if m.st<((Dl.length - r.take.length+r.put.length:Nat):Int) then .inl 9
  else .inr (if y.op=3 then loc.set y.a.toNat (Dl.getD (Dl.length - r.take.length) 0) else loc,Dl.take (Dl.length - r.take.length)++r.put)
section
variable {m:Me} {y:Ins} {loc Dl take put:List Int} {lf:Nat}
theorem Wi(h:Dl.length<take.length):FQ m y loc Dl ⟨true,take,put⟩= .inl 9:=by
  simp only [FQ];rw [if_neg Am,if_pos (.inl h)]
theorem Wh(e:Dl.length - take.length=lf)(h:¬Jv (Dl.drop lf) take):FQ m y loc Dl ⟨true,take,put⟩= .inl 9:=by
  subst e;simp only [FQ];rw [if_neg Am,if_pos (.inr (.inl h))]
theorem Wg(h: -1∈put):FQ m y loc Dl ⟨true,take,put⟩= .inl 9:=by
  simp only [FQ];rw [if_neg Am,if_pos (.inr (.inr h))]
theorem Wf(e:Dl.length - take.length=lf)(h0:¬Dl.length<take.length)(h1:Jv (Dl.drop lf) take)(h2: -1∉put)(h3:m.st<((lf+put.length:Nat):Int)):FQ m y loc Dl ⟨true,take,put⟩= .inl 9:=by
  subst e;simp only [FQ];rw [if_neg Am,if_neg (by rintro(h|h|h) <;>contradiction),if_pos h3]
theorem We(e:Dl.length - take.length=lf)(h0:¬Dl.length<take.length)(h1:Jv (Dl.drop lf) take)(h2: -1∉put)(h3:¬m.st<((lf+put.length:Nat):Int)):
    FQ m y loc Dl ⟨true,take,put⟩= .inr (if y.op=3 then loc.set y.a.toNat (Dl.getD lf 0) else loc,Dl.take lf++put):=by
  subst e;simp only [FQ];rw [if_neg Am,if_neg (by rintro(h|h|h) <;>contradiction),if_neg h3]
end
theorem kp (K : CA)(im:Im)(Du mb lb sb:Option Addr)(Dr DP mn mc ln lc sn sc:Nat)(mi at_:Int)(loc Dl:List Int)(EP:FY K im.cls Du Dr)(Gq:Hd K im.ms mb mn) [NN:Sl K lb (loc.map i64)] [Yc:Sl K sb (Dl.map i64)](hl:loc.length=ln)(hs:Dl.length=sn)(Ww:ln≤4000000)(Wr:sn≤2000000)(jF:sn≤sc)(m:Me)(y:Ins)
    (h:0≤mi/\mi<mn) (hm:im.ms[mi.toNat]?=some m) (ha:0≤at_/\at_<m.code.length) (hy:m.code[at_.toNat]?=some y) (r:Row) (hr:rowOf im m loc y.op y.a y.b=some r) (iD:r.take.length≤4000000/\r.put.length≤2000000):
    SL.T Tryz.prog 20 [.agg ⟨[.slice Du Dr DP,.slice mb mn mc]⟩,i64 mi,fr lb sb ln sn lc sc,i64 at_] [K] (Ta K (FQ m y loc Dl r)):=by
  obtain⟨is,take,put⟩:=r;have hms':=Gq;obtain⟨C9,h1,h2,h3,h4,h5⟩:=Gq;obtain⟨pb,pn,pc,cb,cn,cc,g1,g2,g3,g4,g5,g6,g7,g8,g9,g10⟩:=h5 _ _ hm;haveI:=h1;haveI:=g8;rw [g9] at ha
  have ok:Ls K ⟨y.op,y.a,y.b,Du,Dr,DP,mb,mn,mc,pb,pn,pc,m.lo,m.st,cb,cn,cc,lb,ln,lc,sb,sn,sc⟩ im m loc:=⟨EP,hms',g8,g9,g10,NN,hl,Ww⟩;refine CM Tryz.func20 rfl (Nat.le_of_ble_eq_true rfl) fun F=> ?_
  repeat' (first|apply Cv|refine Ct 0 Cr AV ?_|refine Ct 3 Cr Af ?_|refine Ct 4 Cr (CE rfl rfl rfl rfl rfl (Lr [K] _ _ _ C9 _ _ _ _ _ h2 h4 h ⟨g1,g2,g3,g4⟩ rfl)) ?_|refine Ct 4 Cr (CE rfl rfl rfl rfl rfl (QX [K] _ _ _ m.code _ y g9 g10 ha hy)) ?_|refine C2 (fun β=> ?_)|refine CT (fun β=> ?_)|refine CN ?_|refine Cu ?_|apply Cw|refine Cy ?_|refine CF ?_|apply CB)
  refine C0 [.q [0,1,2,3,4,6,7],.h false 5,.q [8,9,10,11,12,13]] [] Ac Ac Ac Ac ?_
  repeat' ((fail_if_success (refine Tg 6 ?_));(first|refine CW rfl rfl rfl (D4 mp rfl rfl rfl hf) ?_|refine Ct 0 Cr AC ?_|refine Ct 3 Cr AE ?_|refine Ct 5 Cr Aq ?_|refine C5 ?_|refine Dd rfl ?_|(refine Ev rfl rfl rfl rfl rfl rfl rfl rfl (YH K _ im m loc ok) (by rintro _ _ ⟨Kn,hM,bm,f,K',rfl,hKn,rfl,mp,tab⟩;exact⟨_,rfl⟩) ?_;rintro _ _ ⟨Kn,hM,bm,f,K',rfl,hKn,rfl,mp,tab⟩;have hf:=tab y.op;simp only [hr] at hf;obtain⟨g,first,cap,all,rO,hf,oA,LU⟩:=hf;have hrow2:=fun K2 (q1:hle K K2) (q2:hle Kn K2)=>LU.more (hKn K2 q1 q2);refine⟨_,_,rfl,rfl,?_⟩)|apply Cw))
  refine Lt [K,Kn] fun K2 oD=> ?_
  have ZJ:=hrow2 K2 (oD K Am) (oD Kn Am);have lK2:hle K K2:=oD K Am;clear hrow2 LU hKn tab ok
  repeat' ((fail_if_success (refine Tg 10 ?_));(first|apply Cv|refine Ct 0 Cr (by first|exact Dh rfl rfl|exact Db rfl rfl|exact Eg rfl rfl|exact LF rfl rfl) ?_|refine Ct 1 Cr AF ?_|refine Ct 3 Cr Af ?_|refine Ct 4 Cr Ae ?_|(refine gk 4 rfl ?_;(refine CK rfl rfl rfl rfl rfl rfl rfl oA ZJ ?_;rintro _ _ ⟨K3,rfl,lK3,tb,tn,tc,qb,qn,qc,rfl,slt,kH,E6,ew⟩;refine⟨_,_,rfl,rfl,?_⟩))|refine CT (fun β=> ?_)|refine CN ?_|refine Cu ?_|apply Cw|refine Cy ?_|refine CF ?_|refine CC ?_|apply CB))
  have lK:hle K K3:=lK2.trans lK3;haveI:=slt;haveI:=kH;dsimp only at slt kH E6 ew iD
  obtain⟨rB,pV⟩:=iD;cases is with
  | false=>
    rw [show FQ m y loc Dl ⟨false,take,put⟩= .inl 8 from by simp [FQ]]
    repeat' (first|apply Cv|refine Ct 0 Cr Au ?_|refine Ct 5 Cr Aq ?_|refine CN ?_|refine Cu ?_|apply Cw|refine Cy ?_|refine CH ?_|apply Cz|refine CQ ?_|refine C3 ?_)
    exact CJ [K3] (CU (CR rfl rfl rfl rfl) (Cx rfl)) ⟨⟨K3,by simp,lK⟩,rfl⟩
  | true=>
    by_cases hB:sn<tn
    · rw [Wi Ab]
      repeat' (first|apply Cv|refine CF ?_)
      refine De Ac Ac rfl ?_
      repeat' (first|apply Cv|refine Ct 0 Cr Aw ?_|refine CG 0 Cs ?_|refine CO 2 Cr Aj Ab ?_|refine CG 3 Cs ?_|refine CG 4 Cs ?_|refine Ct 5 Cr Aq ?_|refine CG 5 Cs ?_|refine CN ?_|refine Cu ?_|apply Cw|refine Cy ?_|refine CH ?_|apply Cz|refine CQ ?_|refine C3 ?_)
      exact CJ [K3] (CU (CR rfl rfl rfl rfl) (Cx rfl)) ⟨⟨K3,by simp,lK⟩,rfl⟩
    · obtain ⟨lf,kP⟩:∃lf:Nat,(sn:Int) - (tn:Int)=(lf:Int):=⟨sn - tn,by omega⟩;haveI slS:Sl K3 (sub sb ((lf:Nat):Int).toNat sc 1) ((Dl.drop lf).map i64):=by
        have:=(Yc.mono lK).drop lf sc 1 As;rw [Nat.mul_one,<-List.map_drop] at this
        exact this
      have hdl:(Dl.drop lf).length=sn - ((lf:Nat):Int).toNat:=by rw [List.length_drop,hs];rfl
      obtain⟨b,hb,hE⟩:=Pc [K3] (sub sb ((lf:Nat):Int).toNat sc 1) tb (sn - ((lf:Nat):Int).toNat) tn (sc - ((lf:Nat):Int).toNat) tc (Dl.drop lf) take hdl E6 Ab;have hC:=FB [K3] qb qn qc put (-1) ew Ab;have elf:Dl.length - take.length=lf:=by omega
      cases b with
      | false=>
        rw [Wh elf (fun q=>by have:=hb.2 q;cases this)];rw [kP]
        repeat' (first|apply Cv|refine CF ?_)
        refine De Ac Ac rfl ?_
        repeat' (first|apply Cv|refine Ct 0 Cr Bp ?_|refine CY 2 Cr Aj Ab ?_|refine Ct 3 Cr Af ?_|refine CG 3 Cs ?_|refine CG 4 Cs ?_|refine Ct 4 Cr (CE rfl rfl rfl rfl rfl (hE)) ?_|refine Ct 5 Cr BX ?_|refine CN ?_|refine Cu ?_|apply Cw|refine Cy ?_|refine CH ?_|apply Cz|refine CQ ?_|refine C3 ?_)
        exact CJ [K3] (CU (CR rfl rfl rfl rfl) (Cx rfl)) ⟨⟨K3,by simp,lK⟩,rfl⟩
      | true=>
        by_cases hD: -1∈put
        · rw [Wg hD];rw [decide_eq_true hD] at hC
          rw [kP]
          repeat' (first|apply Cv|refine CF ?_)
          refine De Ac Ac rfl ?_
          repeat' (first|apply Cv|refine Ct 0 Cr AO ?_|refine CY 2 Cr Aj Ab ?_|refine Ct 3 Cr Af ?_|refine Ct 4 Cr (CE rfl rfl rfl rfl rfl (hE)) ?_|refine Ct 4 Cr (CE rfl rfl rfl rfl rfl (hC)) ?_|refine Ct 5 Cr BX ?_|refine CN ?_|refine Cu ?_|apply Cw|refine Cy ?_|refine CH ?_|apply Cz|refine CQ ?_|refine C3 ?_)
          exact CJ [K3] (CU (CR rfl rfl rfl rfl) (Cx rfl)) ⟨⟨K3,by simp,lK⟩,rfl⟩
        · rw [decide_eq_false hD] at hC
          by_cases hx:m.st<((lf+put.length:Nat):Int)
          · rw [Wf elf Ab (hb.1 rfl) hD hx];rw [kP]
            repeat' (first|apply Cv|refine CF ?_)
            refine De Ac Ac rfl ?_
            repeat' (first|apply Cv|refine Ct 0 Cr AO ?_|refine Ct 1 Cr Ao ?_|refine CO 2 Cr AH Ab ?_|refine CY 2 Cr Aj Ab ?_|refine Ct 3 Cr Af ?_|refine Ct 4 Cr Ae ?_|refine Ct 4 Cr (CE rfl rfl rfl rfl rfl (hE)) ?_|refine Ct 4 Cr (CE rfl rfl rfl rfl rfl (hC)) ?_|refine Ct 5 Cr BX ?_|refine CN ?_|refine Cu ?_|apply Cw|refine Cy ?_|refine CH ?_|refine CF ?_|apply Cz|refine CQ ?_|refine C3 ?_)
            exact CJ [K3] (CU (CR rfl rfl rfl rfl) (Cx rfl)) ⟨⟨K3,by simp,lK⟩,rfl⟩
          · rw [We elf Ab (hb.1 rfl) hD hx];haveI slL:=NN.mono lK;rw [kP]
            repeat' (first|apply Cv|refine CF ?_)
            refine De Ac Ac rfl ?_
            repeat' (first|apply Cv|refine Ct 0 Cr AO ?_|refine Ct 1 Cr Ao ?_|refine CY 2 Cr AH Ab ?_|refine Ct 3 Cr Af ?_|refine Ct 4 Cr Ae ?_|refine Ct 4 Cr (CE rfl rfl rfl rfl rfl (hE)) ?_|refine Ct 4 Cr (CE rfl rfl rfl rfl rfl (hC)) ?_|refine Ct 5 Cr Ck ?_|refine Cu ?_|apply Cw|refine Cy ?_|refine CF ?_|apply CB)
            refine C0 [.q [0,1,3,4,5,6,7,8,9],.an 12,.h false 2,.h true 10,.q [11],.rv 12,.h true 13] [] Ac Ac Ac Ac ?_
            repeat' (first|apply Cv|refine Ct 0 Cr Ap ?_|refine Ct 3 Cr Af ?_|refine Ct 5 Cr (by first|exact H3 rfl rfl Aa|exact Ms rfl rfl rfl rfl Ab Ab Ab) ?_|refine Cu ?_|refine C5 ?_|refine Dd rfl ?_|refine Dn rfl rfl AR ?_|refine DN rfl rfl rfl (fun β=> ?_)|refine Df rfl rfl rfl rfl rfl rfl Aa rfl Aa Aa ?_|(refine IY rfl rfl rfl rfl rfl rfl rfl rfl (NM _ _ _ _ loc hl Ww) ?_;rintro _ _ ⟨hA,bA,cA,rfl,rfl,MO⟩;refine⟨_,_,rfl,rfl,?_⟩)|refine V6 (K:=K3) rfl rfl rfl rfl rfl rfl rfl rfl rfl (by have:=(Yc.mono lK).take lf;rwa [<-List.map_take] at this) kH As (by simp [ew]) Ah Ab Ab (fun hB bB cB ak=> ?_)|apply Cw)
            have htl:(Dl.take lf++put).length=((lf:Nat):Int).toNat+qn:=by rw [List.length_append,List.length_take,ew,Nat.min_eq_left Ab];rfl
            rw [<-List.map_append] at ak
            have hal:(loc.map i64).length=ln:=by simp [hl]
            have hgl:(loc.map i64).length=loc.length:=by simp
            obtain⟨hX,rT,mY⟩:=ak;have hXm2:hX=hB∨hX=K3:=by simpa using rT
            by_cases RG:y.op=3
            · have hr3:rowOf im m loc 3 y.a y.b=some ⟨EZ loc y.a,[-2],[]⟩:=rfl;rw [RG,hr3] at hr
              simp only [Option.some.injEq,Row.mk.injEq] at hr
              obtain⟨ES,rfl,rfl⟩:=hr;have hin2:0≤y.a/\y.a<loc.length:=of_decide_eq_true ES;obtain⟨v,hv⟩:∃z,Dl[lf]?=some z:=⟨_,List.getElem?_eq_getElem (by simp at E6;omega)⟩;have hcv:(Dl.map i64)[((lf:Nat):Int).toNat*1]?=some (i64 v):=by simp [hv]
              have hgd:Dl.getD lf 0=v:=by simp [List.getD,hv]
              have hlf2:lf<sn:=by simp at E6;omega
              rw [if_pos RG,hgd];haveI slS2:=Yc.mono lK;haveI mZ:=MO.sl;rcases hXm2 with e|e
              all_goals
                rw [e] at mY
                haveI:=mY
                repeat' (first|apply Cv|refine CO 2 Cr Al Ab ?_|refine Ct 3 Cr Af ?_|(refine gk 4 rfl ?_;(refine Gg rfl rfl rfl rfl rfl rfl rfl rfl (NM _ _ _ _ _ htl Ab) ?_;rintro _ _ ⟨hC,bC,cC,rfl,rfl,Ge⟩;refine⟨_,_,rfl,rfl,?_⟩))|refine CN ?_|refine Cu ?_|apply Cw|refine Cy ?_|refine CH ?_)
                refine C0 [.q [0,1,2,3,4,5,6,7,8,9],.h true 10] [] Ac Ac Ac Ac ?_
                repeat' (first|apply Cv|refine Ct 0 Cr Ag ?_|refine Ct 3 Cr Cl ?_|refine CN ?_|refine Cu ?_|refine C5 ?_|refine Dd rfl ?_|refine Ew rfl rfl rfl rfl rfl rfl MO rfl rfl rfl (Nat.succ_pos _) As (Mo (j:=y.a.toNat) Ab Ab) (fun l9 jm=> ?_)|apply Cw|refine Cy ?_|apply Cz)
                refine CJ [K3,l9,hC] (CU (CR rfl rfl rfl rfl) (Cx rfl)) ⟨⟨K3,by simp,lK⟩,bA,cA,bC,cC,?_,⟨l9,by simp,jm.sl⟩,⟨hC,by simp,Ge.sl⟩,by have:=Ge.hle;omega⟩;rw [List.length_set,hl,htl]
            · rw [if_neg RG];rcases hXm2 with e|e
              all_goals
                rw [e] at mY
                haveI:=mY
                repeat' (first|apply Cv|refine Ct 0 Cr Au ?_|refine CY 2 Cr Al Ab ?_|refine Ct 3 Cr AE ?_|(refine gk 4 rfl ?_;(refine Gg rfl rfl rfl rfl rfl rfl rfl rfl (NM _ _ _ _ _ htl Ab) ?_;rintro _ _ ⟨hC,bC,cC,rfl,rfl,Ge⟩;refine⟨_,_,rfl,rfl,?_⟩))|refine CN ?_|refine Cu ?_|apply Cw|refine Cy ?_|refine CF ?_|apply Cz|apply CB)
                refine CJ [K3,hA,hC] (CU (CR rfl rfl rfl rfl) (Cx rfl)) ⟨⟨K3,by simp,lK⟩,bA,cA,bC,cC,?_,⟨hA,by simp,MO.sl⟩,⟨hC,by simp,Ge.sl⟩,by have:=Ge.hle;omega⟩;rw [hl,htl]
end Go.Proofs.YtcnmnmjmpocepaaGreatDoor.Kd
end
section
namespace Go.Proofs.YtcnmnmjmpocepaaGreatDoor.Kd
open Go.SL
theorem cI{c:Prop} [Decidable c]{x y:Option Row}{r:Row}(h:(if c then x else y)=some r):x=some r∨y=some r:=by
  split at h
  · exact .inl h
  · exact .inr h
theorem Ts{im:Im}{m:Me}{L:List Int}{op a b:Int}{r:Row}(h:rowOf im m L op a b=some r):r.put.length≤1:=by
  unfold rowOf at h
  iterate 21
    rcases cI h with h|h
    · cases h
      first|exact Nat.le_refl 1|exact Nat.zero_le 1
  cases h
theorem UM{im:Im}{m:Me}{L:List Int}{op a b:Int}{r:Row}(h:rowOf im m L op a b=some r):r.take.length≤2∨∃m'∈im.ms,r.take=m'.params:=by
  have ZT:∀a,(EM im a).getD []= []∨∃m'∈im.ms,(EM im a).getD []=m'.params:=fun a=>by
    unfold EM
    split
    · cases hm:im.ms[a.toNat]? with
      |none=>exact .inl rfl
      |some m'=>exact .inr ⟨m',List.mem_of_getElem? hm,rfl⟩
    · exact .inl rfl
  unfold rowOf at h
  iterate 21
    rcases cI h with h|h
    · cases h
      first
        |exact .inl (Nat.le_refl 2)
        |exact .inl (Nat.le_succ 1)
        |exact .inl (Nat.zero_le 2)
        |exact(ZT a).imp (fun e=>by simp only [e];exact Nat.zero_le 2) id
  cases h
end Go.Proofs.YtcnmnmjmpocepaaGreatDoor.Kd
end
section
namespace Go.Proofs.YtcnmnmjmpocepaaGreatDoor.Kd
open Go.SL
attribute [local irreducible] SL.T Dw DG DE DI Et D0 KQ
end Go.Proofs.YtcnmnmjmpocepaaGreatDoor.Kd
end
section
namespace Go.Proofs.YtcnmnmjmpocepaaGreatDoor.Kd
open Go.SL
theorem XU(K:CA)(im:Im)(Du mb lb sb:Option Addr)(Dr DP mn mc ln lc sn sc:Nat)(mi at_:Int)(loc Dl:List Int)(EP:FY K im.cls Du Dr)(Gq:Hd K im.ms mb mn)(NN:Sl K lb (loc.map i64))(Yc:Sl K sb (Dl.map i64))(hl:loc.length=ln)(hs:Dl.length=sn)(Ww:ln≤4000000)(Wr:sn≤2000000)(jF:sn≤sc):
    SL.T Tryz.prog 20 [.agg ⟨[.slice Du Dr DP,.slice mb mn mc]⟩,i64 mi,fr lb sb ln sn lc sc,i64 at_] [K] (QZ K (E9 im mi at_ loc Dl)):=by
  have hms':=Gq;obtain⟨C9,h1,h2,h3,h4,h5⟩:=Gq;by_cases h:0≤mi/\mi<mn
  · have e1:EZ im.ms mi=true:=decide_eq_true Ab;obtain⟨m,hm⟩:∃z,im.ms[mi.toNat]?=some z:=⟨_,List.getElem?_eq_getElem Ab⟩;by_cases ha:0≤at_/\at_<m.code.length
    · have e2:EZ m.code at_=true:=decide_eq_true ha;obtain⟨y,hy⟩:∃z,m.code[at_.toNat]?=some z:=⟨_,List.getElem?_eq_getElem Ab⟩;cases hr:rowOf im m loc y.op y.a y.b with
      | none=>
        have e:E9 im mi at_ loc Dl= .inl 8:=by simp only [E9,e1,if_true,hm,e2,hy,hr]
        rw [e];exact kq K im Du mb lb sb Dr DP mn mc ln lc sn sc mi at_ loc Dl EP hms' hl hs Ww Ab m y h hm ha hy hr
      | some r=>
        have e:E9 im mi at_ loc Dl=FQ m y loc Dl r:=by simp only [E9,e1,if_true,hm,e2,hy,hr];rfl
        rw [e];refine Y9 (kp K im Du mb lb sb Dr DP mn mc ln lc sn sc mi at_ loc Dl EP hms' hl hs Ww Wr jF m y h hm ha hy r hr ⟨?_,by have:=Ts hr;omega⟩);rcases UM hr with q|⟨m',O5,q⟩
        · omega
        · obtain⟨i,hi⟩:=List.mem_iff_getElem?.1 O5;obtain⟨pb,pn,pc,cb,cn,cc,g1,g2,g3,g4,g5,g6,g7, -⟩:=h5 i m' hi;rw [q];omega
    · have e2:EZ m.code at_=false:=decide_eq_false ha;have e:E9 im mi at_ loc Dl= .inl 8:=by simp [E9,e1,hm,e2]
      rw [e];exact RW (ko K im Du mb lb sb Dr DP mn mc ln lc sn sc mi at_ loc Dl EP hms' m h hm ha)
  · have e1:EZ im.ms mi=false:=decide_eq_false Ab;have e:E9 im mi at_ loc Dl= .inl 8:=by simp [E9,e1]
    rw [e];exact RW (kr K im Du mb lb sb Dr DP mn mc ln lc sn sc mi at_ loc Dl EP hms' h)
theorem kz(K:CA)(a b a' b':Option Addr)(n m n' m' c d c' d':Nat)(xs ys Jj LP:List Int)(s1:Sl K a (xs.map i64))(s2:Sl K b (ys.map i64))(s3:Sl K a' (Jj.map i64))(s4:Sl K b' (LP.map i64))
    (h1:xs.length=n) (h2:ys.length=m) (h3:Jj.length=n') (h4:LP.length=m') (DO:n≤4000000) (RF:m≤4000000) (hn:n=n') (hy:ys=LP):
    SL.T Tryz.prog 119 [fr a b n m c d,fr a' b' n' m' c' d'] [K] fun e o=>∃K',o= [K']/\hle K K'/\∃b1 c1 b2 c2,e= .returned (.tuple #[fr b1 b2 n m c1 c2,.bool true])/\Sl K' b1 ((EB xs Jj).map i64)/\Sl K' b2 (ys.map i64)/\m≤c2:=by
  refine(Gw (R:=fun e A N=>A= []/\∃h1 h2 b1 c1 b2 c2,N= [K,h1,h2]/\e= .returned (.tuple #[fr b1 b2 n m c1 c2,.bool true])/\OS h1 b1 n c1 79 1 ((EB xs Jj).map i64)/\OS h2 b2 m c2 79 1 (ys.map i64)) ((X0 K a b a' b' n m n' m' c d c' d' xs ys Jj LP h1 h2 h3 h4 DO RF hn hy).mono ?_)).mono ?_
  · rintro e o ⟨N,rfl,q1,q2,b1,c1,b2,c2,rfl,rfl,E2,G3⟩;exact⟨[],_,by simp,rfl,q1,q2,b1,c1,b2,c2,rfl,rfl,E2,G3⟩
  · rintro e o ⟨A,N,K',rfl,hK,rfl,q1,q2,b1,c1,b2,c2,rfl,rfl,E2,G3⟩;exact⟨K',rfl,hK K Am,b1,c1,b2,c2,rfl,E2.sl.mono (hK q1 Am),G3.sl.mono (hK q2 Am),G3.hle⟩
end Go.Proofs.YtcnmnmjmpocepaaGreatDoor.Kd
end
