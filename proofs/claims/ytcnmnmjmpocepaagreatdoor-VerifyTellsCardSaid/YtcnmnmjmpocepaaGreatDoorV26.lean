
import Derived.Test.YtcnmnmjmpocepaaGreatDoorV00
import Derived.Test.YtcnmnmjmpocepaaGreatDoorV09
import Derived.Test.YtcnmnmjmpocepaaGreatDoorV25
import Derived.Test.YtcnmnmjmpocepaaGreatDoorV07
set_option linter.unusedVariables false
set_option linter.unusedSimpArgs false
set_option linter.unusedSectionVars false
set_option maxRecDepth 100000
set_option maxHeartbeats 16000000
section
namespace Go.Proofs.YtcnmnmjmpocepaaGreatDoor.Nd
open Go.SL
attribute [local irreducible] SL.T Dw DG DE DI Et D0
theorem gS{P:Program}{f:FuncId}{args:List Value}{own:List CA}{R:Ending->List CA->Prop}
    (h:SL.T P f args own fun e o=>∃N,o=own++N/\R e N):SL.T P f args own fun e o=>∃K N,o=own++ [K]/\(∀k∈N,hle k K)/\R e N:=by
  have h2:=Gw (R:=fun e A N=>A=own/\R e N) (h.mono fun e o ⟨N,ho,hR⟩=>⟨own,N,by rw [ho];exact List.perm_append_comm,rfl,hR⟩);unfold SL.T at h2 ⊢
  intro w X s;refine(h2 w X s).mono ?_;rintro e w' ⟨o,s2,A,N,K,rfl,hK,rfl,hR⟩;exact⟨A++ [K],s2.perm ((List.perm_append_comm (l₁:= [K]) (l₂:=A)).append_right X),K,N,rfl,hK,hR⟩
theorem Zn(J K:CA)(p:Value)(lo st:Int)(cb:Option Addr)(cl cc:Nat)(cs:List Ins)(z:Nat)(b:Option Addr)(n c:Nat)(xs:List Int)
    [Sl J cb (CZ cs)] (ie:Sl K b (xs.map i64)) (hl:cs.length=cl) (DO:cl≤1000000) (hz:z<cl) (hn:xs.length=n) (NP:n≤c) (gh:n≤1000000) {r:Option (List Int)} (hr:Iy cs z xs=r):
    SL.T Tryz.prog 69 [MR p lo st cb cl cc,i64 (z:Int),.slice b n c] [J,K] fun e o=>∃hN,o= [J,K,hN]/\
      ∃b' n' c',e= .returned (aj b' n' c' r.isSome)/\∀s,r=some s->s.length=n'/\n'≤c'/\Ds [K,hN] b' (s.map i64):=by
  subst hr;refine(gS (Ro J K p lo st cb cl cc cs z b n c xs hl DO hz hn NP gh)).mono ?_;rintro e o ⟨hN,N,rfl,hK,b',n',c',rfl,hq⟩;refine⟨hN,rfl,b',n',c',rfl,fun s hs=> ?_⟩;obtain⟨h1,h2,⟨k,hk,e⟩⟩:=hq s hs;rcases List.mem_cons.1 hk with rfl|hk
  · exact⟨h1,h2,⟨k,by simp,e⟩⟩
  · exact⟨h1,h2,⟨hN,by simp,e.mono (hK k hk)⟩⟩
def QN(n:Nat)(V:List Int):List Value:=(List.range n).map fun(t:Nat)=> .bool (decide ((t:Int)∈V))
theorem Iw(n:Nat)(V:List Int):(QN n V).length=n:=by simp [QN]
theorem NA{n:Nat}{V:List Int}{t:Nat}(h:t<n):(QN n V)[t]?=some (.bool (decide ((t:Int)∈V))):=by simp [QN,h]
theorem dL(n:Nat):QN n []=List.replicate n (.bool false):=by
  apply List.ext_getElem?;intro i;by_cases h:i<n
  · rw [NA h];simp [h]
  · rw [List.getElem?_eq_none (by rw [Iw];omega),List.getElem?_eq_none As]
theorem VY{n:Nat}{V:List Int}{t:Nat}(h:t<n):(QN n V).set t (.bool true)=QN n (V++ [(t:Int)]):=by
  apply List.ext_getElem?;intro i;by_cases hi:i<n
  · by_cases e:i=t
    · subst e;rw [NA hi];simp [Iw,hi]
    · rw [List.getElem?_set_ne (Ne.symm e),NA hi,NA hi];have:¬((i:Int)=(t:Int)):=by omega
      simp [this]
  · rw [List.getElem?_eq_none (by rw [List.length_set,Iw];omega),List.getElem?_eq_none (by rw [Iw];omega)]
structure RI(n:Nat)(K:CA)(hS hC hO:CA)(sb kb ob:Option Addr)(oc:Nat)(V:List Int)(Dl:Int->List Int)(C9:List Value):Prop where
  os:OS hS sb n n 69 1 C9
  ok:OS hC kb n n 4 1 (QN n V)
  oo:OS hO ob V.length oc 3 1 (V.map i64)
  rows:Rows K Dl n C9
  ea:∀t∈V,0≤t/\t<(n:Int)
  nd:V.Nodup
theorem RI.mono{n:Nat}{K K' hS hC hO:CA}{sb kb ob:Option Addr}{oc:Nat}{V:List Int}{Dl:Int->List Int}{C9:List Value}(h:RI n K hS hC hO sb kb ob oc V Dl C9)(hK:hle K K'):RI n K' hS hC hO sb kb ob oc V Dl C9:=
  ⟨h.os,h.ok,h.oo,h.rows.mono hK,h.ea,h.nd⟩
theorem Rows.nC{K:CA}{Dl:Int->List Int}{n:Nat}{C9:List Value}(h:Rows K Dl n C9){t:Nat}(hv:C9.length=n)(ht:t<n){s:List Int}{b:Option Addr}{m c:Nat}(sl:Sl K b (s.map i64))(h1:s.length=m)(h2:m≤8)(h3:m≤c):
    Rows K (fun q=>if q=(t:Int) then s else Dl q) n (C9.set t (.slice b m c)):=fun u hu=>by
  by_cases e:u=t
  · subst e;exact⟨b,m,c,by simp [hv,ht],by simpa using sl,by simpa using h1,h2,h3⟩
  · obtain⟨b,m,c,g1,g2⟩:=h u hu;have:¬((u:Int)=(t:Int)):=by omega
    exact⟨b,m,c,by rw [List.getElem?_set_ne (Ne.symm e)];exact g1,by simpa [this] using g2⟩
theorem fj{n:Nat}{V:List Int}{t:Int}(h:∀t∈V,0≤t/\t<(n:Int))(ht:0≤t/\t<(n:Int)):∀u∈V++ [t],0≤u/\u<(n:Int):=fun u hu=>by
  rcases List.mem_append.1 hu with hu|hu
  · exact h u hu
  · rw [List.mem_singleton.1 hu];exact ht
theorem js{V:List Int}{t:Int}(h:V.Nodup)(ht:t∉V):(V++ [t]).Nodup:=by
  rw [List.nodup_append];exact⟨h,by simp,fun a ha b hb=>by rw [List.mem_singleton.1 hb];rintro rfl;exact ht ha⟩
structure GR where
  i:Nat
  K:CA
  hS:CA
  hC:CA
  hO:CA
  ob:Option Addr
  oc:Nat
  V:List Int
  Dl:Int->List Int
  C9:List Value
  n:Nat
abbrev lq(β:Nat)(sb kb:Option Addr)(n:Nat)(wr:Int):CA:=CV β (.cells ⟨[.slice sb n n,.slice kb n n,i64 wr]⟩ 96 (0,0))
abbrev ig(β:Nat):CA:=CV β (.cells ⟨[.slice none 0 0,.slice none 0 0,i64 0]⟩ 96 (0,0))
theorem fA (J :CA)(p:Value)(lo st:Int)(cb:Option Addr)(cl cc:Nat)(cs:List Ins) [iJ:Sl J cb (CZ cs)](hl:cs.length=cl)(DO:cl≤1000000)(h0:0<cl):
    SL.T Tryz.prog 37 [MR p lo st cb cl cc] [J] fun e o=>∃K hS hC hO sb kb ob oc V Dl C9 i k n wr,o= [J,hS,K]/\e= .returned (.agg ⟨[.slice sb cl cl,.slice kb cl cl,i64 wr]⟩)/\
      RI cl K hS hC hO sb kb ob oc V Dl C9/\GS.run cs n=⟨V,Dl,i,k,some wr⟩:=by
  refine CM Tryz.func37 rfl (Nat.le_of_ble_eq_true rfl) fun F=> ?_
  refine DH ?_
  repeat' (first|apply Cv|refine Ct 0 Cr Au ?_|refine Ct 3 Cr Af ?_|refine Ct 4 Cr Ae ?_|refine C2 (fun β=> ?_)|refine CT (fun β=> ?_)|refine Cu ?_|apply Cw)
  refine C0 [.q [0],.an 1,.q [2],.an 3,.an 5,.rv 1,.rv 3,.q [4],.rv 5,.h true 6] [] Ac Ac Ac Ac ?_
  repeat' (first|refine CW rfl rfl rfl (C7 (cs:=List.replicate cl (.bool false)) rfl rfl rfl Ab Ab (by rw [List.length_replicate];omega)) ?_|apply Cv|refine Ct 0 Cr Ag ?_|refine CY 2 Cr Al Ab ?_|refine Ct 3 Cr Af ?_|refine Ct 5 Cr Aq ?_|refine CP (fun b=> ?_)|refine Cu ?_|refine C5 ?_|refine Dd rfl ?_|refine Dn rfl rfl Cp ?_|refine DN rfl rfl rfl (fun β=> ?_)|refine Df rfl rfl rfl rfl rfl rfl Aa rfl Aa Aa ?_|apply Cw|refine Cy ?_|refine CF ?_|apply CB)
  rename_i ET Ei JQ EO
  refine Gl rfl rfl rfl rfl rfl (OS.CV (b:=EO) (T:=4) (len:=cl) (sz:=1) (cs:=List.replicate cl (.bool false)) Am) rfl rfl rfl (Nat.succ_pos _) As (Tp (j:=0) Am As) (fun hC E2=> ?_);obtain⟨Gr,rfl⟩:∃x,x=β:=⟨_,rfl⟩;obtain⟨JP,rfl⟩:∃x,x=b:=⟨_,rfl⟩;have e0:(List.replicate cl (Value.bool false)).set 0 (Value.bool true)=QN cl [0]:=by
    rw [<-dL,VY h0];rfl
  rw [e0] at E2
  repeat' (first|apply Cv|refine Ct 0 Cr Au ?_|refine Cu ?_|apply Cw|refine Cy ?_|refine CC ?_)
  refine C4 (fun s:GR=> [(1,.pointer (some ⟨ET,0,none⟩)),(2,.pointer (some ⟨Ei,0,none⟩)),(3,i64 (cl:Int)),(4,.pointer (some ⟨Gr,0,none⟩)),(5,.slice s.ob s.V.length s.oc),(6,i64 (s.i:Int))])
    (fun s=> [lq Gr (some ⟨JQ,0,none⟩) (some ⟨EO,0,none⟩) cl (-1),s.hS,s.hC,s.hO,ig Ei,F7 ET p lo st cb cl cc,s.K,J])
    (fun s=>s.i≤s.V.length/\RI cl s.K s.hS s.hC s.hO (some ⟨JQ,0,none⟩) (some ⟨EO,0,none⟩) s.ob s.oc s.V s.Dl s.C9/\GS.run cs s.n=⟨s.V,s.Dl,s.i,0,none⟩)
    (fun s=>cl - s.i) ⟨0,emp,CV JQ (.cells ⟨List.replicate cl (.slice none 0 0)⟩ 69 (0,0)),hC,CV JP (.cells ⟨[i64 0]⟩ 3 (0,0)),some ⟨JP,0,none⟩,1,[0],fun _=> [],List.replicate cl (.slice none 0 0),0⟩ (by repeat first|exact Sub.nil _|refine Sub.cons rfl ?_)
    ⟨Nat.zero_le _,⟨OS.CV Am,E2,OS.CV rfl,fun t ht=>⟨none,0,0,by simp [ht],Sl.none,rfl,by omega,Nat.le_refl _⟩,fun t ht=>by rw [List.mem_singleton.1 ht];omega,by simp⟩,rfl⟩ ?_
  clear E2;rintro⟨i,K,hS,hC,hO,ob,oc,V,Dl,C9,n⟩ ⟨hi,ri,hg⟩;dsimp only at hi ri hg ⊢
  have hVl:V.length≤cl:=N8 ri.nd ri.ea;have iA:C9.length=cl:=by simpa using ri.os.hlen
  haveI slS:=ri.os.sl;haveI slC:=ri.ok.sl;haveI slO:=ri.oo.sl;by_cases LW:i<V.length
  · obtain ⟨z,hV⟩:∃z,V[i]?=some z:=⟨_,List.getElem?_eq_getElem LW⟩;have hzm:=List.mem_of_getElem? hV;obtain⟨nW,Sr⟩:=ri.ea z hzm;obtain⟨zn,rfl⟩:=Int.eq_ofNat_of_zero_le nW;have hcV:(V.map i64)[((i:Nat):Int).toNat*1]?=some (i64 (zn:Int)):=by simp [hV]
    obtain⟨b1,m1,c1,nZ,NN,VD,rY,L9⟩:=ri.rows zn Ab;have hcv:C9[((zn:Nat):Int).toNat*1]?=some (.slice b1 m1 c1):=by simpa using nZ
    have hql:((zn:Nat):Int).toNat*1<C9.length:=by omega
    obtain⟨r,hb⟩:∃r,Iy cs zn (Dl zn)=r:=⟨_,rfl⟩;have hB:=Zn J K p lo st cb cl cc cs zn b1 m1 c1 (Dl zn) NN hl DO Ab VD L9 Ab hb
    repeat' (first|apply Cv|refine Ct 0 Cr Ag ?_|refine CO 2 Cr Aj Ab ?_|refine Ct 3 Cr (by first|exact C7 rfl rfl rfl Ab Ab Bj|exact D7 rfl Aa Ai Ad) ?_|refine Ct 4 Cr Ae ?_|refine Cu ?_|apply Cw|refine Cy ?_|refine CH ?_|refine CC ?_|apply CB)
    refine C0 [.q [0,1,2,3,4,5,6],.h false 7,.q [8,9,10,11,12]] [] Ac Ac Ac Ac ?_
    repeat' (first|apply Cv|refine Ct 0 Cr (by first|exact Dh rfl rfl|exact Db rfl rfl|exact LF rfl rfl|exact Ey rfl rfl rfl) ?_|refine Ct 3 Cr Bv ?_|refine Cu ?_|refine C5 ?_|refine Dd rfl ?_|(refine Ev rfl rfl rfl rfl rfl rfl rfl rfl (hB) (by rintro _ _ ⟨hN,rfl,b',n',c',rfl,hS'⟩;exact⟨_,rfl⟩) ?_;rintro _ _ ⟨hN,rfl,b',n',c',rfl,hS'⟩;refine⟨_,_,rfl,rfl,?_⟩)|apply Cw|refine Cy ?_)
    refine Lt [K,hN] fun K' kU=> ?_
    have hKK:hle K K':=kU K Am;rcases r with _|s
    · repeat' (first|apply Cv|refine Ct 0 Cr Ap ?_|refine Ct 3 Cr AW ?_|refine CN ?_|refine Cu ?_|apply Cw|refine Cy ?_|refine CH ?_|apply Cz|refine CQ ?_|refine C3 ?_)
      exact CJ [J,hS,K'] (CD (CR rfl rfl rfl rfl)) ⟨K',hS,hC,hO,_,_,ob,oc,V,Dl,C9,i,0,n+1,zn,rfl,rfl,ri.mono hKK,by rw [Fo hg,Ux hV hb]⟩
    · obtain ⟨Kp,MS,jG⟩:=hS' s rfl;have jG:Sl K' b' (s.map i64):=jG.RO kU;have hs8:=Wb hb Ab;have ri2:=ri.mono hKK;have Gt:=H6 cs (zn:Int);clear hB kU hS' hKK
      repeat' (first|apply Cv|refine Ct 0 Cr Ag ?_|refine Ct 3 Cr AA ?_|(refine gk 4 rfl ?_;(refine Gg rfl rfl rfl rfl rfl rfl rfl rfl (Tx _ p lo st cb cl cc cs (zn:Int) hl Ab) ?_;rintro _ _ ⟨hN2,bN,cN,rfl,rfl,osN⟩;haveI slN:=osN.sl;refine⟨_,_,rfl,rfl,?_⟩))|refine Cu ?_|apply Cw|refine Cy ?_|refine CF ?_|refine CC ?_|apply CB)
      clear osN;refine C4 (fun s:GR=> [(1,.pointer (some ⟨ET,0,none⟩)),(2,.pointer (some ⟨Ei,0,none⟩)),(3,i64 (cl:Int)),(4,.pointer (some ⟨Gr,0,none⟩)),(5,.slice s.ob s.V.length s.oc),(6,i64 (i:Int)),(8,.slice b' n' c'),(10,.slice bN (Gp cs (zn:Int)).length cN),(11,i64 (s.i:Int))])
        (fun s=> [hN2,lq Gr (some ⟨JQ,0,none⟩) (some ⟨EO,0,none⟩) cl (-1),s.hS,s.hC,s.hO,ig Ei,F7 ET p lo st cb cl cc,K',J])
        (fun q=>q.i≤(Gp cs (zn:Int)).length/\RI cl K' q.hS q.hC q.hO (some ⟨JQ,0,none⟩) (some ⟨EO,0,none⟩) q.ob q.oc q.V q.Dl q.C9/\GS.run cs q.n=⟨q.V,q.Dl,i,q.i,none⟩/\q.V[i]?=some (zn:Int)/\q.Dl zn=Dl zn)
        (fun s=>(Gp cs (zn:Int)).length - s.i) ⟨0,K',hS,hC,hO,ob,oc,V,Dl,C9,n⟩ (by repeat first|exact Sub.nil _|refine Sub.cons rfl ?_) ⟨Nat.zero_le _,ri2,hg,hV,rfl⟩ ?_
      clear slS slC slO ri2 ri hg hV hcV nZ hcv hql hVl iA;rintro⟨k,K0,hS,hC,hO,ob,oc,V,stk',C9,n⟩ ⟨hk,ri,hg,hV,Gy⟩;dsimp only at hk ri hg hV Gy ⊢
      have hVl:V.length≤cl:=N8 ri.nd ri.ea;have iA:C9.length=cl:=by simpa using ri.os.hlen
      have Jt:=Iw cl V;haveI slS:=ri.os.sl;haveI slC:=ri.ok.sl;have hb:Iy cs zn (stk' zn)=some s:=by rw [Gy];exact hb
      have hi3:=(List.getElem?_eq_some_iff.1 hV).1;by_cases MU:k<(Gp cs (zn:Int)).length
      · obtain⟨t,ht⟩:∃t,(Gp cs (zn:Int))[k]?=some t:=⟨_,List.getElem?_eq_getElem MU⟩;have hct:((Gp cs (zn:Int)).map i64)[((k:Nat):Int).toNat*1]?=some (i64 t):=by simp [ht]
        by_cases hr:0≤t/\t<(cl:Int)
        · have Ss:0≤t/\t<(cs.length:Int):=by rw [hl];exact hr
          obtain⟨tn,rfl⟩:=Int.eq_ofNat_of_zero_le hr.1;have hq1:((tn:Nat):Int).toNat*1<(QN cl V).length:=by omega
          have hq2:((tn:Nat):Int).toNat*1<C9.length:=by omega
          have hcm:=NA (V:=V) (show tn<cl by omega);have hcm:(QN cl V)[((tn:Nat):Int).toNat*1]?=some (.bool (decide ((tn:Int)∈V))):=by simpa using hcm
          by_cases hv:(tn:Int)∈V
          · rw [decide_eq_true hv] at hcm
            obtain⟨b2,m2,c2,pU,Yc,LK,s8,L8⟩:=ri.rows tn Ab;have hcv2:C9[((tn:Nat):Int).toNat*1]?=some (.slice b2 m2 c2):=by simpa using pU
            haveI:=jG;haveI:=Yc;have kV:=Hn [K'] b2 b' m2 n' c2 c' (stk' tn) s LK Kp Ab;by_cases he:stk' tn=s
            · rw [decide_eq_true he] at kV
              repeat' (first|apply Cv|refine Ct 0 Cr A9 ?_|refine Ct 1 Cr Ao ?_|refine CO 2 Cr Ar Ab ?_|refine CY 2 Cr Ar Ab ?_|refine Ct 3 Cr Cq ?_|refine Ct 4 Cr Ae ?_|refine Ct 4 Cr (CE rfl rfl rfl rfl rfl (kV)) ?_|refine Cu ?_|apply Cw|refine Cy ?_|refine CH ?_|refine CF ?_|refine CC ?_|apply CB)
              exact⟨rfl,⟨k+1,K',hS,hC,hO,ob,oc,V,stk',C9,n+1⟩,CX (by repeat first|exact Sub.nil _|refine Sub.cons rfl ?_),⟨MU,ri,by rw [Fo hg,RV hV hb ht Ss hv he],hV,Gy⟩,by dsimp only;omega⟩
            · rw [decide_eq_false he] at kV
              repeat' (first|apply Cv|refine Ct 0 Cr Bp ?_|refine CO 2 Cr Ar Ab ?_|refine CY 2 Cr Ar Ab ?_|refine Ct 3 Cr Cl ?_|refine Ct 4 Cr Ae ?_|refine Ct 4 Cr (CE rfl rfl rfl rfl rfl (kV)) ?_|refine CN ?_|refine Cu ?_|apply Cw|refine Cy ?_|refine CH ?_|refine CF ?_|refine CC ?_|apply Cz|apply CB|refine CQ ?_|refine C3 ?_)
              exact CJ [J,hS,K'] (CD (CR rfl rfl rfl rfl)) ⟨K',hS,hC,hO,_,_,ob,oc,V,stk',C9,i,k,n+1,tn,rfl,rfl,ri,by rw [Fo hg,PL hV hb ht Ss hv he]⟩
          · rw [decide_eq_false hv] at hcm
            repeat' (first|refine Gl rfl rfl rfl rfl rfl ri.ok rfl rfl rfl (by exact Nat.succ_pos _) AT (Tp (j:=tn) Am Ab) (fun kV pL=> ?_)|refine Gl rfl rfl rfl rfl rfl ri.os rfl rfl rfl (by exact Nat.succ_pos _) AT (Tp (j:=tn) Am Ab) (fun rU G3=> ?_)|apply Cv|refine Ct 0 Cr Bq ?_|refine CG 0 Cs ?_|refine Ct 1 Cr Ao ?_|refine CO 2 Cr Ar Ab ?_|refine CY 2 Cr Ar Ab ?_|refine Ct 3 Cr Cq ?_|refine CG 3 Cs ?_|refine CG 4 Cs ?_|refine Ct 4 Cr Ae ?_|(refine gk 4 rfl ?_;(refine Ef rfl rfl rfl rfl rfl rfl rfl rfl rfl ri.oo Ah rfl Ah rfl Ab Ab (fun oC Zt nT ra=> ?_)))|refine CP (fun b=> ?_)|refine Cu ?_|apply Cw|refine Cy ?_|refine CH ?_|refine CF ?_|refine CC ?_|apply CB)
            rw [VY (show tn<cl by omega)] at pL
            refine⟨rfl,⟨k+1,K',rU,kV,oC,Zt,nT,V++ [(tn:Int)],fun q=>if q=(tn:Int) then s else stk' q,_,n+1⟩,?_,⟨MU,⟨G3,pL,by rw [List.length_append,List.map_append];exact ra,ri.rows.nC iA Ab jG Kp Ab MS,fj ri.ea Ab,js ri.nd hv⟩,by rw [Fo hg,Uw hV hb ht Ss hv],?_,?_⟩,by dsimp only;omega⟩
            · dsimp only;rw [List.length_append];exact CX (by repeat first|exact Sub.nil _|refine Sub.cons rfl ?_)
            · dsimp only;rw [List.getElem?_append_left hi3];exact hV
            · dsimp only;rw [if_neg (fun e=>hv (by rw [<-e];exact List.mem_of_getElem? hV))];exact Gy
        · have Ss:¬(0≤t/\t<(cs.length:Int)):=by rw [hl];exact hr
          repeat' (first|apply Cv|refine Ct 0 Cr Ay ?_|refine CG 0 Cs ?_|refine Ct 1 Cr Ao ?_|refine CG 2 Cs ?_|refine CO 2 Cr Ar Ab ?_|refine G5 2 Cr Aj (fun h=> ?_) (fun h=> ?_)|refine Ct 3 Cr AK ?_|refine Ct 4 Cr Ae ?_|refine Cu ?_|apply Cw|refine Cy ?_|refine CH ?_|refine CC ?_|refine C1 ?_|apply CB)
          all_goals first|(exfalso;omega)|exact⟨rfl,⟨k+1,K',hS,hC,hO,ob,oc,V,stk',C9,n+1⟩,CX (by repeat first|exact Sub.nil _|refine Sub.cons rfl ?_),⟨MU,ri,by rw [Fo hg,Uv hV hb ht Ss],hV,Gy⟩,by dsimp only;omega⟩
      · have Yz:(Gp cs (zn:Int))[k]?=none:=List.getElem?_eq_none Ab
        repeat' (first|apply Cv|refine Ct 0 Cr Ag ?_|refine Ct 1 Cr Ao ?_|refine CY 2 Cr Aj Ab ?_|refine Ct 4 Cr Ae ?_|refine Cu ?_|apply Cw|refine Cy ?_|refine CF ?_|refine C1 ?_)
        exact⟨rfl,⟨i+1,K',hS,hC,hO,ob,oc,V,stk',C9,n+1⟩,CX (by repeat first|exact Sub.nil _|refine Sub.cons rfl ?_),⟨by dsimp only;omega,ri,by rw [Fo hg,NW hV hb Yz]⟩,by dsimp only;omega⟩
  · have hV:V[i]?=none:=List.getElem?_eq_none Ab
    repeat' (first|apply Cv|refine Ct 0 Cr Ap ?_|refine CY 2 Cr Aj Ab ?_|refine Ct 3 Cr AA ?_|refine Ct 4 Cr Ae ?_|refine CN ?_|refine Cu ?_|apply Cw|refine Cy ?_|refine CF ?_|apply Cz|refine C1 ?_)
    exact CJ [J,hS,K] (CD (CR rfl rfl rfl rfl)) ⟨K,hS,hC,hO,_,_,ob,oc,V,Dl,C9,i,0,n+1, -1,rfl,rfl,ri,by rw [Fo hg,step_done hV]⟩
end Go.Proofs.YtcnmnmjmpocepaaGreatDoor.Nd
end
section
namespace Go.Proofs.YtcnmnmjmpocepaaGreatDoor.Nd
open Go.SL
attribute [local irreducible] SL.T Dw DG DE DI Et D0
theorem bF(J:CA)(p:Value)(lo st:Int)(cb:Option Addr)(cc:Nat):
    SL.T Tryz.prog 37 [MR p lo st cb 0 cc] [J] fun e o=>∃hS sb kb,o= [J,hS,emp]/\e= .returned (.agg ⟨[.slice sb 0 0,.slice kb 0 0,i64 (-1)]⟩)/\OS hS sb 0 0 69 1 []:=by
  refine CM Tryz.func37 rfl (Nat.le_of_ble_eq_true rfl) fun F=> ?_
  refine DH ?_
  repeat' (first|apply Cv|refine Ct 0 Cr Au ?_|refine Ct 3 Cr Af ?_|refine Ct 4 Cr Ae ?_|refine C2 (fun β=> ?_)|refine CT (fun β=> ?_)|refine Cu ?_|apply Cw)
  refine C0 [.q [0],.an 1,.q [2],.an 3,.an 5,.rv 1,.rv 3,.q [4],.rv 5,.h true 6] [] Ac Ac Ac Ac ?_
  repeat' (first|apply Cv|refine Ct 0 Cr Ap ?_|refine CO 2 Cr Al Ab ?_|refine Ct 3 Cr AA ?_|refine Ct 5 Cr Aq ?_|refine CN ?_|refine Cu ?_|refine C5 ?_|refine Dd rfl ?_|refine Dn rfl rfl Cp ?_|refine DN rfl rfl rfl (fun β=> ?_)|refine Df rfl rfl rfl rfl rfl rfl Aa rfl Aa Aa ?_|apply Cw|refine Cy ?_|refine CH ?_|apply Cz|refine CQ ?_)
  rename_i ET Ei JQ EO
  exact CJ [J,CV JQ (.cells ⟨List.replicate 0 (.slice none 0 0)⟩ 69 (0,0)),emp] (CD (CR rfl rfl rfl rfl)) ⟨_,_,_,rfl,rfl,OS.CV rfl⟩
theorem Zo(J:CA)(p:Value)(lo st:Int)(cb:Option Addr)(cl cc:Nat)(cs:List Ins) [iJ:Sl J cb (CZ cs)](hl:cs.length=cl)(DO:cl≤1000000):
    SL.T Tryz.prog 37 [MR p lo st cb cl cc] [J] fun e o=>∃N,o=J::N/\∃K hS sb kb C9,N= [hS,K]/\e= .returned (.agg ⟨[.slice sb cl cl,.slice kb cl cl,i64 (MW cs)]⟩)/\
      OS hS sb cl cl 69 1 C9/\Rows K (Ot cs).Dl cl C9/\(Ot cs).res=some (MW cs):=by
  rcases Nat.eq_zero_or_pos cl with h0|h0
  · subst h0;obtain rfl:cs= []:=List.length_eq_zero_iff.1 hl;obtain⟨h1,h2,h3⟩:=PD (cs:= []) rfl VM;refine(bF J p lo st cb cc).mono ?_;rintro e o ⟨hS,sb,kb,rfl,rfl,os⟩;exact⟨[hS,emp],rfl,emp,hS,sb,kb,[],rfl,by rw [h2],os,fun t ht=>absurd ht (Nat.not_lt_zero _),h3⟩
  · refine(fA J p lo st cb cl cc cs hl DO h0).mono ?_;rintro e o ⟨K,hS,hC,hO,sb,kb,ob,oc,V,Dl,C9,i,k,n,wr,rfl,rfl,ri,hg⟩;obtain⟨h1,rfl,h3⟩:=PD hg rfl;exact⟨[hS,K],rfl,K,hS,sb,kb,C9,rfl,rfl,ri.os,by rw [<-h1];exact ri.rows,h3⟩
end Go.Proofs.YtcnmnmjmpocepaaGreatDoor.Nd
end
