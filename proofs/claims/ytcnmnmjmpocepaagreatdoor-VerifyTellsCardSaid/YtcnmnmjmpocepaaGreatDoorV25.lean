
import Derived.Test.YtcnmnmjmpocepaaGreatDoorV00
import Derived.Test.YtcnmnmjmpocepaaGreatDoorV09
import Derived.Test.YtcnmnmjmpocepaaGreatDoorV24
import Derived.Test.YtcnmnmjmpocepaaGreatDoorV07
set_option linter.unusedVariables false
set_option linter.unusedSimpArgs false
set_option linter.unusedSectionVars false
set_option maxRecDepth 100000
set_option maxHeartbeats 16000000
section
namespace Go.Proofs.YtcnmnmjmpocepaaGreatDoor.Nd
open Go.SL
attribute [local irreducible] SL.T Dw DG DE DI Et D0
structure GW where
  k:Nat
  hM:CA
  hO:CA
  ob:Option Addr
  oc:Nat
  f:Int->Option Value
  V:List Int
  Dl:Int->List Int
  n:Nat
structure GI(cs:List Ins)(K:CA)(bm:Nat)(hM hO:CA)(ob:Option Addr)(oc:Nat)(f:Int->Option Value)(V:List Int)(Dl:Int->List Int):Prop where
  mp:MP hM bm .i64 f
  os:OS hO ob V.length oc 3 1 (V.map i64)
  ws:WS cs K f V Dl
theorem dq (J : CA)(p:Value)(lo st:Int)(cb:Option Addr)(cl cc:Nat)(cs:List Ins) [Sl J cb (CZ cs)](hl:cs.length=cl)(DO:cl≤1000000)(h0:0<cl):
    SL.T Tryz.prog 56 [MR p lo st cb cl cc] [J] fun e o=>∃K hM hO Ed bm ob oc f V Dl i k n wr,o= [J,K,F4 Ed p lo st cb cl cc bm ob V.length oc wr,hM]/\e= .returned (.pointer (some ⟨Ed,0,none⟩))/\
      GI cs K bm hM hO ob oc f V Dl/\GS.run cs n=⟨V,Dl,i,k,some wr⟩:=by
  refine CM Tryz.func56 rfl (Nat.le_of_ble_eq_true rfl) fun F=> ?_
  refine DH ?_;refine DH ?_;have mp0:∀b,MP (CV b (.map #[] 0)) b .i64 (fun _=>none):=fun b=>MP.nil
  repeat' (first|refine Mm rfl rfl rfl rfl (fun bm=> ?_)|apply Cv|refine Ct 3 Cr A2 ?_|(refine gk 4 rfl ?_;(refine CK rfl rfl rfl rfl rfl rfl rfl rfl (VX (CV bm (.map #[] 0)) emp _ p lo st cb cl cc bm none 0 0 (-1) 0 _ (.slice none 0 0) [] ⟨by omega,by omega⟩ (mp0 bm) rfl OS.nil Ab) ?_;rintro _ _ ⟨rfl,hM,hO,ob,oc,rfl,mp,os⟩;refine⟨_,_,rfl,rfl,?_⟩))|(refine gk 4 rfl ?_;(refine CK rfl rfl rfl rfl rfl rfl rfl rfl (Nc _) ?_;rintro _ _ ⟨Gr,rfl,rfl⟩;refine⟨_,_,rfl,rfl,?_⟩))|refine Ct 5 Cr Aq ?_|refine C2 (fun β=> ?_)|refine CT (fun β=> ?_)|refine CN ?_|refine Cu ?_|apply Cw|refine Cy ?_|refine CC ?_)
  rename_i iJ ET Ei Ed
  obtain⟨JQ,rfl⟩:∃x,x=β:=⟨_,rfl⟩;clear mp0;refine PK (hsI:= [CV Gr (.cells ⟨[.pointer (some ⟨Ed,0,none⟩)]⟩ 129 (0,0))]) (nx:=lF Ed)
    (fun i own1=>∃K hM hO ob oc f V Dl n,own1= [F4 Ed p lo st cb cl cc bm ob V.length oc (-1),hM,hO,CV JQ (.cells ⟨[.pointer (some ⟨Ed,0,none⟩)]⟩ 129 (0,0)),CV Ei (.cells ⟨[.pointer none]⟩ 129 (0,0)),F7 ET p lo st cb cl cc,K,J]/\GI cs K bm hM hO ob oc f V Dl/\GS.run cs n=⟨V,Dl,i,0,none⟩)
    (fun own1=>∃K hM hO ob oc f V Dl n i k,own1= [F4 Ed p lo st cb cl cc bm ob V.length oc (-1),hM,hO,CV JQ (.cells ⟨[.pointer (some ⟨Ed,0,none⟩)]⟩ 129 (0,0)),CV Ei (.cells ⟨[.pointer none]⟩ 129 (0,0)),F7 ET p lo st cb cl cc,K,J]/\GI cs K bm hM hO ob oc f V Dl/\GS.run cs n=⟨V,Dl,i,k,some (-1)⟩)
    (fun c own1=>c= .ret/\∃K hM hO ob oc f V Dl n i k wr,own1= [F4 Ed p lo st cb cl cc bm ob V.length oc wr,hM,hO,CV JQ (.cells ⟨[.pointer (some ⟨Ed,0,none⟩)]⟩ 129 (0,0)),CV Ei (.cells ⟨[.pointer (some ⟨Ed,0,none⟩)]⟩ 129 (0,0)),F7 ET p lo st cb cl cc,K,J]/\GI cs K bm hM hO ob oc f V Dl/\GS.run cs n=⟨V,Dl,i,k,some wr⟩)
    rfl (OK Ed Gr) (U6 Ed) rfl ?_ ?_ ?_ ?_
  · exact⟨emp,hM,hO,ob,oc,_,[0],fun _=> [],0,rfl,⟨mp,os,WS.first Ab⟩,rfl⟩
  · clear mp os;clear hM hO ob oc;rintro L i own1 ⟨K,hM,hO,ob,oc,f,V,Dl,n,rfl,gi,hg⟩ Ks;have hVl:=gi.ws.len;have YA:=Fe Ks (List.mem_cons_self ..) _ _ (Dq _ _);have Ps:=gi.os.sl.mono (Fe Ks (List.mem_cons_of_mem _ (List.mem_cons_of_mem _ (List.mem_cons_self ..))));rcases hV:V[i]? with _|z
    · exact .inr ⟨⟨_,_,_,_,_,ob,V.length,oc,_,V,YA,Ps,rfl,by omega,by rw [hV];rfl⟩,K,hM,hO,ob,oc,f,V,Dl,n+1,i,0,rfl,gi,by rw [Fo hg,step_done hV]⟩
    · refine .inl ⟨[i64 z],⟨_,_,_,_,_,ob,V.length,oc,_,V,YA,Ps,rfl,by omega,by rw [hV];rfl⟩,rfl,fun F1=>⟨_,rfl,?_⟩⟩;have hzm:=List.mem_of_getElem? hV;obtain⟨nW,Sr⟩:=gi.ws.ea z hzm;obtain⟨b,n1,c,hf,Rj,Ww,NP,s7⟩:=gi.ws.lM z hzm;obtain⟨zn,rfl⟩:=Int.eq_ofNat_of_zero_le nW;have hB:=YV J K hM Ed p lo st cb cl cc bm ob V.length oc (-1) cs zn f b n1 c (Dl zn) Rj hl DO Ab gi.mp hf Ww NP Ab;rcases hb:Iy cs zn (Dl zn) with _|s
      · rw [hb] at hB
        repeat' (first|refine Ct 0 Cr Au ?_|refine Cu ?_|apply Cw|refine Cy ?_)
        intro F2
        repeat' (first|apply Cv|refine Ct 0 Cr Bg ?_|refine Ct 3 Cr Af ?_|(refine gk 4 rfl ?_;(refine CK rfl rfl rfl rfl rfl rfl rfl rfl (hB) ?_;rintro _ _ ⟨K',rfl,hK,b',n',c',rfl,hS⟩;refine⟨_,_,rfl,rfl,?_⟩))|refine Ct 5 Cr Ak ?_|refine CN ?_|refine Cu ?_|apply Cw|refine Cy ?_|refine CH ?_|refine CC ?_|apply Cz|refine CQ ?_|refine C3 ?_)
        exact JV [F4 Ed p lo st cb cl cc bm ob V.length oc zn,hM,hO,CV JQ (.cells ⟨[.pointer (some ⟨Ed,0,none⟩)]⟩ 129 (0,0)),CV Ei (.cells ⟨[.pointer (some ⟨Ed,0,none⟩)]⟩ 129 (0,0)),F7 ET p lo st cb cl cc,K',J] ⟨rfl,K',hM,hO,ob,oc,f,V,Dl,n+1,i,0,zn,rfl,⟨gi.mp,gi.os,gi.ws.mono hK⟩,by rw [Fo hg,Ux hV hb]⟩
      · rw [hb] at hB
        repeat' (first|refine Ct 0 Cr Au ?_|refine Cu ?_|apply Cw|refine Cy ?_)
        intro F2;have Gt:=H6 cs (zn:Int)
        repeat' (first|apply Cv|refine Ct 0 Cr AV ?_|refine Ct 3 Cr A2 ?_|refine Ct 4 Cr Ae ?_|(refine gk 4 rfl ?_;(refine CK rfl rfl rfl rfl rfl rfl rfl rfl (hB) ?_;rintro _ _ ⟨K',rfl,hK,b',n',c',rfl,hS⟩;obtain⟨Kp,MS,jG⟩:=hS _ rfl;refine⟨_,_,rfl,rfl,?_⟩))|(refine gk 4 rfl ?_;(refine Gg rfl rfl rfl rfl rfl rfl rfl rfl (XZ _ p lo st cb cl cc cs (zn:Int) hl Ab) ?_;rintro _ _ ⟨hN,bN,cN,rfl,rfl,osN⟩;haveI slN:=osN.sl;refine⟨_,_,rfl,rfl,?_⟩))|refine Cu ?_|apply Cw|refine Cy ?_|refine CF ?_|refine CC ?_|apply CB)
        have hs8:=Wb hb Ab;have gi2:GI cs K' bm hM hO ob oc f V Dl:=⟨gi.mp,gi.os,gi.ws.mono hK⟩;clear osN hB;refine C4 (fun s:GW=> [(1,.pointer (some ⟨ET,0,none⟩)),(2,.pointer (some ⟨Ei,0,none⟩)),(3,.pointer (some ⟨JQ,0,none⟩)),(5,.slice b' n' c'),(33,.slice bN (Gp cs (zn:Int)).length cN),(34,i64 ((Gp cs (zn:Int)).length:Int)),(35,i64 (s.k:Int))])
          (fun s=> [hN,F4 Ed p lo st cb cl cc bm s.ob s.V.length s.oc (-1),s.hM,s.hO,CV JQ (.cells ⟨[.pointer (some ⟨Ed,0,none⟩)]⟩ 129 (0,0)),CV Ei (.cells ⟨[.pointer none]⟩ 129 (0,0)),F7 ET p lo st cb cl cc,K',J])
          (fun s=>s.k≤(Gp cs (zn:Int)).length/\GI cs K' bm s.hM s.hO s.ob s.oc s.f s.V s.Dl/\GS.run cs s.n=⟨s.V,s.Dl,i,s.k,none⟩/\s.V[i]?=some (zn:Int)/\s.Dl zn=Dl zn)
          (fun s=>(Gp cs (zn:Int)).length - s.k) ⟨0,hM,hO,ob,oc,f,V,Dl,n⟩ (by repeat first|exact Sub.nil _|refine Sub.cons rfl ?_) ⟨Nat.zero_le _,gi2,hg,hV,rfl⟩ ?_
        clear gi2 gi hg hV hf hVl YA Ps;rintro⟨k,hM,hO,ob,oc,f,V,stk',n⟩ ⟨hk,gi,hg,hV,Gy⟩;dsimp only at hk gi hg hV Gy ⊢
        have hVl:=gi.ws.len;have hb:Iy cs zn (stk' zn)=some s:=by rw [Gy];exact hb
        by_cases MU:k<(Gp cs (zn:Int)).length
        · obtain⟨t,ht⟩:∃t,(Gp cs (zn:Int))[k]?=some t:=⟨_,List.getElem?_eq_getElem MU⟩;have hct:((Gp cs (zn:Int)).map i64)[((k:Nat):Int).toNat*1]?=some (i64 t):=by simp [ht]
          by_cases hr:0≤t/\t<(cl:Int)
          · have Ss:0≤t/\t<(cs.length:Int):=by rw [hl];exact hr
            by_cases hv:t∈V
            · obtain⟨b1,n2,c1,SF,NN,VD,L9,rY⟩:=gi.ws.lM t hv;haveI:=jG;haveI:=NN;have hC:=dK K' hM Ed p lo st cb cl cc bm ob V.length oc (-1) t f b' b1 n' c' n2 c1 s (stk' t) hr gi.mp SF Kp VD Ab Ab;by_cases he:stk' t=s
              · rw [decide_eq_true he] at hC
                repeat' (first|apply Cv|refine Ct 0 Cr AS ?_|refine Ct 1 Cr Ao ?_|refine CO 2 Cr Aj Ab ?_|refine Ct 3 Cr BY ?_|refine Ct 4 Cr (CE rfl rfl rfl rfl rfl (hC)) ?_|refine Cu ?_|apply Cw|refine Cy ?_|refine CH ?_|refine CF ?_|refine CC ?_|apply CB)
                exact⟨rfl,⟨k+1,hM,hO,ob,oc,f,V,stk',n+1⟩,CX (by repeat first|exact Sub.nil _|refine Sub.cons rfl ?_),⟨MU,gi,by rw [Fo hg,RV hV hb ht Ss hv he],hV,Gy⟩,by dsimp only;omega⟩
              · rw [decide_eq_false he] at hC
                repeat' (first|apply Cv|refine Ct 0 Cr A3 ?_|refine CO 2 Cr Aj Ab ?_|refine Ct 3 Cr A8 ?_|refine Ct 4 Cr (CE rfl rfl rfl rfl rfl (hC)) ?_|refine Ct 5 Cr Ak ?_|refine CN ?_|refine Cu ?_|apply Cw|refine Cy ?_|refine CH ?_|refine CC ?_|apply Cz|apply CB|refine CQ ?_|refine C3 ?_)
                exact JV [F4 Ed p lo st cb cl cc bm ob V.length oc t,hM,hO,CV JQ (.cells ⟨[.pointer (some ⟨Ed,0,none⟩)]⟩ 129 (0,0)),CV Ei (.cells ⟨[.pointer (some ⟨Ed,0,none⟩)]⟩ 129 (0,0)),F7 ET p lo st cb cl cc,K',J] ⟨rfl,K',hM,hO,ob,oc,f,V,stk',n+1,i,k,t,rfl,gi,by rw [Fo hg,PL hV hb ht Ss hv he]⟩
            · obtain⟨ZP,Wt⟩:=gi.ws.out t hv
              repeat' (first|apply Cv|refine Ct 0 Cr AS ?_|refine Ct 1 Cr Ao ?_|refine CO 2 Cr Aj Ab ?_|refine Ct 3 Cr BY ?_|(refine gk 4 rfl ?_;(refine CK rfl rfl rfl rfl rfl rfl rfl rfl (VX hM hO Ed p lo st cb cl cc bm ob V.length oc (-1) t f (.slice b' n' c') V hr gi.mp ZP gi.os Ab) ?_;rintro _ _ ⟨rfl,Up,oC,Zt,nT,rfl,kJ,G3⟩;refine⟨_,_,rfl,rfl,?_⟩))|refine Cu ?_|apply Cw|refine Cy ?_|refine CH ?_|refine CF ?_|refine CC ?_|apply CB)
              refine⟨rfl,⟨k+1,Up,oC,Zt,nT,_,V++ [t],fun q=>if q=t then s else stk' q,n+1⟩,?_,⟨MU,⟨kJ,by rw [List.length_append];exact G3,gi.ws.add Ss hv jG Kp MS Ab⟩,by rw [Fo hg,Uw hV hb ht Ss hv],?_,?_⟩,by dsimp only;omega⟩
              · dsimp only;rw [List.length_append];exact CX (by repeat first|exact Sub.nil _|refine Sub.cons rfl ?_)
              · dsimp only;rw [List.getElem?_append_left (List.getElem?_eq_some_iff.1 hV).1];exact hV
              · dsimp only;rw [if_neg (fun e=>hv (by rw [<-e];exact List.mem_of_getElem? hV))];exact Gy
          · have Ss:¬(0≤t/\t<(cs.length:Int)):=by rw [hl];exact hr
            repeat' (first|apply Cv|refine Ct 0 Cr AS ?_|refine Ct 1 Cr Ao ?_|refine CO 2 Cr Aj Ab ?_|refine Ct 3 Cr BY ?_|refine Ct 4 Cr (CE rfl rfl rfl rfl rfl (VW Ed p lo st cb cl cc bm ob V.length oc (-1) t _ Ab)) ?_|refine Cu ?_|apply Cw|refine Cy ?_|refine CH ?_|refine CF ?_|refine CC ?_|apply CB)
            exact⟨rfl,⟨k+1,hM,hO,ob,oc,f,V,stk',n+1⟩,CX (by repeat first|exact Sub.nil _|refine Sub.cons rfl ?_),⟨MU,gi,by rw [Fo hg,Uv hV hb ht Ss],hV,Gy⟩,by dsimp only;omega⟩
        · have Yz:(Gp cs (zn:Int))[k]?=none:=List.getElem?_eq_none Ab
          repeat' (first|apply Cv|refine CY 2 Cr Aj Ab ?_|refine Cu ?_|apply Cw|refine CF ?_|refine C1 ?_|refine Ja ?_|refine Gf ?_|refine Gh ?_)
          exact Lx [F4 Ed p lo st cb cl cc bm ob V.length oc (-1),hM,hO,CV JQ (.cells ⟨[.pointer (some ⟨Ed,0,none⟩)]⟩ 129 (0,0)),CV Ei (.cells ⟨[.pointer none]⟩ 129 (0,0)),F7 ET p lo st cb cl cc,K',J] ⟨K',hM,hO,ob,oc,f,V,stk',n+1,rfl,gi,by rw [Fo hg,NW hV hb Yz]⟩
  · clear mp os;clear hM hO ob oc;rintro D own1 ⟨K,hM,hO,ob,oc,f,V,Dl,n,i,k,rfl,gi,hg⟩;refine⟨_,rfl,?_⟩
    repeat' (first|apply Cv|refine Ct 3 Cr AN ?_|refine CN ?_|refine Cu ?_|apply Cw|refine Cy ?_|apply Cz)
    exact CJ [J,K,F4 Ed p lo st cb cl cc bm ob V.length oc (-1),hM] (CD (Gn rfl rfl rfl)) ⟨K,hM,hO,Ed,bm,ob,oc,f,V,Dl,i,k,n, -1,rfl,rfl,gi,hg⟩
  · clear mp os;clear hM hO ob oc;rintro D c own1 ⟨rfl,K,hM,hO,ob,oc,f,V,Dl,n,i,k,wr,rfl,gi,hg⟩;refine⟨_,rfl,?_⟩
    repeat' (first|apply Cz|refine CQ ?_|refine C3 ?_)
    exact CJ [J,K,F4 Ed p lo st cb cl cc bm ob V.length oc wr,hM] (CD (Gn rfl rfl rfl)) ⟨K,hM,hO,Ed,bm,ob,oc,f,V,Dl,i,k,n,wr,rfl,rfl,gi,hg⟩
end Go.Proofs.YtcnmnmjmpocepaaGreatDoor.Nd
end
section
namespace Go.Proofs.YtcnmnmjmpocepaaGreatDoor.Nd
open Go.SL
attribute [local irreducible] SL.T Dw DG DE DI Et D0
open Classical in
noncomputable def Ot(cs:List Ins):GS:=if h:∃n,(GS.run cs n).res.isSome then GS.run cs (Classical.choose h) else GS.start
theorem gB{cs:List Ins}{n:Nat}(h:(GS.run cs n).res.isSome):GS.run cs n=Ot cs:=by
  unfold Ot;rw [dif_pos ⟨n,h⟩];exact GS.one h (Classical.choose_spec (⟨n,h⟩:∃n,(GS.run cs n).res.isSome))
noncomputable def MW(cs:List Ins):Int:=(Ot cs).res.getD (-1)
theorem PD{cs:List Ins}{n:Nat}{g:GS}{wr:Int}(h:GS.run cs n=g)(hr:g.res=some wr):g=Ot cs/\wr=MW cs/\(Ot cs).res=some (MW cs):=by
  have e:=gB (cs:=cs) (n:=n) (by rw [h,hr];rfl);rw [h] at e
  have:wr=MW cs:=by unfold MW;rw [<-e,hr];rfl
  exact⟨e,this,by rw [<-e,hr,this]⟩
theorem fg (cs:List Ins)(n:Nat):(∀z∈(GS.run cs n).V,0≤z)/\∀r,(GS.run cs n).res=some r->r= -1∨0≤r:=by
  induction n with
  |zero=>exact⟨fun z hz=>by rw [List.mem_singleton.1 hz];omega,fun r hr=>by cases hr⟩
  | succ n ih =>
    rw [GS.run,GS.step]
    generalize GS.run cs n=g at ih
    split
    · exact ih
    · split
      · exact⟨ih.1,fun r hr=>by cases hr;exact .inl rfl⟩
      · rename_i z hz
        split
        · exact⟨ih.1,fun r hr=>by cases hr;exact .inr (ih.1 z (List.mem_of_getElem? hz))⟩
        · split
          · exact ih
          · split
            · rename_i t ht hr
              split
              · split
                · exact ih
                · exact⟨ih.1,fun r ZJ=>by cases ZJ;exact .inr hr.1⟩
              · exact⟨fun z hz=>by
                  rcases List.mem_append.1 hz with hz|hz
                  · exact ih.1 z hz
                  · rw [List.mem_singleton.1 hz];exact hr.1,ih.2⟩
            · exact ih
theorem eG{cs:List Ins}(h:(Ot cs).res=some (MW cs)):MW cs= -1∨0≤MW cs:=by
  unfold Ot at h
  split at h
  · exact(fg cs _).2 _ h
  · cases h
theorem kZ{cs:List Ins}(h:(Ot cs).res=some (MW cs))(h2:¬0≤MW cs):MW cs= -1:=(eG h).resolve_right h2
def gT(K:CA)(v:Option Value)(s:List Int):Prop:=(v=none/\s= [])∨∃b n c,v=some (.slice b n c)/\Sl K b (s.map i64)/\s.length=n/\n≤c/\n≤8
theorem ZU(J:CA)(p:Value)(lo st:Int)(cb:Option Addr)(cc:Nat) [Sl J cb (CZ [])]:
    SL.T Tryz.prog 56 [MR p lo st cb 0 cc] [J] fun e o=>∃K hM Ed bm,o= [J,K,F4 Ed p lo st cb 0 cc bm none 0 0 (-1),hM]/\e= .returned (.pointer (some ⟨Ed,0,none⟩))/\MP hM bm .i64 (fun _=>none):=by
  refine CM Tryz.func56 rfl (Nat.le_of_ble_eq_true rfl) fun F=> ?_
  refine DH ?_
  repeat' (first|refine Mm rfl rfl rfl rfl (fun bm=> ?_)|apply Cv|refine Ct 3 Cr A2 ?_|refine Ct 4 Cr (CE rfl rfl rfl rfl rfl (VW _ p lo st cb 0 cc bm none 0 0 (-1) 0 _ Ab)) ?_|(refine gk 4 rfl ?_;(refine CK rfl rfl rfl rfl rfl rfl rfl rfl (Nc _) ?_;rintro _ _ ⟨Gr,rfl,rfl⟩;refine⟨_,_,rfl,rfl,?_⟩))|refine Ct 5 Cr Aq ?_|refine C2 (fun β=> ?_)|refine CT (fun β=> ?_)|refine CN ?_|refine Cu ?_|apply Cw|refine Cy ?_|refine CC ?_)
  rename_i iJ ET Ei Ed
  obtain⟨JQ,rfl⟩:∃x,x=β:=⟨_,rfl⟩;refine PK (hsI:= [CV Gr (.cells ⟨[.pointer (some ⟨Ed,0,none⟩)]⟩ 129 (0,0))]) (nx:=lF Ed)
    (fun i own1=>own1= [CV JQ (.cells ⟨[.pointer (some ⟨Ed,0,none⟩)]⟩ 129 (0,0)),F4 Ed p lo st cb 0 cc bm none 0 0 (-1),CV bm (.map #[] 0),CV Ei (.cells ⟨[.pointer none]⟩ 129 (0,0)),F7 ET p lo st cb 0 cc,emp,J])
    (fun own1=>own1= [CV JQ (.cells ⟨[.pointer (some ⟨Ed,0,none⟩)]⟩ 129 (0,0)),F4 Ed p lo st cb 0 cc bm none 0 0 (-1),CV bm (.map #[] 0),CV Ei (.cells ⟨[.pointer none]⟩ 129 (0,0)),F7 ET p lo st cb 0 cc,emp,J])
    (fun c own1=>False)
    rfl (OK Ed Gr) (U6 Ed) rfl rfl ?_ ?_ ?_
  · rintro L i own1 rfl Ks;exact .inr ⟨⟨_,_,_,_,_,none,0,0,_,[],Fe Ks (List.mem_cons_of_mem _ (List.mem_cons_self ..)) _ _ (Dq _ _),Sl.none,rfl,by omega,rfl⟩,rfl⟩
  · rintro D own1 rfl;refine⟨_,rfl,?_⟩
    repeat' (first|apply Cv|refine Ct 3 Cr AN ?_|refine CN ?_|refine Cu ?_|apply Cw|refine Cy ?_|apply Cz)
    exact CJ [J,emp,F4 Ed p lo st cb 0 cc bm none 0 0 (-1),CV bm (.map #[] 0)] (CD (Gn rfl rfl rfl)) ⟨emp,_,Ed,bm,rfl,rfl,MP.nil⟩
  · rintro D c own1 ⟨⟩
theorem VM:(GS.run [] 2).res=some (-1):=by
  have h1:GS.run [] 1=⟨[0],fun _=> [],1,0,none⟩:=by
    rw [Fo (n:=0) (g:=⟨[0],fun _=> [],0,0,none⟩) rfl];exact NW (z:=0) (s:= []) rfl Ah (by rw [Xa Am];rfl)
  rw [Fo h1,step_done rfl]
theorem XG(J:CA)(p:Value)(lo st:Int)(cb:Option Addr)(cl cc:Nat)(cs:List Ins) [iJ:Sl J cb (CZ cs)](hl:cs.length=cl)(DO:cl≤1000000):
    SL.T Tryz.prog 56 [MR p lo st cb cl cc] [J] fun e o=>∃K hM Ed bm ob on oc f,o= [J,K,F4 Ed p lo st cb cl cc bm ob on oc (MW cs),hM]/\e= .returned (.pointer (some ⟨Ed,0,none⟩))/\
      MP hM bm .i64 f/\(Ot cs).res=some (MW cs)/\∀t:Int,0≤t->t<cl->gT K (f t) ((Ot cs).Dl t):=by
  rcases Nat.eq_zero_or_pos cl with h0|h0
  · subst h0;obtain rfl:cs= []:=List.length_eq_zero_iff.1 hl;obtain⟨h1,h2,h3⟩:=PD (cs:= []) rfl VM;refine(ZU J p lo st cb cc).mono ?_;rintro e o ⟨K,hM,Ed,bm,rfl,rfl,mp⟩;exact⟨K,hM,Ed,bm,none,0,0,_,by rw [<-h2],rfl,mp,h3,fun t ht rz=>by omega⟩
  · refine(dq J p lo st cb cl cc cs hl DO h0).mono ?_;rintro e o ⟨K,hM,hO,Ed,bm,ob,oc,f,V,Dl,i,k,n,wr,rfl,rfl,gi,hg⟩;obtain⟨h1,rfl,h3⟩:=PD hg rfl;refine⟨K,hM,Ed,bm,ob,V.length,oc,f,rfl,rfl,gi.mp,h3,fun t ht rz=> ?_⟩;rw [<-h1];by_cases hv:t∈V
    · obtain⟨b,n1,c,h5,h6,h7,h8,h9⟩:=gi.ws.lM t hv;exact .inr ⟨b,n1,c,h5,h6,h7,h8,h9⟩
    · exact .inl (gi.ws.out t hv)
theorem GM(J:CA)(p:Value)(lo st:Int)(cb:Option Addr)(cl cc:Nat)(cs:List Ins) [iJ:Sl J cb (CZ cs)](hl:cs.length=cl)(DO:cl≤1000000):
    SL.T Tryz.prog 22 [MR p lo st cb cl cc] [J] fun e o=>∃N,o=J::N/\N= []/\e= .returned (.tuple ⟨[i64 (MW cs),i64 (if 0≤MW cs then 10 else 0)]⟩)/\(Ot cs).res=some (MW cs):=by
  refine CM Tryz.func22 rfl (Nat.le_of_ble_eq_true rfl) fun F=> ?_
  repeat' (first|apply Cv|refine Ct 0 Cr Ag ?_|refine G5 2 Cr AB (fun h=> ?_) (fun h=> ?_)|refine Ct 3 Cr AE ?_|(refine gk 4 rfl ?_;(refine CK rfl rfl rfl rfl rfl rfl rfl rfl (XG J p lo st cb cl cc cs hl DO) ?_;rintro _ _ ⟨K,hM,Ed,bm,ob,on,oc,f,rfl,rfl,mp,hE,hS⟩;refine⟨_,_,rfl,rfl,?_⟩))|refine Ct 5 Cr Ak ?_|refine C2 (fun β=> ?_)|refine Cu ?_|apply Cw|refine Cy ?_|refine CH ?_|refine CF ?_|apply Cz|apply CB|refine CQ ?_)
  all_goals
    first
    |exact CJ [J] (CU (Cx rfl) (Cx rfl)) ⟨[],rfl,rfl,by rw [if_pos Ad],hE⟩
    |exact CJ [J] (CU (Cx rfl) (Cx rfl)) ⟨[],rfl,rfl,by rw [if_neg Ad,kZ hE Ad],hE⟩
end Go.Proofs.YtcnmnmjmpocepaaGreatDoor.Nd
end
section
namespace Go.Proofs.YtcnmnmjmpocepaaGreatDoor.Nd
open Go.SL
attribute [local irreducible] SL.T Dw DG DE DI Et D0
def Rows(K:CA)(Dl:Int->List Int)(k:Nat)(C9:List Value):Prop:=∀t:Nat,t<k->∃b m c,C9[t]?=some (.slice b m c)/\Sl K b ((Dl t).map i64)/\(Dl t).length=m/\m≤8/\m≤c
theorem Rows.mono{K K':CA}{Dl:Int->List Int}{k:Nat}{C9:List Value}(h:Rows K Dl k C9)(hK:hle K K'):Rows K' Dl k C9:=fun t ht=>by
  obtain⟨b,m,c,h1,h2,h3⟩:=h t ht;exact⟨b,m,c,h1,h2.mono hK,h3⟩
theorem Tp{gs:List Value}{k j:Nat}{z:Value}(e:k=j)(hk:j<gs.length):gs.take k++ [z]++gs.drop (k+1)=gs.set j z:=by
  subst e;rw [List.set_eq_take_append_cons_drop,if_pos hk];simp
end Go.Proofs.YtcnmnmjmpocepaaGreatDoor.Nd
end
section
namespace Go.Proofs.YtcnmnmjmpocepaaGreatDoor.Nd
open Go.SL
attribute [local irreducible] SL.T Dw DG DE DI Et D0
theorem W4(J:CA)(p:Value)(lo st:Int)(cb:Option Addr)(cl cc:Nat)(cs:List Ins)(z:Int) [Sl J cb (CZ cs)](hl:cs.length=cl)(DO:cl≤1000000)(h:KF cs z=none):
    Dw Tryz.prog 122 [MR p lo st cb cl cc,i64 z] [J] (.tuple ⟨[i64 0,.bool false]⟩):=
  (KZ J p lo st cb cl cc cs z hl DO).to (by rw [h];rfl)
theorem W3(J:CA)(p:Value)(lo st:Int)(cb:Option Addr)(cl cc:Nat)(cs:List Ins)(z:Int) [Sl J cb (CZ cs)](hl:cs.length=cl)(DO:cl≤1000000){k:Int}(h:KF cs z=some k):
    Dw Tryz.prog 122 [MR p lo st cb cl cc,i64 z] [J] (.tuple ⟨[i64 k,.bool true]⟩):=
  (KZ J p lo st cb cl cc cs z hl DO).to (by rw [h];rfl)
theorem YB(own:List CA)(b:Option Addr)(n c:Nat)(xs:List Int)(v:Int) [Ds own b (xs.map i64)](h1:xs.length=n)(DO:n≤9223372036854775807){bb:Bool}(hb:decide (v∈xs)=bb):
    Dw Tryz.prog 124 [.slice b n c,i64 v] own (.bool bb):=by
  rw [<-hb];exact LL own b n c xs v h1 DO
theorem Ro (J K:CA)(p:Value)(lo st:Int)(cb:Option Addr)(cl cc:Nat)(cs:List Ins)(z:Nat)(b:Option Addr)(n c:Nat)(xs:List Int)
    [Sl J cb (CZ cs)] [ie:Sl K b (xs.map i64)] (hl:cs.length=cl) (DO:cl≤1000000) (hz:z<cl) (hn:xs.length=n) (NP:n≤c) (gh:n≤1000000):
    SL.T Tryz.prog 69 [MR p lo st cb cl cc,i64 (z:Int),.slice b n c] [J,K] fun e o=>∃N,o= [J,K]++N/\
      ∃b' n' c',e= .returned (aj b' n' c' (Iy cs z xs).isSome)/\BQ K N (Iy cs z xs) b' n' c':=by
  obtain⟨⟨op,a,b0⟩,hx⟩:∃x,cs[z]?=some x:=⟨_,List.getElem?_eq_getElem Ab⟩;rw [YN hx];obtain⟨c0,c1,c2⟩:=D9 hx;have c0:(CZ cs)[((z:Nat):Int).toNat*3]?=some (i64 op):=c0;have c1:(CZ cs)[((z:Nat):Int).toNat*3+1]?=some (i64 a):=c1;have c2:(CZ cs)[((z:Nat):Int).toNat*3+2]?=some (i64 b0):=c2;have hfl:=Dc cs;have hq:((z:Nat):Int).toNat*3<(CZ cs).length:=by rw [hfl];omega
  by_cases h5:Li op
  · rcases hk:KF cs z with _|k
    · have hA:=W4 J p lo st cb cl cc cs z hl DO hk;refine CM Tryz.func69 rfl (Nat.le_of_ble_eq_true rfl) fun F=> ?_
      repeat' (first|apply Cv|refine Ct 0 Cr Cm ?_|refine Ct 3 Cr AI ?_|refine Ct 4 Cr (CE rfl rfl rfl rfl rfl (hA)) ?_|refine CO 4 Cr (CE rfl rfl rfl rfl rfl (D3 _)) Ab ?_|refine C2 (fun β=> ?_)|refine CT (fun β=> ?_)|refine CN ?_|refine Cu ?_|apply Cw|refine Cy ?_|refine CH ?_|apply Cz|refine CQ ?_)
      rw [if_pos ⟨h5,rfl⟩];exact CJ [J,K] (CU (Cx rfl) (Cx rfl)) ⟨[],rfl,_,_,_,rfl,fun s hs=>by cases hs⟩
    · have hA:=W3 J p lo st cb cl cc cs z hl DO hk;rw [if_neg Am];rcases Jf.1 h5 with rfl|rfl|rfl|rfl|rfl
      · have e:RM 12 (if(12:Int)=3 then a else(some k).getD 0) xs=if xs.length<8/\k∉xs then some (xs++ [k]) else none:=rfl
        rw [e];by_cases hv:k∈xs
        · have hH:=YB [K] b n c xs k hn Ab (decide_eq_true hv);rw [if_neg fun h=>h.2 hv];refine CM Tryz.func69 rfl (Nat.le_of_ble_eq_true rfl) fun F=> ?_
          repeat' (first|apply Cv|refine Ct 0 Cr A1 ?_|refine CG 0 Cs ?_|refine CG 2 Cs ?_|refine CO 2 Cr Al Ab ?_|refine Ct 3 Cr AI ?_|refine CG 4 Cs ?_|refine Ct 4 Cr (CE rfl rfl rfl rfl rfl (hA)) ?_|refine CO 4 Cr (CE rfl rfl rfl rfl rfl (D3 _)) Ab ?_|refine Ct 4 Cr (CE rfl rfl rfl rfl rfl (hH)) ?_|refine C2 (fun β=> ?_)|refine CT (fun β=> ?_)|refine CN ?_|refine Cu ?_|apply Cw|refine Cy ?_|refine CH ?_|refine CF ?_|refine CC ?_|apply Cz|apply CB|refine CQ ?_|refine C3 ?_)
          exact CJ [J,K] (CU (Cx rfl) (Cx rfl)) ⟨[],rfl,_,_,_,rfl,fun s hs=>by cases hs⟩
        · have hH:=YB [K] b n c xs k hn Ab (decide_eq_false hv);by_cases h8:n<8
          · rw [if_pos ⟨by omega,hv⟩];refine CM Tryz.func69 rfl (Nat.le_of_ble_eq_true rfl) fun F=> ?_
            repeat' (first|apply Cv|refine Ct 0 Cr BK ?_|refine CO 2 Cr Cn Ab ?_|refine CY 2 Cr AB Ab ?_|refine Ct 3 Cr AI ?_|refine Ct 4 Cr Ae ?_|refine Ct 4 Cr (CE rfl rfl rfl rfl rfl (hA)) ?_|refine CO 4 Cr (CE rfl rfl rfl rfl rfl (D3 _)) Ab ?_|refine Ct 4 Cr (CE rfl rfl rfl rfl rfl (hH)) ?_|refine CP (fun b=> ?_)|refine C2 (fun β=> ?_)|refine CT (fun β=> ?_)|refine CN ?_|refine Cu ?_|apply Cw|refine Cy ?_|refine CH ?_|refine CF ?_|refine CC ?_|apply CB)
            refine EH rfl rfl rfl rfl rfl rfl rfl rfl rfl (OS.CV (len:=0) (sz:=1) (cs:= []) rfl) (news:=xs.map i64) (by simp [hn]) Ah (Nr _) Ab Ab (fun h1 b1 c1 E2 YA=> ?_);rw [Nat.zero_add,List.nil_append] at E2
            rw [Nat.zero_add]
            repeat' (first|refine Ct 0 Cr Ag ?_|(refine gk 4 rfl ?_;(refine Ef rfl rfl rfl rfl rfl rfl rfl rfl rfl E2 Ah rfl Ah rfl Ab Ab (fun h2 b2 c2 G3=> ?_)))|refine CP (fun b=> ?_)|apply Cw|refine Cy ?_|apply Cz|refine CQ ?_|refine C3 ?_)
            refine CJ [J,K,h2] (CU (Cx rfl) (Cx rfl)) ⟨[h2],rfl,b2,n+1,c2,rfl,fun s hs=> ?_⟩;cases hs;refine⟨by simp [hn],G3.hle,h2,by simp,?_⟩;rw [List.map_append];exact G3.sl
          · rw [if_neg fun h=>h8 Ab];refine CM Tryz.func69 rfl (Nat.le_of_ble_eq_true rfl) fun F=> ?_
            repeat' (first|apply Cv|refine Ct 0 Cr BK ?_|refine CO 2 Cr Cn Ab ?_|refine Ct 3 Cr AI ?_|refine Ct 4 Cr Ae ?_|refine Ct 4 Cr (CE rfl rfl rfl rfl rfl (hA)) ?_|refine CO 4 Cr (CE rfl rfl rfl rfl rfl (D3 _)) Ab ?_|refine Ct 4 Cr (CE rfl rfl rfl rfl rfl (hH)) ?_|refine C2 (fun β=> ?_)|refine CT (fun β=> ?_)|refine CN ?_|refine Cu ?_|apply Cw|refine Cy ?_|refine CH ?_|refine CF ?_|refine CC ?_|apply Cz|apply CB|refine CQ ?_|refine C3 ?_)
            exact CJ [J,K] (CU (Cx rfl) (Cx rfl)) ⟨[],rfl,_,_,_,rfl,fun s hs=>by cases hs⟩
      · have e:RM 13 (if(13:Int)=3 then a else(some k).getD 0) xs=if xs.getLast?=some k then some xs.dropLast else none:=rfl
        rw [e];rcases List.eq_nil_or_concat xs with h0|⟨ys,y,h0⟩
        · subst h0;obtain rfl:n=0:=by simpa using hn.symm
          refine CM Tryz.func69 rfl (Nat.le_of_ble_eq_true rfl) fun F=> ?_
          repeat' (first|apply Cv|refine Ct 0 Cr A1 ?_|refine CG 0 Cs ?_|refine CG 1 Cs ?_|refine CG 2 Cs ?_|refine CO 2 Cr Al Ab ?_|refine CY 2 Cr Al Ab ?_|refine Ct 3 Cr AI ?_|refine CG 3 Cs ?_|refine CG 4 Cs ?_|refine Ct 4 Cr Ae ?_|refine Ct 4 Cr (CE rfl rfl rfl rfl rfl (hA)) ?_|refine CO 4 Cr (CE rfl rfl rfl rfl rfl (D3 _)) Ab ?_|refine C2 (fun β=> ?_)|refine CT (fun β=> ?_)|refine CN ?_|refine Cu ?_|apply Cw|refine Cy ?_|refine CH ?_|refine CF ?_|refine CC ?_|apply Cz|apply CB|refine CQ ?_|refine C3 ?_)
          exact CJ [J,K] (CU (Cx rfl) (Cx rfl)) ⟨[],rfl,_,_,_,rfl,fun s hs=>by cases hs⟩
        · rw [List.concat_eq_append] at h0
          subst h0;obtain⟨m,rfl⟩:∃m,n=m+1:=⟨ys.length,by simpa using hn.symm⟩;have hym:ys.length=m:=by simpa using hn
          have hcx:((ys++ [y]).map i64)[(((m+1:Nat):Int) - 1).toNat*1]?=some (i64 y):=by
            have e:(((m+1:Nat):Int) - 1).toNat*1=ys.length:=by omega
            rw [e];simp
          have hfl2:((ys++ [y]).map i64).length=m+1:=by simp [hym]
          rw [List.getLast?_concat,List.dropLast_concat];by_cases hy:y=k
          · subst hy;rw [if_pos rfl];refine CM Tryz.func69 rfl (Nat.le_of_ble_eq_true rfl) fun F=> ?_
            repeat' (first|apply Cv|refine Ct 0 Cr BK ?_|refine Ct 1 Cr AF ?_|refine CO 2 Cr Bx Ab ?_|refine CY 2 Cr Bx Ab ?_|refine Ct 3 Cr Co ?_|refine Ct 4 Cr Ae ?_|refine Ct 4 Cr (CE rfl rfl rfl rfl rfl (hA)) ?_|refine CO 4 Cr (CE rfl rfl rfl rfl rfl (D3 _)) Ab ?_|refine Ct 5 Cr BD ?_|refine C2 (fun β=> ?_)|refine CT (fun β=> ?_)|refine CN ?_|refine Cu ?_|apply Cw|refine Cy ?_|refine CH ?_|refine CF ?_|refine CC ?_|apply Cz|apply CB|refine CQ ?_|refine C3 ?_)
            exact CJ [J,K] (CU (Cx rfl) (Cx rfl)) ⟨[],rfl,_,_,_,rfl,fun s hs=>by cases hs;exact⟨by omega,by omega,⟨K,List.mem_cons_self ..,UG ie⟩⟩⟩
          · rw [if_neg (by simpa using hy)];refine CM Tryz.func69 rfl (Nat.le_of_ble_eq_true rfl) fun F=> ?_
            repeat' (first|apply Cv|refine Ct 0 Cr BK ?_|refine Ct 1 Cr AF ?_|refine CO 2 Cr Bx Ab ?_|refine CY 2 Cr Al Ab ?_|refine Ct 3 Cr Co ?_|refine Ct 4 Cr Ae ?_|refine Ct 4 Cr (CE rfl rfl rfl rfl rfl (hA)) ?_|refine CO 4 Cr (CE rfl rfl rfl rfl rfl (D3 _)) Ab ?_|refine C2 (fun β=> ?_)|refine CT (fun β=> ?_)|refine CN ?_|refine Cu ?_|apply Cw|refine Cy ?_|refine CH ?_|refine CF ?_|refine CC ?_|apply Cz|apply CB|refine CQ ?_|refine C3 ?_)
            exact CJ [J,K] (CU (Cx rfl) (Cx rfl)) ⟨[],rfl,_,_,_,rfl,fun s hs=>by cases hs⟩
      · have e:RM 14 (if(14:Int)=3 then a else(some k).getD 0) xs=if k∈xs then some xs else none:=rfl
        rw [e];have hH:=LL [K] b n c xs k hn Ab;refine CM Tryz.func69 rfl (Nat.le_of_ble_eq_true rfl) fun F=> ?_
        repeat' (first|apply Cv|refine Ct 0 Cr A1 ?_|refine CO 2 Cr Al Ab ?_|refine CY 2 Cr Al Ab ?_|refine Ct 3 Cr AI ?_|refine Ct 4 Cr (CE rfl rfl rfl rfl rfl (hA)) ?_|refine CO 4 Cr (CE rfl rfl rfl rfl rfl (D3 _)) Ab ?_|refine Ct 4 Cr (CE rfl rfl rfl rfl rfl (hH)) ?_|refine C2 (fun β=> ?_)|refine CT (fun β=> ?_)|refine CN ?_|refine Cu ?_|apply Cw|refine Cy ?_|refine CH ?_|refine CF ?_|refine CC ?_|apply Cz|apply CB|refine CQ ?_|refine C3 ?_)
        exact CJ [J,K] (CU (Cx rfl) (Cx rfl)) ⟨[],rfl,_,_,_,by rw [Hr],fun s hs=>by
          split at hs
          · cases hs;exact⟨hn,NP,inferInstance⟩
          · cases hs⟩
      · have e:RM 15 (if(15:Int)=3 then a else(some k).getD 0) xs=if k∈xs then some xs else none:=rfl
        rw [e];have hH:=LL [K] b n c xs k hn Ab;refine CM Tryz.func69 rfl (Nat.le_of_ble_eq_true rfl) fun F=> ?_
        repeat' (first|apply Cv|refine Ct 0 Cr A1 ?_|refine CO 2 Cr Al Ab ?_|refine CY 2 Cr Al Ab ?_|refine Ct 3 Cr AI ?_|refine Ct 4 Cr (CE rfl rfl rfl rfl rfl (hA)) ?_|refine CO 4 Cr (CE rfl rfl rfl rfl rfl (D3 _)) Ab ?_|refine Ct 4 Cr (CE rfl rfl rfl rfl rfl (hH)) ?_|refine C2 (fun β=> ?_)|refine CT (fun β=> ?_)|refine CN ?_|refine Cu ?_|apply Cw|refine Cy ?_|refine CH ?_|refine CF ?_|refine CC ?_|apply Cz|apply CB|refine CQ ?_|refine C3 ?_)
        exact CJ [J,K] (CU (Cx rfl) (Cx rfl)) ⟨[],rfl,_,_,_,by rw [Hr],fun s hs=>by
          split at hs
          · cases hs;exact⟨hn,NP,inferInstance⟩
          · cases hs⟩
      · have e:RM 16 (if(16:Int)=3 then a else(some k).getD 0) xs=if k∈xs then some xs else none:=rfl
        rw [e];have hH:=LL [K] b n c xs k hn Ab;refine CM Tryz.func69 rfl (Nat.le_of_ble_eq_true rfl) fun F=> ?_
        repeat' (first|apply Cv|refine Ct 0 Cr A1 ?_|refine CO 2 Cr Al Ab ?_|refine CY 2 Cr Al Ab ?_|refine Ct 3 Cr AI ?_|refine Ct 4 Cr (CE rfl rfl rfl rfl rfl (hA)) ?_|refine CO 4 Cr (CE rfl rfl rfl rfl rfl (D3 _)) Ab ?_|refine Ct 4 Cr (CE rfl rfl rfl rfl rfl (hH)) ?_|refine C2 (fun β=> ?_)|refine CT (fun β=> ?_)|refine CN ?_|refine Cu ?_|apply Cw|refine Cy ?_|refine CH ?_|refine CF ?_|refine CC ?_|apply Cz|apply CB|refine CQ ?_|refine C3 ?_)
        exact CJ [J,K] (CU (Cx rfl) (Cx rfl)) ⟨[],rfl,_,_,_,by rw [Hr],fun s hs=>by
          split at hs
          · cases hs;exact⟨hn,NP,inferInstance⟩
          · cases hs⟩
  · rw [if_neg fun h=>h5 h.1];have h5n:=mt Jf.2 h5;obtain⟨k,is,hA⟩:∃k is,Dw Tryz.prog 122 [MR p lo st cb cl cc,i64 z] [J] (.tuple ⟨[i64 k,.bool is]⟩):=⟨_,_,KZ J p lo st cb cl cc cs z hl DO⟩;by_cases h3:op=3
    · subst h3;rw [if_pos rfl];have e:RM 3 a xs=if a∉xs then some xs else none:=rfl
      rw [e];by_cases hv:a∈xs
      · have hH:=YB [K] b n c xs a hn Ab (decide_eq_true hv);rw [if_neg fun h=>h hv];refine CM Tryz.func69 rfl (Nat.le_of_ble_eq_true rfl) fun F=> ?_
        repeat' (first|apply Cv|refine Ct 0 Cr BZ ?_|refine CG 0 Cs ?_|refine CO 2 Cr Al Ab ?_|refine CY 2 Cr Al Ab ?_|refine Ct 3 Cr AI ?_|refine Ct 4 Cr (CE rfl rfl rfl rfl rfl (hA)) ?_|refine CY 4 Cr (CE rfl rfl rfl rfl rfl (D3 _)) Ab ?_|refine Ct 4 Cr (CE rfl rfl rfl rfl rfl (hH)) ?_|refine C2 (fun β=> ?_)|refine CT (fun β=> ?_)|refine CN ?_|refine Cu ?_|apply Cw|refine Cy ?_|refine CH ?_|refine CF ?_|refine CC ?_|apply Cz|apply CB|refine CQ ?_|refine C3 ?_)
        exact CJ [J,K] (CU (Cx rfl) (Cx rfl)) ⟨[],rfl,_,_,_,rfl,fun s hs=>by cases hs⟩
      · have hH:=YB [K] b n c xs a hn Ab (decide_eq_false hv);rw [if_pos hv];refine CM Tryz.func69 rfl (Nat.le_of_ble_eq_true rfl) fun F=> ?_
        repeat' (first|apply Cv|refine Ct 0 Cr (by first|exact Dh rfl rfl|exact Db rfl rfl|exact DY rfl rfl rfl|exact EU rfl rfl|exact Ey rfl rfl rfl) ?_|refine CG 0 Cs ?_|refine CO 2 Cr Al Ab ?_|refine CY 2 Cr Al Ab ?_|refine Ct 3 Cr AI ?_|refine Ct 4 Cr (CE rfl rfl rfl rfl rfl (hA)) ?_|refine CY 4 Cr (CE rfl rfl rfl rfl rfl (D3 _)) Ab ?_|refine Ct 4 Cr (CE rfl rfl rfl rfl rfl (hH)) ?_|refine C2 (fun β=> ?_)|refine CT (fun β=> ?_)|refine CN ?_|refine Cu ?_|apply Cw|refine Cy ?_|refine CH ?_|refine CF ?_|refine CC ?_|apply Cz|apply CB|refine CQ ?_|refine C3 ?_)
        exact CJ [J,K] (CU (Cx rfl) (Cx rfl)) ⟨[],rfl,_,_,_,rfl,fun s hs=>by cases hs;exact⟨hn,NP,inferInstance⟩⟩
    · rw [if_neg h3];by_cases SN:op=20
      · subst SN;have e:RM 20 ((KF cs z).getD 0) xs=if xs= [] then some xs else none:=rfl
        rw [e];have O4:xs= []↔n=0:=by rw [<-hn];exact List.length_eq_zero_iff.symm
        by_cases ep:n=0
        · rw [if_pos (O4.2 ep)];refine CM Tryz.func69 rfl (Nat.le_of_ble_eq_true rfl) fun F=> ?_
          repeat' (first|apply Cv|refine Ct 0 Cr A0 ?_|refine CG 0 Cs ?_|refine CO 2 Cr Al Ab ?_|refine CY 2 Cr Al Ab ?_|refine Ct 3 Cr AI ?_|refine Ct 4 Cr Ae ?_|refine Ct 4 Cr (CE rfl rfl rfl rfl rfl (hA)) ?_|refine CY 4 Cr (CE rfl rfl rfl rfl rfl (D3 _)) Ab ?_|refine C2 (fun β=> ?_)|refine CT (fun β=> ?_)|refine CN ?_|refine Cu ?_|apply Cw|refine Cy ?_|refine CH ?_|refine CF ?_|refine CC ?_|apply Cz|apply CB|refine CQ ?_|refine C3 ?_)
          exact CJ [J,K] (CU (Cx rfl) (Cx rfl)) ⟨[],rfl,_,_,_,rfl,fun s hs=>by cases hs;exact⟨hn,NP,inferInstance⟩⟩
        · rw [if_neg (mt O4.1 ep)];refine CM Tryz.func69 rfl (Nat.le_of_ble_eq_true rfl) fun F=> ?_
          repeat' (first|apply Cv|refine Ct 0 Cr A0 ?_|refine CG 0 Cs ?_|refine CO 2 Cr Al Ab ?_|refine CY 2 Cr Al Ab ?_|refine Ct 3 Cr AI ?_|refine Ct 4 Cr Ae ?_|refine Ct 4 Cr (CE rfl rfl rfl rfl rfl (hA)) ?_|refine CY 4 Cr (CE rfl rfl rfl rfl rfl (D3 _)) Ab ?_|refine C2 (fun β=> ?_)|refine CT (fun β=> ?_)|refine CN ?_|refine Cu ?_|apply Cw|refine Cy ?_|refine CH ?_|refine CF ?_|refine CC ?_|apply Cz|apply CB|refine CQ ?_|refine C3 ?_)
          exact CJ [J,K] (CU (Cx rfl) (Cx rfl)) ⟨[],rfl,_,_,_,rfl,fun s hs=>by cases hs⟩
      · rw [SY h5 h3 SN];refine CM Tryz.func69 rfl (Nat.le_of_ble_eq_true rfl) fun F=> ?_
        repeat' (first|apply Cv|refine Ct 0 Cr A0 ?_|refine CG 0 Cs ?_|refine CY 2 Cr Al Ab ?_|refine Ct 3 Cr AI ?_|refine Ct 4 Cr (CE rfl rfl rfl rfl rfl (hA)) ?_|refine CY 4 Cr (CE rfl rfl rfl rfl rfl (D3 _)) Ab ?_|refine C2 (fun β=> ?_)|refine CT (fun β=> ?_)|refine CN ?_|refine Cu ?_|apply Cw|refine Cy ?_|refine CF ?_|refine CC ?_|apply Cz|apply CB)
        exact CJ [J,K] (CU (Cx rfl) (Cx rfl)) ⟨[],rfl,_,_,_,rfl,fun s hs=>by cases hs;exact⟨hn,NP,inferInstance⟩⟩
end Go.Proofs.YtcnmnmjmpocepaaGreatDoor.Nd
end
