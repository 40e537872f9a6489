
import Derived.Test.YtcnmnmjmpocepaaGreatDoorU00
import Derived.Test.YtcnmnmjmpocepaaGreatDoorU11
import Derived.Test.YtcnmnmjmpocepaaGreatDoorU25
import Derived.Test.YtcnmnmjmpocepaaGreatDoorU08
set_option linter.unusedVariables false
set_option linter.unusedSimpArgs false
set_option linter.unusedSectionVars false
set_option maxRecDepth 100000
set_option maxHeartbeats 16000000
section
namespace Go.Proofs.YtcnmnmjmpocepaaGreatDoor.Nd
open Go.SL
attribute [local irreducible] SL.T C7 Dc C6 Db DS Du
structure GW where
  k:Nat
  hM:B6
  hO:B6
  ob:Option Addr
  oc:Nat
  f:Int->Option Value
  V:List Int
  CX:Int->List Int
  n:Nat
structure GI(cs:List Ins)(K:B6)(bm:Nat)(hM hO:B6)(ob:Option Addr)(oc:Nat)(f:Int->Option Value)(V:List Int)(CX:Int->List Int):Prop where
  mp:MP hM bm .i64 f
  os:OS hO ob V.length oc 3 1 (V.map i64)
  ws:WS cs K f V CX
theorem YI (J : B6)(p:Value)(lo st:Int)(cb:Option Addr)(cl cc:Nat)(cs:List Ins) [Sl J cb (Cp cs)](hl:cs.length=cl)(DE:cl≤1000000)(h0:0<cl):
    SL.T Tryz.prog 56 [Ua p lo st cb cl cc] [J] fun e o=>∃K hM hO DD bm ob oc f V CX i k n wr,o= [J,K,Fc DD p lo st cb cl cc bm ob V.length oc wr,hM]/\e= .returned (.pointer (some ⟨DD,0,none⟩))/\
      GI cs K bm hM hO ob oc f V CX/\GS.run cs n=⟨V,CX,i,k,some wr⟩:=by
  refine Ch Tryz.func56 rfl (Nat.le_of_ble_eq_true rfl) fun F=> ?_
  refine DY ?_;refine DY ?_;have mp0:∀b,MP (Co b (.map #[] 0)) b .i64 (fun _=>none):=fun b=>MP.nil
  repeat' (first|refine KA rfl rfl rfl rfl (fun bm=> ?_)|apply B4|refine B3 3 BY AR ?_|(refine gk 4 rfl ?_;(refine B9 rfl rfl rfl rfl rfl rfl rfl rfl (Tg (Co bm (.map #[] 0)) emp _ p lo st cb cl cc bm none 0 0 (-1) 0 _ (.slice none 0 0) [] ⟨by omega,by omega⟩ (mp0 bm) rfl OS.nil Ab) ?_;rintro _ _ ⟨rfl,hM,hO,ob,oc,rfl,mp,os⟩;refine⟨_,_,rfl,rfl,?_⟩))|(refine gk 4 rfl ?_;(refine B9 rfl rfl rfl rfl rfl rfl rfl rfl (Ll _) ?_;rintro _ _ ⟨Ic,rfl,rfl⟩;refine⟨_,_,rfl,rfl,?_⟩))|refine B3 5 BY Ar ?_|refine CF (fun β=> ?_)|refine Cn (fun β=> ?_)|refine Ck ?_|refine B0 ?_|apply B5|refine B8 ?_|refine Cf ?_)
  rename_i iJ Eu DZ DD
  obtain⟨Io,rfl⟩:∃x,x=β:=⟨_,rfl⟩;clear mp0;refine NC (hsI:= [Co Ic (.cells ⟨[.pointer (some ⟨DD,0,none⟩)]⟩ 129 (0,0))]) (nx:=eH DD)
    (fun i own1=>∃K hM hO ob oc f V CX n,own1= [Fc DD p lo st cb cl cc bm ob V.length oc (-1),hM,hO,Co Io (.cells ⟨[.pointer (some ⟨DD,0,none⟩)]⟩ 129 (0,0)),Co DZ (.cells ⟨[.pointer none]⟩ 129 (0,0)),FX Eu p lo st cb cl cc,K,J]/\GI cs K bm hM hO ob oc f V CX/\GS.run cs n=⟨V,CX,i,0,none⟩)
    (fun own1=>∃K hM hO ob oc f V CX n i k,own1= [Fc DD p lo st cb cl cc bm ob V.length oc (-1),hM,hO,Co Io (.cells ⟨[.pointer (some ⟨DD,0,none⟩)]⟩ 129 (0,0)),Co DZ (.cells ⟨[.pointer none]⟩ 129 (0,0)),FX Eu p lo st cb cl cc,K,J]/\GI cs K bm hM hO ob oc f V CX/\GS.run cs n=⟨V,CX,i,k,some (-1)⟩)
    (fun c own1=>c= .ret/\∃K hM hO ob oc f V CX n i k wr,own1= [Fc DD p lo st cb cl cc bm ob V.length oc wr,hM,hO,Co Io (.cells ⟨[.pointer (some ⟨DD,0,none⟩)]⟩ 129 (0,0)),Co DZ (.cells ⟨[.pointer (some ⟨DD,0,none⟩)]⟩ 129 (0,0)),FX Eu p lo st cb cl cc,K,J]/\GI cs K bm hM hO ob oc f V CX/\GS.run cs n=⟨V,CX,i,k,some wr⟩)
    rfl (MJ DD Ic) (R5 DD) rfl ?_ ?_ ?_ ?_
  · exact⟨emp,hM,hO,ob,oc,_,[0],fun _=> [],0,rfl,⟨mp,os,WS.first Ab⟩,rfl⟩
  · clear mp os;clear hM hO ob oc;rintro L i own1 ⟨K,hM,hO,ob,oc,f,V,CX,n,rfl,gi,hg⟩ IW;have hVl:=gi.ws.len;have hb1:=DV IW (List.mem_cons_self ..) _ _ (CT _ _);have Xi:=gi.os.sl.mono (DV IW (List.mem_cons_of_mem _ (List.mem_cons_of_mem _ (List.mem_cons_self ..))));rcases hV:V[i]? with _|z
    · exact .inr ⟨⟨_,_,_,_,_,ob,V.length,oc,_,V,hb1,Xi,rfl,by omega,by rw [hV];rfl⟩,K,hM,hO,ob,oc,f,V,CX,n+1,i,0,rfl,gi,by rw [Gu hg,step_done hV]⟩
    · refine .inl ⟨[i64 z],⟨_,_,_,_,_,ob,V.length,oc,_,V,hb1,Xi,rfl,by omega,by rw [hV];rfl⟩,rfl,fun F1=>⟨_,rfl,?_⟩⟩;have hzm:=List.mem_of_getElem? hV;obtain⟨eU,cQ⟩:=gi.ws.gf z hzm;obtain⟨b,n1,c,hf,O1,WL,Q0,nI⟩:=gi.ws.eQ z hzm;obtain⟨zn,rfl⟩:=Int.eq_ofNat_of_zero_le eU;have hB:=VL J K hM DD p lo st cb cl cc bm ob V.length oc (-1) cs zn f b n1 c (CX zn) O1 hl DE Ab gi.mp hf WL Q0 Ab;rcases hb:Hd cs zn (CX zn) with _|s
      · rw [hb] at hB
        repeat' (first|refine B3 0 BY Au ?_|refine B0 ?_|apply B5|refine B8 ?_)
        intro F2
        repeat' (first|apply B4|refine B3 0 BY A2 ?_|refine B3 3 BY Ah ?_|(refine gk 4 rfl ?_;(refine B9 rfl rfl rfl rfl rfl rfl rfl rfl (hB) ?_;rintro _ _ ⟨K',rfl,hK,b',n',c',rfl,hS⟩;refine⟨_,_,rfl,rfl,?_⟩))|refine B3 5 BY Al ?_|refine Ck ?_|refine B0 ?_|apply B5|refine B8 ?_|refine Cl ?_|refine Cf ?_|apply Cb|refine Cx ?_|refine Dd ?_)
        exact Is [Fc DD p lo st cb cl cc bm ob V.length oc zn,hM,hO,Co Io (.cells ⟨[.pointer (some ⟨DD,0,none⟩)]⟩ 129 (0,0)),Co DZ (.cells ⟨[.pointer (some ⟨DD,0,none⟩)]⟩ 129 (0,0)),FX Eu p lo st cb cl cc,K',J] ⟨rfl,K',hM,hO,ob,oc,f,V,CX,n+1,i,0,zn,rfl,⟨gi.mp,gi.os,gi.ws.mono hK⟩,by rw [Gu hg,Xx hV hb]⟩
      · rw [hb] at hB
        repeat' (first|refine B3 0 BY Au ?_|refine B0 ?_|apply B5|refine B8 ?_)
        intro F2;have FZ:=HJ cs (zn:Int)
        repeat' (first|apply B4|refine B3 0 BY AL ?_|refine B3 3 BY AR ?_|refine B3 4 BY Ag ?_|(refine gk 4 rfl ?_;(refine B9 rfl rfl rfl rfl rfl rfl rfl rfl (hB) ?_;rintro _ _ ⟨K',rfl,hK,b',n',c',rfl,hS⟩;obtain⟨JZ,OV,j0⟩:=hS _ rfl;refine⟨_,_,rfl,rfl,?_⟩))|(refine gk 4 rfl ?_;(refine FI rfl rfl rfl rfl rfl rfl rfl rfl (OP _ p lo st cb cl cc cs (zn:Int) hl Ab) ?_;rintro _ _ ⟨hN,bN,cN,rfl,rfl,osN⟩;haveI slN:=osN.sl;refine⟨_,_,rfl,rfl,?_⟩))|refine B0 ?_|apply B5|refine B8 ?_|refine Cg ?_|refine Cf ?_|apply Cc)
        have hs8:=YZ hb Ab;have gi2:GI cs K' bm hM hO ob oc f V CX:=⟨gi.mp,gi.os,gi.ws.mono hK⟩;clear osN hB;refine CH (fun s:GW=> [(1,.pointer (some ⟨Eu,0,none⟩)),(2,.pointer (some ⟨DZ,0,none⟩)),(3,.pointer (some ⟨Io,0,none⟩)),(5,.slice b' n' c'),(33,.slice bN (GG cs (zn:Int)).length cN),(34,i64 ((GG cs (zn:Int)).length:Int)),(35,i64 (s.k:Int))])
          (fun s=> [hN,Fc DD p lo st cb cl cc bm s.ob s.V.length s.oc (-1),s.hM,s.hO,Co Io (.cells ⟨[.pointer (some ⟨DD,0,none⟩)]⟩ 129 (0,0)),Co DZ (.cells ⟨[.pointer none]⟩ 129 (0,0)),FX Eu p lo st cb cl cc,K',J])
          (fun s=>s.k≤(GG cs (zn:Int)).length/\GI cs K' bm s.hM s.hO s.ob s.oc s.f s.V s.CX/\GS.run cs s.n=⟨s.V,s.CX,i,s.k,none⟩/\s.V[i]?=some (zn:Int)/\s.CX zn=CX zn)
          (fun s=>(GG cs (zn:Int)).length - s.k) ⟨0,hM,hO,ob,oc,f,V,CX,n⟩ (by repeat first|exact Sub.nil _|refine Sub.cons rfl ?_) ⟨Nat.zero_le _,gi2,hg,hV,rfl⟩ ?_
        clear gi2 gi hg hV hf hVl hb1 Xi;rintro⟨k,hM,hO,ob,oc,f,V,stk',n⟩ ⟨hk,gi,hg,hV,FB⟩;dsimp only at hk gi hg hV FB ⊢
        have hVl:=gi.ws.len;have hb:Hd cs zn (stk' zn)=some s:=by rw [FB];exact hb
        by_cases TB:k<(GG cs (zn:Int)).length
        · obtain⟨t,ht⟩:∃t,(GG cs (zn:Int))[k]?=some t:=⟨_,List.getElem?_eq_getElem TB⟩;have hct:((GG cs (zn:Int)).map i64)[((k:Nat):Int).toNat*1]?=some (i64 t):=by simp [ht]
          by_cases hr:0≤t/\t<(cl:Int)
          · have Vr:0≤t/\t<(cs.length:Int):=by rw [hl];exact hr
            by_cases hv:t∈V
            · obtain⟨b1,n2,c1,Rr,ZH,Zo,P5,nK⟩:=gi.ws.eQ t hv;haveI:=j0;haveI:=ZH;have hC:=YV K' hM DD p lo st cb cl cc bm ob V.length oc (-1) t f b' b1 n' c' n2 c1 s (stk' t) hr gi.mp Rr JZ Zo Ab Ab;by_cases he:stk' t=s
              · rw [decide_eq_true he] at hC
                repeat' (first|apply B4|refine B3 0 BY AH ?_|refine B3 1 BY Ap ?_|refine Cs 2 BY Aj Ab ?_|refine B3 3 BY BG ?_|refine B3 4 BY (Ca rfl rfl rfl rfl rfl (hC)) ?_|refine B0 ?_|apply B5|refine B8 ?_|refine Cl ?_|refine Cg ?_|refine Cf ?_|apply Cc)
                exact⟨rfl,⟨k+1,hM,hO,ob,oc,f,V,stk',n+1⟩,CA (by repeat first|exact Sub.nil _|refine Sub.cons rfl ?_),⟨TB,gi,by rw [Gu hg,VZ hV hb ht Vr hv he],hV,FB⟩,by dsimp only;omega⟩
              · rw [decide_eq_false he] at hC
                repeat' (first|apply B4|refine B3 0 BY AW ?_|refine Cs 2 BY Aj Ab ?_|refine B3 3 BY Bn ?_|refine B3 4 BY (Ca rfl rfl rfl rfl rfl (hC)) ?_|refine B3 5 BY Al ?_|refine Ck ?_|refine B0 ?_|apply B5|refine B8 ?_|refine Cl ?_|refine Cf ?_|apply Cb|apply Cc|refine Cx ?_|refine Dd ?_)
                exact Is [Fc DD p lo st cb cl cc bm ob V.length oc t,hM,hO,Co Io (.cells ⟨[.pointer (some ⟨DD,0,none⟩)]⟩ 129 (0,0)),Co DZ (.cells ⟨[.pointer (some ⟨DD,0,none⟩)]⟩ 129 (0,0)),FX Eu p lo st cb cl cc,K',J] ⟨rfl,K',hM,hO,ob,oc,f,V,stk',n+1,i,k,t,rfl,gi,by rw [Gu hg,TV hV hb ht Vr hv he]⟩
            · obtain⟨Xg,Xe⟩:=gi.ws.out t hv
              repeat' (first|apply B4|refine B3 0 BY AH ?_|refine B3 1 BY Ap ?_|refine Cs 2 BY Aj Ab ?_|refine B3 3 BY BG ?_|(refine gk 4 rfl ?_;(refine B9 rfl rfl rfl rfl rfl rfl rfl rfl (Tg hM hO DD p lo st cb cl cc bm ob V.length oc (-1) t f (.slice b' n' c') V hr gi.mp Xg gi.os Ab) ?_;rintro _ _ ⟨rfl,OX,hO2,X4,oc2,rfl,dO,GC⟩;refine⟨_,_,rfl,rfl,?_⟩))|refine B0 ?_|apply B5|refine B8 ?_|refine Cl ?_|refine Cg ?_|refine Cf ?_|apply Cc)
              refine⟨rfl,⟨k+1,OX,hO2,X4,oc2,_,V++ [t],fun q=>if q=t then s else stk' q,n+1⟩,?_,⟨TB,⟨dO,by rw [List.length_append];exact GC,gi.ws.add Vr hv j0 JZ OV Ab⟩,by rw [Gu hg,Xw hV hb ht Vr hv],?_,?_⟩,by dsimp only;omega⟩
              · dsimp only;rw [List.length_append];exact CA (by repeat first|exact Sub.nil _|refine Sub.cons rfl ?_)
              · dsimp only;rw [List.getElem?_append_left (List.getElem?_eq_some_iff.1 hV).1];exact hV
              · dsimp only;rw [if_neg (fun e=>hv (by rw [<-e];exact List.mem_of_getElem? hV))];exact FB
          · have Vr:¬(0≤t/\t<(cs.length:Int)):=by rw [hl];exact hr
            repeat' (first|apply B4|refine B3 0 BY AH ?_|refine B3 1 BY Ap ?_|refine Cs 2 BY Aj Ab ?_|refine B3 3 BY BG ?_|refine B3 4 BY (Ca rfl rfl rfl rfl rfl (Tf DD p lo st cb cl cc bm ob V.length oc (-1) t _ Ab)) ?_|refine B0 ?_|apply B5|refine B8 ?_|refine Cl ?_|refine Cg ?_|refine Cf ?_|apply Cc)
            exact⟨rfl,⟨k+1,hM,hO,ob,oc,f,V,stk',n+1⟩,CA (by repeat first|exact Sub.nil _|refine Sub.cons rfl ?_),⟨TB,gi,by rw [Gu hg,Xv hV hb ht Vr],hV,FB⟩,by dsimp only;omega⟩
        · have Yz:(GG cs (zn:Int))[k]?=none:=List.getElem?_eq_none Ab
          repeat' (first|apply B4|refine CE 2 BY Aj Ab ?_|refine B0 ?_|apply B5|refine Cg ?_|refine CC ?_|refine H4 ?_|refine Fl ?_|refine Fp ?_)
          exact JQ [Fc DD p lo st cb cl cc bm ob V.length oc (-1),hM,hO,Co Io (.cells ⟨[.pointer (some ⟨DD,0,none⟩)]⟩ 129 (0,0)),Co DZ (.cells ⟨[.pointer none]⟩ 129 (0,0)),FX Eu p lo st cb cl cc,K',J] ⟨K',hM,hO,ob,oc,f,V,stk',n+1,rfl,gi,by rw [Gu hg,Pz hV hb Yz]⟩
  · clear mp os;clear hM hO ob oc;rintro D own1 ⟨K,hM,hO,ob,oc,f,V,CX,n,i,k,rfl,gi,hg⟩;refine⟨_,rfl,?_⟩
    repeat' (first|apply B4|refine B3 3 BY AD ?_|refine Ck ?_|refine B0 ?_|apply B5|refine B8 ?_|apply Cb)
    exact Cj [J,K,Fc DD p lo st cb cl cc bm ob V.length oc (-1),hM] (Ce (Fu rfl rfl rfl)) ⟨K,hM,hO,DD,bm,ob,oc,f,V,CX,i,k,n, -1,rfl,rfl,gi,hg⟩
  · clear mp os;clear hM hO ob oc;rintro D c own1 ⟨rfl,K,hM,hO,ob,oc,f,V,CX,n,i,k,wr,rfl,gi,hg⟩;refine⟨_,rfl,?_⟩
    repeat' (first|apply Cb|refine Cx ?_|refine Dd ?_)
    exact Cj [J,K,Fc DD p lo st cb cl cc bm ob V.length oc wr,hM] (Ce (Fu rfl rfl rfl)) ⟨K,hM,hO,DD,bm,ob,oc,f,V,CX,i,k,n,wr,rfl,rfl,gi,hg⟩
end Go.Proofs.YtcnmnmjmpocepaaGreatDoor.Nd
end
section
namespace Go.Proofs.YtcnmnmjmpocepaaGreatDoor.Nd
open Go.SL
attribute [local irreducible] SL.T C7 Dc C6 Db DS Du
open Classical in
noncomputable def LM(cs:List Ins):GS:=if h:∃n,(GS.run cs n).res.isSome then GS.run cs (Classical.choose h) else GS.start
theorem aw{cs:List Ins}{n:Nat}(h:(GS.run cs n).res.isSome):GS.run cs n=LM cs:=by
  unfold LM;rw [dif_pos ⟨n,h⟩];exact GS.one h (Classical.choose_spec (⟨n,h⟩:∃n,(GS.run cs n).res.isSome))
noncomputable def L0(cs:List Ins):Int:=(LM cs).res.getD (-1)
theorem TJ{cs:List Ins}{n:Nat}{g:GS}{wr:Int}(h:GS.run cs n=g)(hr:g.res=some wr):g=LM cs/\wr=L0 cs/\(LM cs).res=some (L0 cs):=by
  have e:=aw (cs:=cs) (n:=n) (by rw [h,hr];rfl);rw [h] at e
  have:wr=L0 cs:=by unfold L0;rw [<-e,hr];rfl
  exact⟨e,this,by rw [<-e,hr,this]⟩
theorem ZK (cs:List Ins)(n:Nat):(∀z∈(GS.run cs n).V,0≤z)/\∀r,(GS.run cs n).res=some r->r= -1∨0≤r:=by
  induction n with
  |zero=>exact⟨fun z hz=>by rw [List.mem_singleton.1 hz];omega,fun r hr=>by cases hr⟩
  | succ n ih =>
    rw [GS.run,GS.step]
    generalize GS.run cs n=g at ih
    split
    · exact ih
    · split
      · exact⟨ih.1,fun r hr=>by cases hr;exact .inl rfl⟩
      · rename_i z hz
        split
        · exact⟨ih.1,fun r hr=>by cases hr;exact .inr (ih.1 z (List.mem_of_getElem? hz))⟩
        · split
          · exact ih
          · split
            · rename_i t ht hr
              split
              · split
                · exact ih
                · exact⟨ih.1,fun r gq=>by cases gq;exact .inr hr.1⟩
              · exact⟨fun z hz=>by
                  rcases List.mem_append.1 hz with hz|hz
                  · exact ih.1 z hz
                  · rw [List.mem_singleton.1 hz];exact hr.1,ih.2⟩
            · exact ih
theorem Zs{cs:List Ins}(h:(LM cs).res=some (L0 cs)):L0 cs= -1∨0≤L0 cs:=by
  unfold LM at h
  split at h
  · exact(ZK cs _).2 _ h
  · cases h
theorem eh{cs:List Ins}(h:(LM cs).res=some (L0 cs))(h2:¬0≤L0 cs):L0 cs= -1:=(Zs h).resolve_right h2
def aN(K:B6)(v:Option Value)(s:List Int):Prop:=(v=none/\s= [])∨∃b n c,v=some (.slice b n c)/\Sl K b (s.map i64)/\s.length=n/\n≤c/\n≤8
theorem WQ(J:B6)(p:Value)(lo st:Int)(cb:Option Addr)(cc:Nat) [Sl J cb (Cp [])]:
    SL.T Tryz.prog 56 [Ua p lo st cb 0 cc] [J] fun e o=>∃K hM DD bm,o= [J,K,Fc DD p lo st cb 0 cc bm none 0 0 (-1),hM]/\e= .returned (.pointer (some ⟨DD,0,none⟩))/\MP hM bm .i64 (fun _=>none):=by
  refine Ch Tryz.func56 rfl (Nat.le_of_ble_eq_true rfl) fun F=> ?_
  refine DY ?_
  repeat' (first|refine KA rfl rfl rfl rfl (fun bm=> ?_)|apply B4|refine B3 3 BY AR ?_|refine B3 4 BY (Ca rfl rfl rfl rfl rfl (Tf _ p lo st cb 0 cc bm none 0 0 (-1) 0 _ Ab)) ?_|(refine gk 4 rfl ?_;(refine B9 rfl rfl rfl rfl rfl rfl rfl rfl (Ll _) ?_;rintro _ _ ⟨Ic,rfl,rfl⟩;refine⟨_,_,rfl,rfl,?_⟩))|refine B3 5 BY Ar ?_|refine CF (fun β=> ?_)|refine Cn (fun β=> ?_)|refine Ck ?_|refine B0 ?_|apply B5|refine B8 ?_|refine Cf ?_)
  rename_i iJ Eu DZ DD
  obtain⟨Io,rfl⟩:∃x,x=β:=⟨_,rfl⟩;refine NC (hsI:= [Co Ic (.cells ⟨[.pointer (some ⟨DD,0,none⟩)]⟩ 129 (0,0))]) (nx:=eH DD)
    (fun i own1=>own1= [Co Io (.cells ⟨[.pointer (some ⟨DD,0,none⟩)]⟩ 129 (0,0)),Fc DD p lo st cb 0 cc bm none 0 0 (-1),Co bm (.map #[] 0),Co DZ (.cells ⟨[.pointer none]⟩ 129 (0,0)),FX Eu p lo st cb 0 cc,emp,J])
    (fun own1=>own1= [Co Io (.cells ⟨[.pointer (some ⟨DD,0,none⟩)]⟩ 129 (0,0)),Fc DD p lo st cb 0 cc bm none 0 0 (-1),Co bm (.map #[] 0),Co DZ (.cells ⟨[.pointer none]⟩ 129 (0,0)),FX Eu p lo st cb 0 cc,emp,J])
    (fun c own1=>False)
    rfl (MJ DD Ic) (R5 DD) rfl rfl ?_ ?_ ?_
  · rintro L i own1 rfl IW;exact .inr ⟨⟨_,_,_,_,_,none,0,0,_,[],DV IW (List.mem_cons_of_mem _ (List.mem_cons_self ..)) _ _ (CT _ _),Sl.none,rfl,by omega,rfl⟩,rfl⟩
  · rintro D own1 rfl;refine⟨_,rfl,?_⟩
    repeat' (first|apply B4|refine B3 3 BY AD ?_|refine Ck ?_|refine B0 ?_|apply B5|refine B8 ?_|apply Cb)
    exact Cj [J,emp,Fc DD p lo st cb 0 cc bm none 0 0 (-1),Co bm (.map #[] 0)] (Ce (Fu rfl rfl rfl)) ⟨emp,_,DD,bm,rfl,rfl,MP.nil⟩
  · rintro D c own1 ⟨⟩
theorem YP:(GS.run [] 2).res=some (-1):=by
  have h1:GS.run [] 1=⟨[0],fun _=> [],1,0,none⟩:=by
    rw [Gu (n:=0) (g:=⟨[0],fun _=> [],0,0,none⟩) rfl];exact Pz (z:=0) (s:= []) rfl Ae (by rw [X5 Ak];rfl)
  rw [Gu h1,step_done rfl]
theorem UC(J:B6)(p:Value)(lo st:Int)(cb:Option Addr)(cl cc:Nat)(cs:List Ins) [iJ:Sl J cb (Cp cs)](hl:cs.length=cl)(DE:cl≤1000000):
    SL.T Tryz.prog 56 [Ua p lo st cb cl cc] [J] fun e o=>∃K hM DD bm ob on oc f,o= [J,K,Fc DD p lo st cb cl cc bm ob on oc (L0 cs),hM]/\e= .returned (.pointer (some ⟨DD,0,none⟩))/\
      MP hM bm .i64 f/\(LM cs).res=some (L0 cs)/\∀t:Int,0≤t->t<cl->aN K (f t) ((LM cs).CX t):=by
  rcases Nat.eq_zero_or_pos cl with h0|h0
  · subst h0;obtain rfl:cs= []:=List.length_eq_zero_iff.1 hl;obtain⟨h1,h2,h3⟩:=TJ (cs:= []) rfl YP;refine(WQ J p lo st cb cc).mono ?_;rintro e o ⟨K,hM,DD,bm,rfl,rfl,mp⟩;exact⟨K,hM,DD,bm,none,0,0,_,by rw [<-h2],rfl,mp,h3,fun t ht lR=>by omega⟩
  · refine(YI J p lo st cb cl cc cs hl DE h0).mono ?_;rintro e o ⟨K,hM,hO,DD,bm,ob,oc,f,V,CX,i,k,n,wr,rfl,rfl,gi,hg⟩;obtain⟨h1,rfl,h3⟩:=TJ hg rfl;refine⟨K,hM,DD,bm,ob,V.length,oc,f,rfl,rfl,gi.mp,h3,fun t ht lR=> ?_⟩;rw [<-h1];by_cases hv:t∈V
    · obtain⟨b,n1,c,h5,h6,h7,h8,h9⟩:=gi.ws.eQ t hv;exact .inr ⟨b,n1,c,h5,h6,h7,h8,h9⟩
    · exact .inl (gi.ws.out t hv)
theorem Ey(J:B6)(p:Value)(lo st:Int)(cb:Option Addr)(cl cc:Nat)(cs:List Ins) [iJ:Sl J cb (Cp cs)](hl:cs.length=cl)(DE:cl≤1000000):
    SL.T Tryz.prog 22 [Ua p lo st cb cl cc] [J] fun e o=>∃N,o=J::N/\N= []/\e= .returned (.tuple ⟨[i64 (L0 cs),i64 (if 0≤L0 cs then 10 else 0)]⟩)/\(LM cs).res=some (L0 cs):=by
  refine Ch Tryz.func22 rfl (Nat.le_of_ble_eq_true rfl) fun F=> ?_
  repeat' (first|apply B4|refine B3 0 BY Af ?_|refine IC 2 BY AC (fun h=> ?_) (fun h=> ?_)|refine B3 3 BY AF ?_|(refine gk 4 rfl ?_;(refine B9 rfl rfl rfl rfl rfl rfl rfl rfl (UC J p lo st cb cl cc cs hl DE) ?_;rintro _ _ ⟨K,hM,DD,bm,ob,on,oc,f,rfl,rfl,mp,hE,hS⟩;refine⟨_,_,rfl,rfl,?_⟩))|refine B3 5 BY Al ?_|refine CF (fun β=> ?_)|refine B0 ?_|apply B5|refine B8 ?_|refine Cl ?_|refine Cg ?_|apply Cb|apply Cc|refine Cx ?_)
  all_goals
    first
    |exact Cj [J] (Ct (B7 rfl) (B7 rfl)) ⟨[],rfl,rfl,by rw [if_pos Ad],hE⟩
    |exact Cj [J] (Ct (B7 rfl) (B7 rfl)) ⟨[],rfl,rfl,by rw [if_neg Ad,eh hE Ad],hE⟩
end Go.Proofs.YtcnmnmjmpocepaaGreatDoor.Nd
end
section
namespace Go.Proofs.YtcnmnmjmpocepaaGreatDoor.Nd
open Go.SL
attribute [local irreducible] SL.T C7 Dc C6 Db DS Du
end Go.Proofs.YtcnmnmjmpocepaaGreatDoor.Nd
end
section
namespace Go.Proofs.YtcnmnmjmpocepaaGreatDoor.Nd
open Go.SL
attribute [local irreducible] SL.T C7 Dc C6 Db DS Du
end Go.Proofs.YtcnmnmjmpocepaaGreatDoor.Nd
end
section
namespace Go.Proofs.YtcnmnmjmpocepaaGreatDoor.Nd
open Go.SL
attribute [local irreducible] SL.T C7 Dc C6 Db DS Du
end Go.Proofs.YtcnmnmjmpocepaaGreatDoor.Nd
end
section
namespace Go.Proofs.YtcnmnmjmpocepaaGreatDoor.Nd
open Go.SL
attribute [local irreducible] SL.T C7 Dc C6 Db DS Du
end Go.Proofs.YtcnmnmjmpocepaaGreatDoor.Nd
end
