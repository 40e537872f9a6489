
import Derived.Test.YtcnmnmjmpocepaaGreatDoorV00
import Derived.Test.YtcnmnmjmpocepaaGreatDoorV09
import Derived.Test.YtcnmnmjmpocepaaGreatDoorV30
import Derived.Test.YtcnmnmjmpocepaaGreatDoorV40
import Derived.Test.YtcnmnmjmpocepaaGreatDoorV35
import Derived.Test.YtcnmnmjmpocepaaGreatDoorV34
set_option linter.unusedVariables false
set_option linter.unusedSimpArgs false
set_option linter.unusedSectionVars false
set_option maxRecDepth 100000
set_option maxHeartbeats 16000000
section
namespace Go.Proofs.YtcnmnmjmpocepaaGreatDoor
open Go.SL
open Kd
def aL(y:Cd.Ins):Ins:=⟨y.op,y.a,y.b⟩
def WL(m:Cd.Me):Me:=⟨m.params,m.lo,m.st,m.code.map aL⟩
def WM(x:Cd.Im):Im:=⟨x.cls,x.ms.map WL⟩
theorem VI:∀l:List Cd.Ins,CZ (l.map aL)=Cd.CZ l
  | []=>rfl
  | y::l=>by
    have:=VI l;simp only [List.map_cons,CZ,Cd.CZ,this,aL]
def mS(K:CA)(x:Im)(v:Value):Prop:=
  ∃Du Dr DP mb mn mc,v=Gi Du Dr DP mb mn mc/\FY K x.cls Du Dr/\Hd K x.ms mb mn/\∀m∈x.ms,m.code.length≤1000000
theorem mS.mono{K K':CA}{x:Im}{v:Value}(h:mS K x v)(l:hle K K'):mS K' x v:=by
  obtain⟨a,b,c,d,e,f,h1,h2,h3,h4⟩:=h;exact⟨a,b,c,d,e,f,h1,h2.mono l,h3.mono l,h4⟩
theorem cK{K:CA}{x:Cd.Im}{v:Value}(h:Cd.IU K x v)(ok:Cd.Q5 x):mS K (WM x) v:=by
  obtain⟨Du,Dr,DP,mb,mn,mc,rfl,⟨cv,c1,c2,c3,c4,c5⟩,⟨mv,m1,m2,m3,m4,m5⟩,h5,h6⟩:=h;obtain⟨k1,k2,k3,k4⟩:=ok;refine⟨Du,Dr,DP,mb,mn,mc,rfl,⟨cv,c1,c2,c3,by omega,fun i f hf=> ?_⟩,⟨mv,m1,m2,by simpa [WM] using m3,by omega,fun i m hm=> ?_⟩,fun m hm=> ?_⟩
  · obtain⟨fb,fn,fc,g1,g2,g3,g4⟩:=c5 i f hf;have:=(k2 f (List.mem_of_getElem? hf)).1;exact⟨fb,fn,fc,g1,g2,g3,by omega⟩
  · simp only [WM,List.getElem?_map,Option.map_eq_some_iff] at hm
    obtain⟨m0,Sy,rfl⟩:=hm;obtain⟨pb,pn,pc,cb,cn,cc,g1,g2,g3,g4,g5,g6,g7,g8,g9,g10,g11⟩:=m5 i m0 Sy;obtain⟨⟨q1,_⟩,_,_,⟨_,q2⟩,_⟩:=k4 i m0 Sy;have q1:(m0.params.length:Int)≤16:=by split at q1 <;>omega
    exact⟨pb,pn,pc,cb,cn,cc,g1,g2,g3,g4,g5,g6,by omega,by simp only [WL,VI];exact g8,by simpa [WL] using g9,by omega⟩
  · simp only [WM,List.mem_map] at hm
    obtain⟨m0,Sy,rfl⟩:=hm;obtain⟨i,hi⟩:=List.mem_iff_getElem?.1 Sy;obtain⟨_,_,_,⟨_,q2⟩,_⟩:=k4 i m0 hi;simp only [WL,List.length_map];omega
def VQ(r:Except Nat Cd.Im)(e:Ending)(o:List CA):Prop:=match r with
  | .error q=>∃β,o= [Cd.Kv β (q:Int)]/\e= .returned (.tuple ⟨[Cd.dZ,Cd.RK β]⟩)
  | .ok x=>match Ex (WM x) with
    |some (c,m,a)=>∃Ec,o= [EF Ec c m a]/\e= .returned (.tuple ⟨[Cd.dZ,LQ Ec]⟩)
    |none=>∃K v,o= [K]/\Cd.IU K x v/\e= .returned (.tuple ⟨[v,.nilIface]⟩)
def oT(r:Except Nat Cd.Im)(e:Ending)(o:List CA):Prop:=match r with
  | .error q=>o= []/\e= .returned (.tuple ⟨[Cd.dZ,.agg ⟨[i64 7,i64 0,i64 (q:Int)]⟩]⟩)
  | .ok x=>match Ex (WM x) with
    |some r=>o= []/\e= .returned (.tuple ⟨[Cd.dZ,j3 (some r)]⟩)
    |none=>∃K v,o= [K]/\Cd.IU K x v/\e= .returned (.tuple ⟨[v,j3 none]⟩)
theorem ca{im:Im}{mi:Int}{m:Me}{c a:Int}(h:IG im mi m=some (c,a)):c=8∨c=9∨c=10:=by
  unfold IG at h
  split at h
  · cases h;exact .inl rfl
  · rename_i ho
    have h0:0<m.code.length:=by have:=Pm (cs:=Hy m.code) Ab;rwa [Fh] at this
    have hr:=(Fz im mi m h0).nz
    split at h
    · rename_i e he
      cases h
      rcases hr c a he with q|q
      · exact .inl q
      · exact .inr (.inl q)
    · split at h
      · cases h;exact .inr (.inr rfl)
      · cases h
theorem Ov(im:Im):∀c m a,Ex im=some (c,m,a)->c≠0:=by
  intro c m a h;unfold Ex at h
  obtain⟨l1,i,l2,_,h1,_⟩:=List.findSome?_eq_some_iff.1 h;rw [Option.map_eq_some_iff] at h1
  obtain⟨⟨c',a'⟩,h2,h3⟩:=h1;cases h3;unfold GG at h2
  split at h2
  · cases h2
  · rcases ca h2 with q|q|q <;>omega
attribute [local irreducible] SL.T Dw DG DE DI Et D0
theorem NH(s:List UInt8)(hs:s.length≤9223372036854775807):SL.T Tryz.prog 26 [str s] [] (VQ (Cd.JN s)):=by
  have hd:=Cd.Um s hs;refine CM Tryz.func26 rfl (Nat.le_of_ble_eq_true rfl) fun F=> ?_
  cases hq:Cd.JN s with
  | error q=>
    rw [hq] at hd
    repeat' (first|refine CW rfl rfl rfl (E4 rfl rfl) ?_|apply Cv|refine Ct 0 Cr AC ?_|(refine gk 4 rfl ?_;(refine CK rfl rfl rfl rfl rfl rfl rfl rfl (hd) ?_;rintro _ _ ⟨RS,rfl,rfl⟩;refine⟨_,_,rfl,rfl,?_⟩))|refine Ct 5 Cr Aq ?_|refine CT (fun β=> ?_)|refine CN ?_|refine Cu ?_|apply Cw|refine Cy ?_|refine CH ?_|apply Cz|refine CQ ?_)
    exact CJ [Cd.Kv RS (q:Int)] (CU (CR rfl rfl rfl rfl) (Cx rfl)) ⟨RS,rfl,rfl⟩
  | ok x=>
    rw [hq] at hd
    have Ht:=(Cd.dG hq).2
    repeat' (first|refine CW rfl rfl rfl (EV rfl rfl) ?_|apply Cv|refine Ct 0 Cr AC ?_|refine Ct 3 Cr AA ?_|(refine gk 4 rfl ?_;(refine CK rfl rfl rfl rfl rfl rfl rfl rfl (hd) ?_;rintro _ _ ⟨K,v,rfl,hI,rfl⟩;obtain⟨n1,n2,n3,m4,n5,n6,rfl⟩:=hI.shape;refine⟨_,_,rfl,rfl,?_⟩))|refine CT (fun β=> ?_)|refine CN ?_|refine Cu ?_|apply Cw|refine Cy ?_|refine CF ?_|apply CB)
    obtain⟨Du,Dr,DP,mb,mn,mc,hv,hc,hm,hl⟩:=cK hI Ht;cases hv;have hC:=GM K (WM x) n1 m4 n2 n3 n5 n6 hc hm hl;unfold VQ;dsimp only
    generalize Ex (WM x)=r at hC ⊢
    cases r with
    | none=>
      repeat' (first|refine CW rfl rfl rfl (EV rfl rfl) ?_|apply Cv|refine Ct 0 Cr Ag ?_|refine Ct 3 Cr AA ?_|(refine gk 4 rfl ?_;(refine CK rfl rfl rfl rfl rfl rfl rfl rfl (hC) ?_;rintro _ _ ⟨K',rfl,lK,rfl⟩;refine⟨_,_,rfl,rfl,?_⟩))|refine CN ?_|refine Cu ?_|apply Cw|refine Cy ?_|refine CF ?_|apply Cz|apply CB)
      exact CJ [K'] (CU (CR rfl rfl rfl rfl) (Cx rfl)) ⟨K',_,rfl,hI.mono lK,rfl⟩
    | some r=>
      obtain⟨c,m,a⟩:=r
      repeat' (first|refine CW rfl rfl rfl (E4 rfl rfl) ?_|apply Cv|refine Ct 0 Cr Ag ?_|(refine gk 4 rfl ?_;(refine CK rfl rfl rfl rfl rfl rfl rfl rfl (hC) ?_;rintro _ _ ⟨K',Ec,rfl,lK,rfl⟩;refine⟨_,_,rfl,rfl,?_⟩))|refine Ct 5 Cr Aq ?_|refine CN ?_|refine Cu ?_|apply Cw|refine Cy ?_|refine CH ?_|apply Cz|refine CQ ?_)
      exact CJ [EF Ec c m a] (CU (CR rfl rfl rfl rfl) (Cx rfl)) ⟨Ec,rfl,rfl⟩
theorem Rp(s:List UInt8)(hs:s.length≤9223372036854775807):SL.T Tryz.prog 38 [str s] [] (oT (Cd.JN s)):=by
  have hd:=Cd.Rr s hs;refine CM Tryz.func38 rfl (Nat.le_of_ble_eq_true rfl) fun F=> ?_
  cases hq:Cd.JN s with
  | error q=>
    rw [hq] at hd
    repeat' (first|apply Cv|refine Ct 0 Cr AC ?_|refine CO 2 Cr AB Ab ?_|(refine gk 4 rfl ?_;(refine CK rfl rfl rfl rfl rfl rfl rfl rfl (hd) ?_;rintro _ _ ⟨K,rfl,rfl⟩;refine⟨_,_,rfl,rfl,?_⟩))|refine Ct 5 Cr Aq ?_|refine CT (fun β=> ?_)|refine CN ?_|refine Cu ?_|apply Cw|refine Cy ?_|refine CH ?_|apply Cz|refine CQ ?_)
    exact CJ [] (CU (CR rfl rfl rfl rfl) (CR rfl rfl rfl rfl)) ⟨rfl,rfl⟩
  | ok x=>
    rw [hq] at hd
    have Ht:=(Cd.dG hq).2
    repeat' (first|apply Cv|refine Ct 0 Cr AC ?_|refine CY 2 Cr AB Ab ?_|refine Ct 3 Cr AA ?_|(refine gk 4 rfl ?_;(refine CK rfl rfl rfl rfl rfl rfl rfl rfl (hd) ?_;rintro _ _ ⟨K,v,rfl,hI,rfl⟩;obtain⟨n1,n2,n3,m4,n5,n6,rfl⟩:=hI.shape;refine⟨_,_,rfl,rfl,?_⟩))|refine CT (fun β=> ?_)|refine CN ?_|refine Cu ?_|apply Cw|refine Cy ?_|refine CF ?_|apply CB)
    obtain⟨Du,Dr,DP,mb,mn,mc,hv,hc,hm,hl⟩:=cK hI Ht;cases hv;have hC:=Nb K (WM x) n1 m4 n2 n3 n5 n6 hc hm hl;have hnz:=Ov (WM x);unfold oT;dsimp only
    generalize Ex (WM x)=r at hC hnz ⊢
    cases r with
    | none=>
      repeat' (first|apply Cv|refine CY 2 Cr Ax Ab ?_|refine Ct 3 Cr Af ?_|(refine gk 4 rfl ?_;(refine CK rfl rfl rfl rfl rfl rfl rfl rfl (hC) ?_;rintro _ _ ⟨K',rfl,lK,rfl⟩;refine⟨_,_,rfl,rfl,?_⟩))|refine CT (fun β=> ?_)|refine CN ?_|refine Cu ?_|apply Cw|refine Cy ?_|refine CF ?_|apply CB)
      obtain⟨JP,rfl⟩:∃x,x=β:=⟨_,rfl⟩;obtain⟨EO,rfl⟩:∃x,x=β:=⟨_,rfl⟩;refine C0 [.q [0],.r [1],.h true 2,.h true 3] [CV EO (.cells ⟨[.slice n1 n2 n3,.slice m4 n5 n6]⟩ 32 (0,0)),CV JP (.cells ⟨[i64 0,i64 0,i64 0]⟩ 43 (0,0))] Ac Ac Ac Ac ?_
      repeat' (first|refine Ct 3 Cr AA ?_|refine C5 ?_|refine Dd rfl ?_|refine HW rfl ?_|refine Df rfl rfl rfl rfl rfl rfl Aa rfl Aa Aa ?_|apply Cw|refine Cy ?_|apply Cz)
      exact CJ [K'] (CU (CR rfl rfl rfl rfl) (CR rfl rfl rfl rfl)) ⟨K',_,rfl,hI.mono lK,rfl⟩
    | some r=>
      obtain⟨c,m,a⟩:=r;have hc0:c≠0:=hnz c m a rfl
      repeat' (first|apply Cv|refine CO 2 Cr Ax Ab ?_|refine Ct 3 Cr Af ?_|(refine gk 4 rfl ?_;(refine CK rfl rfl rfl rfl rfl rfl rfl rfl (hC) ?_;rintro _ _ ⟨K',rfl,lK,rfl⟩;refine⟨_,_,rfl,rfl,?_⟩))|refine CT (fun β=> ?_)|refine CN ?_|refine Cu ?_|apply Cw|refine Cy ?_|refine CH ?_)
      obtain⟨JP,rfl⟩:∃x,x=β:=⟨_,rfl⟩;obtain⟨EO,rfl⟩:∃x,x=β:=⟨_,rfl⟩;refine C0 [.q [0],.r [1],.h true 2,.h true 3] [CV JP (.cells ⟨[i64 c,i64 m,i64 a]⟩ 43 (0,0))] Ac Ac Ac Ac ?_
      repeat' (first|refine Ct 3 Cr AA ?_|refine Ct 5 Cr Aq ?_|refine C5 ?_|refine Dd rfl ?_|refine HW rfl ?_|refine Df rfl rfl rfl rfl rfl rfl Aa rfl Aa Aa ?_|apply Cw|refine Cy ?_|apply Cz|refine CQ ?_)
      exact CJ [] (CU (CR rfl rfl rfl rfl) (CR rfl rfl rfl rfl)) ⟨rfl,rfl⟩
end Go.Proofs.YtcnmnmjmpocepaaGreatDoor
end
section
namespace Go.Proofs.YtcnmnmjmpocepaaGreatDoor
open Go.SL
open Kd
attribute [local irreducible] SL.T Dw DG DE DI Et D0
theorem kg(x:Value):Dw Tryz.prog 64 [.nilIface,x] [] (.bool false):=by
  refine CL Tryz.func64 rfl (Nat.le_of_ble_eq_true rfl) fun F=> ?_
  repeat' (first|refine CW rfl rfl rfl (Zs rfl rfl) ?_|apply Cv|refine Ct 0 Cr Ag ?_|refine Cu ?_|apply Cw|refine Cy ?_|refine CH ?_|apply Cz|refine CQ ?_)
  refine CS (CD (Cx rfl)) ?_
  rfl
theorem aK:Dw Tryz.prog 31 [.nilIface] [] (.agg ⟨[i64 0,i64 0,i64 0]⟩):=by
  have ha:=kg;refine CL Tryz.func31 rfl (Nat.le_of_ble_eq_true rfl) fun F=> ?_
  repeat' (first|refine CW rfl rfl rfl (Fb rfl rfl rfl) ?_|apply Cv|refine Ct 0 Cr Bf ?_|refine CG 2 Cs ?_|refine CG 3 Cs ?_|refine Ct 4 Cr (CE rfl rfl rfl rfl rfl (ha _)) ?_|refine Ct 5 Cr Aq ?_|refine CT (fun β=> ?_)|refine CN ?_|refine Cu ?_|apply Cw|refine Cy ?_|refine CF ?_|apply Cz|apply CB)
  exact CS (CD (CR rfl rfl rfl rfl)) rfl
theorem aJ{G:CA} [sg:Cd.eC G](β:Nat)(c m a:Int):Dw Tryz.prog 31 [LQ β] [EF β c m a,G] (.agg ⟨[i64 c,i64 m,i64 a]⟩):=by
  have ha:=fun b old=>Va.kh (G:=G) ⟨β,0,none⟩ b old
  revert ha
  generalize hβ:β=RS
  intro ha;refine CL Tryz.func31 rfl (Nat.le_of_ble_eq_true rfl) fun F=> ?_
  repeat' (first|refine CW rfl rfl rfl (Fb rfl rfl rfl) ?_|refine CW rfl rfl rfl (Mt rfl rfl) ?_|apply Cv|refine Ct 0 Cr A4 ?_|refine Ct 3 Cr A2 ?_|(refine gk 4 rfl ?_;(refine CK rfl rfl rfl rfl rfl rfl rfl rfl (ha _ (.pointer none)) ?_;rintro _ _ ⟨rfl,rfl⟩;refine⟨_,_,rfl,rfl,?_⟩))|refine Ct 5 Cr Ak ?_|refine CT (fun β=> ?_)|refine CN ?_|refine Cu ?_|apply Cw|refine Cy ?_|refine CH ?_|apply Cz|refine CQ ?_)
  exact CS (CD (CR rfl rfl rfl rfl)) rfl
theorem Pq:Dw Tryz.prog 11 [.nilIface,.agg ⟨[i64 0,i64 0,i64 0]⟩] [] (.bool true):=by
  have ha:=aK;refine CL Tryz.func11 rfl (Nat.le_of_ble_eq_true rfl) fun F=> ?_
  repeat' (first|apply Cv|refine Ct 0 Cr Au ?_|refine C2 (fun β=> ?_)|refine Cu ?_|apply Cw)
  refine C0 [.q [0,1,2,3,4,5,6,7,9],.h false 8,.q [10,11,12]] [CV β (.cells ⟨[i64 0,i64 0,i64 0]⟩ 43 (0,0))] Ac Ac Ac Ac ?_
  repeat' (first|refine CW rfl rfl rfl (EV rfl rfl) ?_|refine Ct 0 Cr Aw ?_|refine CY 2 Cr Ax Ab ?_|refine gk 2 rfl (JU rfl rfl rfl (by first|exact HI Tryz.underlying4 rfl rfl rfl|exact GD rfl rfl rfl rfl) Av ?_)|refine Ct 3 Cr AE ?_|refine C5 ?_|refine Dd rfl ?_|refine IJ rfl rfl rfl rfl rfl rfl rfl rfl (ha) rfl ?_|apply Cw|refine Cy ?_|apply Cz)
  exact CJ [] (CD (Cx rfl)) ⟨rfl,rfl⟩
theorem Kj{G:CA} [sg:Cd.eC G](β:Nat)(c m a:Int)(hc:c≠0):Dw Tryz.prog 11 [LQ β,.agg ⟨[i64 c,i64 m,i64 a]⟩] [EF β c m a,G] (.bool true):=by
  have ha:=aJ (G:=G) β c m a
  revert ha
  generalize hβ:β=RS
  intro ha;refine CL Tryz.func11 rfl (Nat.le_of_ble_eq_true rfl) fun F=> ?_
  repeat' (first|apply Cv|refine Ct 0 Cr Au ?_|refine C2 (fun β=> ?_)|refine Cu ?_|apply Cw)
  refine C0 [.q [0,1,2,3,4,5,6,7,9],.h false 8,.q [10,11,12]] [CV β (.cells ⟨[i64 c,i64 m,i64 a]⟩ 43 (0,0))] Ac Ac Ac Ac ?_
  repeat' (first|refine CW rfl rfl rfl (E4 rfl rfl) ?_|refine Ct 0 Cr Aw ?_|refine CO 2 Cr Ax Ab ?_|refine gk 2 rfl (JU rfl rfl rfl (by first|exact HI Tryz.underlying4 rfl rfl rfl|exact GD rfl rfl rfl rfl) Av ?_)|refine Ol 2 Cr (by exact GD rfl rfl rfl rfl) (fun h=> ?_) (fun h=> ?_)|refine Ct 3 Cr AE ?_|refine C5 ?_|refine Dd rfl ?_|refine IJ rfl rfl rfl rfl rfl rfl rfl rfl (ha) rfl ?_|apply Cw|refine Cy ?_|apply Cz)
  all_goals first|(exfalso;simp at h;done)|exact CJ [EF RS c m a,G] (CD (Cx rfl)) ⟨rfl,rfl⟩
theorem fU{G:CA} [sg:Cd.eC G](β:Nat)(q:Int):Dw Tryz.prog 11 [Cd.RK β,.agg ⟨[i64 7,i64 0,i64 q]⟩] [Cd.Kv β q,G] (.bool true):=by
  have ha:=Cd.WK (G:=G) β q
  revert ha
  generalize hβ:β=RS
  intro ha;refine CL Tryz.func11 rfl (Nat.le_of_ble_eq_true rfl) fun F=> ?_
  repeat' (first|apply Cv|refine Ct 0 Cr Au ?_|refine C2 (fun β=> ?_)|refine Cu ?_|apply Cw)
  refine C0 [.q [0,1,2,3,4,5,6,7,9],.h false 8,.q [10,11,12]] [CV β (.cells ⟨[i64 7,i64 0,i64 q]⟩ 43 (0,0))] Ac Ac Ac Ac ?_
  repeat' (first|refine CW rfl rfl rfl (E4 rfl rfl) ?_|refine Ct 0 Cr Aw ?_|refine CO 2 Cr Ax Ab ?_|refine gk 2 rfl (JU rfl rfl rfl (by first|exact HI Tryz.underlying4 rfl rfl rfl|exact GD rfl rfl rfl rfl) Av ?_)|refine Ol 2 Cr (by exact GD rfl rfl rfl rfl) (fun h=> ?_) (fun h=> ?_)|refine Ct 3 Cr AE ?_|refine C5 ?_|refine Dd rfl ?_|refine IJ rfl rfl rfl rfl rfl rfl rfl rfl (ha) rfl ?_|apply Cw|refine Cy ?_|apply Cz)
  all_goals first|(exfalso;simp at h;done)|exact CJ [Cd.Kv RS q,G] (CD (Cx rfl)) ⟨rfl,rfl⟩
theorem PX{own:List CA}(x:Cd.Im)(v w:Value)(hx:Cd.ia own x v)(hy:Cd.ia own x w):Dw Tryz.prog 39 [v,w] own (.bool true):=by
  have h:=Cd.fx x x v w hx hy;have e:Cd.XM x x=true:=Cd.QE.2 rfl
  rwa [e] at h
theorem KR{G:CA} [sg:Cd.eC G](s:List UInt8)(hs:s.length≤9223372036854775807):Dw Tryz.prog 14 [str s] [G] (.bool true):=by
  have hp:=NH s hs;have hr:=Rp s hs;refine CL Tryz.func14 rfl (Nat.le_of_ble_eq_true rfl) fun F=> ?_
  cases hd:Cd.JN s with
  | error q=>
    rw [hd] at hp hr
    repeat' (first|apply Cv|refine Ct 0 Cr AC ?_|refine Ct 3 Cr AA ?_|(refine gk 4 rfl ?_;(refine CK rfl rfl rfl rfl rfl rfl rfl rfl (hp) ?_;rintro _ _ ⟨RS,rfl,rfl⟩;refine⟨_,_,rfl,rfl,?_⟩))|(refine gk 4 rfl ?_;(refine CK rfl rfl rfl rfl rfl rfl rfl rfl (hr) ?_;rintro _ _ ⟨rfl,rfl⟩;refine⟨_,_,rfl,rfl,?_⟩))|refine CT (fun β=> ?_)|refine CN ?_|refine Cu ?_|apply Cw)
    have hl:=fU (G:=G) RS (q:Int)
    repeat' (first|refine Ct 0 Cr Aw ?_|refine Ct 3 Cr AA ?_|refine Ct 4 Cr (CE rfl rfl rfl rfl rfl (hl)) ?_|refine Ct 4 Cr (Eh rfl rfl rfl rfl rfl (PX Cd.Ke _ _ ⟨G,by simp,Cd.IU.no _⟩ ⟨G,by simp,Cd.IU.no _⟩)) ?_|apply Cw|refine Cy ?_|apply Cz)
    exact CJ [G] (CD (Cx rfl)) ⟨rfl,rfl⟩
  | ok x=>
    rw [hd] at hp hr
    unfold VQ at hp
    unfold oT at hr
    dsimp only at hp hr
    have hnz:=Ov (WM x)
    generalize Ex (WM x)=r at hp hr hnz
    cases r with
    | none=>
      dsimp only at hp hr
      repeat' (first|apply Cv|refine Ct 0 Cr AC ?_|(refine gk 4 rfl ?_;(refine CK rfl rfl rfl rfl rfl rfl rfl rfl (hp) ?_;rintro _ _ ⟨K,v,rfl,hI,rfl⟩;obtain⟨n1,n2,n3,n4,n5,n6,rfl⟩:=hI.shape;refine⟨_,_,rfl,rfl,?_⟩))|refine CT (fun β=> ?_)|refine CN ?_|refine Cu ?_|apply Cw)
      repeat' (first|apply Cv|refine Ct 0 Cr BG ?_|refine Ct 3 Cr AA ?_|(refine gk 4 rfl ?_;(refine CK rfl rfl rfl rfl rfl rfl rfl rfl (hr) ?_;rintro _ _ ⟨K2,w,rfl,hI2,rfl⟩;obtain⟨m1,m2,m3,m4,m5,m6,rfl⟩:=hI2.shape;refine⟨_,_,rfl,rfl,?_⟩))|refine CT (fun β=> ?_)|refine CN ?_|refine Cu ?_|apply Cw)
      repeat' (first|refine Ct 0 Cr Aw ?_|refine Ct 3 Cr AA ?_|refine Ct 4 Cr (CE rfl rfl rfl rfl rfl (Pq)) ?_|refine Ct 4 Cr (Eh rfl rfl rfl rfl rfl (PX x _ _ ⟨K,by simp,hI⟩ ⟨K2,by simp,hI2⟩)) ?_|apply Cw|refine Cy ?_|apply Cz)
      exact CJ [G] (CD (Cx rfl)) ⟨rfl,rfl⟩
    | some r=>
      obtain⟨c,m,a⟩:=r;have hc:=hnz c m a rfl;dsimp only at hp hr
      repeat' (first|apply Cv|refine Ct 0 Cr AC ?_|refine Ct 3 Cr AA ?_|(refine gk 4 rfl ?_;(refine CK rfl rfl rfl rfl rfl rfl rfl rfl (hp) ?_;rintro _ _ ⟨RS,rfl,rfl⟩;refine⟨_,_,rfl,rfl,?_⟩))|(refine gk 4 rfl ?_;(refine CK rfl rfl rfl rfl rfl rfl rfl rfl (hr) ?_;rintro _ _ ⟨rfl,rfl⟩;refine⟨_,_,rfl,rfl,?_⟩))|refine CT (fun β=> ?_)|refine CN ?_|refine Cu ?_|apply Cw)
      have hl:=Kj (G:=G) RS c m a hc
      repeat' (first|refine Ct 0 Cr Aw ?_|refine Ct 3 Cr AA ?_|refine Ct 4 Cr (CE rfl rfl rfl rfl rfl (hl)) ?_|refine Ct 4 Cr (Eh rfl rfl rfl rfl rfl (PX Cd.Ke _ _ ⟨G,by simp,Cd.IU.no _⟩ ⟨G,by simp,Cd.IU.no _⟩)) ?_|apply Cw|refine Cy ?_|apply Cz)
      exact CJ [G] (CD (Cx rfl)) ⟨rfl,rfl⟩
end Go.Proofs.YtcnmnmjmpocepaaGreatDoor
end
section
namespace Go.Proofs.YtcnmnmjmpocepaaGreatDoor
open Go.SL
open Kd
def bX(y:Ins):Cd.Ins:=⟨y.op,y.a,y.b⟩
def K8(m:Me):Cd.Me:=⟨m.params,m.lo,m.st,m.code.map bX⟩
def R7(x:Im):Cd.Im:=⟨x.cls,x.ms.map K8⟩
theorem Lh:∀l:List Ins,Cd.CZ (l.map bX)=CZ l
  | []=>rfl
  | y::l=>by
    have:=Lh l;simp only [List.map_cons,CZ,Cd.CZ,this,bX]
theorem eQ(x:Im):WM (R7 x)=x:=by
  have h1:∀l:List Ins,(l.map bX).map aL=l:=fun l=>by
    rw [List.map_map];have:(aL∘bX)=id:=by funext y;rfl
    rw [this,List.map_id]
  have h2:(WL∘K8)=id:=by
    funext m
    show WL (K8 m)=m;simp only [WL,K8,h1]
  cases x with
  |mk cls ms=>simp only [WM,R7,List.map_map,h2,List.map_id]
def ez(K:CA)(x:Im)(v:Value):Prop:=mS K x v/\Cd.IU K (R7 x) v
theorem ez.mono{K K':CA}{x:Im}{v:Value}(h:ez K x v)(l:hle K K'):ez K' x v:=⟨h.1.mono l,h.2.mono l⟩
theorem cO{K:CA}{l:List Ins}{Ji n c:Nat}{Du mb:Option Addr}(hn:l.length=n)(hc:n≤c)(DO:n≤1000000)(h1:Sl K Du [.slice none 0 0])(h2:Sl K mb [.slice none 0 0,i64 2,i64 2,.slice (some ⟨Ji,0,none⟩) n c])(h3:Sl K (some ⟨Ji,0,none⟩) (CZ l)):ez K (GY l) (Gi Du 1 1 mb 1 1):=by
  refine⟨⟨Du,1,1,mb,1,1,rfl,⟨_,h1,rfl,rfl,by decide,fun i f hf=> ?_⟩,⟨_,h2,rfl,rfl,by decide,fun i m hm=> ?_⟩,fun m hm=> ?_⟩,⟨Du,1,1,mb,1,1,rfl,⟨_,h1,rfl,rfl,by decide,fun i f hf=> ?_⟩,⟨_,h2,rfl,rfl,by decide,fun i m hm=> ?_⟩,by decide,by decide⟩⟩
  · cases i with
    |zero=>simp [GY] at hf;subst hf;exact⟨none,0,0,rfl,Sl.none,rfl,by decide⟩
    |succ i=>simp [GY] at hf
  · cases i with
    |zero=>simp [GY] at hm;subst hm;exact⟨none,0,0,_,n,c,rfl,rfl,rfl,rfl,Sl.none,rfl,by decide,h3,hn,by omega⟩
    |succ i=>simp [GY] at hm
  · simp [GY] at hm;subst hm;dsimp only;omega
  · cases i with
    |zero=>simp [GY,R7] at hf;subst hf;exact⟨none,0,0,rfl,Sl.none,rfl,by decide⟩
    |succ i=>simp [GY,R7] at hf
  · cases i with
    | zero=>
      simp [GY,R7] at hm;subst hm
      exact⟨none,0,0,_,n,c,rfl,rfl,rfl,rfl,Sl.none,rfl,by decide,by simp only [K8,Lh];exact h3,by simpa [K8] using hn,hc,by omega⟩
    |succ i=>simp [GY,R7] at hm
attribute [local irreducible] SL.T Dw DG DE DI Et D0
theorem J5(op a:Int):Dw Tryz.prog 24 [i64 op,i64 a] [] (.agg ⟨[i64 op,i64 a,i64 0]⟩):=by
  refine CL Tryz.func24 rfl (Nat.le_of_ble_eq_true rfl) fun F=> ?_
  repeat' (first|apply Cv|refine Ct 0 Cr Ap ?_|refine Ct 5 Cr Aq ?_|refine CT (fun β=> ?_)|refine CN ?_|refine Cu ?_|apply Cw|refine Cy ?_|apply Cz)
  exact CJ [] (CD (CR rfl rfl rfl rfl)) ⟨rfl,rfl⟩
theorem bQ(Ji n c:Nat)(cs:List Value):SL.T Tryz.prog 23 [.slice (some ⟨Ji,0,none⟩) n c] [CV Ji (.cells ⟨cs⟩ 24 (0,0))] fun e o=>
    ∃A N,o=N++A/\A= []/\∃βc FT,N= [CV Ji (.cells ⟨cs⟩ 24 (0,0)),CV βc (.cells ⟨[.slice none 0 0]⟩ 76 (0,0)),CV FT (.cells ⟨[.slice none 0 0,i64 2,i64 2,.slice (some ⟨Ji,0,none⟩) n c]⟩ 66 (0,0))]/\e= .returned (Gi (some ⟨βc,0,none⟩) 1 1 (some ⟨FT,0,none⟩) 1 1):=by
  refine CM Tryz.func23 rfl (Nat.le_of_ble_eq_true rfl) fun F=> ?_
  repeat' (first|apply Cv|refine Ct 0 Cr Ap ?_|refine Ct 5 Cr Aq ?_|refine CP (fun b=> ?_)|refine CT (fun β=> ?_)|refine CN ?_|refine Cu ?_|apply Cw|refine Cy ?_|apply Cz)
  obtain⟨bm,rfl⟩:∃x,x=b:=⟨_,rfl⟩;obtain⟨bc,rfl⟩:∃x,x=b:=⟨_,rfl⟩;exact CJ [CV Ji (.cells ⟨cs⟩ 24 (0,0)),CV bc (.cells ⟨[.slice none 0 0]⟩ 76 (0,0)),CV bm (.cells ⟨[.slice none 0 0,i64 2,i64 2,.slice (some ⟨Ji,0,none⟩) n c]⟩ 66 (0,0))] (CD (CR rfl rfl rfl rfl)) ⟨[],_,(List.append_nil _).symm,rfl,bc,bm,rfl,rfl⟩
theorem H5(Ji n c:Nat)(cs:List Value)(l:List Ins)(Oi:cs=CZ l)(hn:l.length=n)(hc:n≤c)(DO:n≤1000000):SL.T Tryz.prog 23 [.slice (some ⟨Ji,0,none⟩) n c] [CV Ji (.cells ⟨cs⟩ 24 (0,0))] fun e o=>
    ∃K a b,o= [K]/\e= .returned (Gi a 1 1 b 1 1)/\ez K (GY l) (Gi a 1 1 b 1 1):=by
  refine(kl (R:=fun e A N=>A= []/\∃βc FT,N= [CV Ji (.cells ⟨cs⟩ 24 (0,0)),CV βc (.cells ⟨[.slice none 0 0]⟩ 76 (0,0)),CV FT (.cells ⟨[.slice none 0 0,i64 2,i64 2,.slice (some ⟨Ji,0,none⟩) n c]⟩ 66 (0,0))]/\e= .returned (Gi (some ⟨βc,0,none⟩) 1 1 (some ⟨FT,0,none⟩) 1 1)) (bQ Ji n c cs)).mono ?_;rintro e o ⟨A,N,K,rfl,hK,rfl,βc,FT,rfl,rfl⟩;subst Oi;have k1:=hK (CV Ji (.cells ⟨CZ l⟩ 24 (0,0))) Am;have k2:=hK (CV βc (.cells ⟨[.slice none 0 0]⟩ 76 (0,0))) Am;have k3:=hK (CV FT (.cells ⟨[.slice none 0 0,i64 2,i64 2,.slice (some ⟨Ji,0,none⟩) n c]⟩ 66 (0,0))) Am;exact⟨K,_,_,rfl,rfl,cO hn hc DO (Sl.CV.mono k2) (Sl.CV.mono k3) (Sl.CV.mono k1)⟩
theorem Jy{G:CA} [sg:Cd.eC G](K:CA)(im:Im)(a b:Option Addr)(c at_:Int)(hB:ez K im (Gi a 1 1 b 1 1))(hc:c≠0)(rR:Ex im=some (c,0,at_)):
    SL.T Tryz.prog 25 [Gi a 1 1 b 1 1,i64 c,i64 at_] [K,G] fun e o=>∃K',o= [K',G]/\hle K K'/\e= .returned (.bool true):=by
  obtain⟨x1,x2,x3,x4,x5,x6,hv,h1,h2,h3⟩:=hB.1;cases hv;have hC:=GM K im a b 1 1 1 1 h1 h2 h3;rw [rR] at hC
  refine CM Tryz.func25 rfl (Nat.le_of_ble_eq_true rfl) fun F=> ?_
  repeat' (first|apply Cv|refine Ct 0 Cr Ag ?_|refine Ct 3 Cr AA ?_|(refine gk 4 rfl ?_;(refine CK rfl rfl rfl rfl rfl rfl rfl rfl (hC) ?_;rintro _ _ ⟨K',Ec,rfl,lK,rfl⟩;refine⟨_,_,rfl,rfl,?_⟩))|refine Ct 5 Cr Aq ?_|refine C2 (fun β=> ?_)|refine Cu ?_|apply Cw)
  have hl:=Kj (G:=G) Ec c 0 at_ hc
  repeat' (first|refine Ct 0 Cr Au ?_|refine Ct 4 Cr (CE rfl rfl rfl rfl rfl (hl)) ?_|apply Cw|refine Cy ?_|apply Cz)
  exact CJ [K',G] (CD (Cx rfl)) ⟨K',rfl,lK,rfl⟩
end Go.Proofs.YtcnmnmjmpocepaaGreatDoor
end
section
namespace Go.Proofs.YtcnmnmjmpocepaaGreatDoor
open Go.SL
open Kd
theorem jD(x:Cd.Im):Cd.Sp x≠ []:=by unfold Cd.Sp;simp
theorem dP(l:List Ins)(h:∀y∈l,Cd.dV y.a/\Cd.dV y.b):Cd.kE (R7 (GY l)):=by
  intro m hm y hy;simp only [R7,GY,List.map_cons,List.map_nil,List.mem_singleton] at hm
  subst hm;simp only [K8,List.mem_map] at hy
  obtain⟨z,hz,rfl⟩:=hy;exact h z hz
theorem Xy:Cd.JK (R7 (GY [JL 0 1,JL 20 0]))=true:=by decide +kernel
theorem lN:Cd.Q5 (R7 (GY [JL 0 1,JL 20 0])):=(Cd.OO (dP _ (by simp only [List.mem_cons,List.not_mem_nil,or_false,forall_eq_or_imp,forall_eq,JL,Cd.dV];omega))).1 Xy
theorem Zc{x:Cd.Im}(h:Cd.JK x=true):(Cd.Sp x).length≤9223372036854775807:=by
  have hs:=Cd.MZ h;have h1:=hs.gJ x.cls.length;have h2:=hs.na x.ms.length;rw [List.take_length] at h1 h2
  have h3:=hs.cls;have h4:=hs.ms;unfold Cd.Sp;simp only [List.length_append,List.length_cons,List.length_nil,Cd.Em];omega
theorem gM{K:CA}{im:Im}{a b:Option Addr}{p q r t:Nat}(hB:ez K im (Gi a p q b r t))(h:Ex im=none):
    SL.T Tryz.prog 12 [Gi a p q b r t] [K] fun e o=>∃K',o= [K']/\hle K K'/\e= .returned .nilIface:=by
  obtain⟨x1,x2,x3,x4,x5,x6,hv,h1,h2,h3⟩:=hB.1;cases hv;have hC:=GM K im a b p q r t h1 h2 h3;rw [h] at hC
  exact hC
attribute [local irreducible] SL.T Dw DG DE DI Et D0
theorem OA{G:CA} [sg:Cd.eC G]:Dw Tryz.prog 10 [] [G] (.bool true):=by
  have hdec:=Cd.gF lN;have hV:=NH (Cd.Sp (R7 (GY [JL 0 1,JL 20 0]))) (Zc Xy);rw [hdec] at hV
  unfold VQ at hV
  dsimp only at hV
  rw [eQ,la] at hV
  dsimp only at hV
  refine CL Tryz.func10 rfl (Nat.le_of_ble_eq_true rfl) fun F=> ?_
  repeat' (first|apply Cv|refine Ct 0 Cr Au ?_|refine Ct 4 Cr (CE rfl rfl rfl rfl rfl (J5 _ _)) ?_|(refine gk 4 rfl ?_;(refine CK rfl rfl rfl rfl rfl rfl rfl rfl (H5 _ 2 2 [i64 0,i64 1,i64 0,i64 20,i64 0,i64 0] [JL 0 1,JL 20 0] rfl rfl Ah Ah) ?_;rintro _ _ ⟨K0,a0,b0,rfl,rfl,hB0⟩;refine⟨_,_,rfl,rfl,?_⟩))|refine CP (fun b=> ?_)|refine Cu ?_|apply Cw)
  have hE:=Cd.Ul K0 _ _ hB0.2;rw [if_pos Xy] at hE
  generalize hs:Cd.Sp (R7 (GY [JL 0 1,JL 20 0]))=s0 at hE hV
  have Wt:s0≠ []:=by rw [<-hs];exact jD _
  repeat' (first|refine CW rfl rfl rfl ((GC rfl rfl rfl).to (congrArg Value.bool (decide_eq_false Wt))) ?_|refine CW rfl rfl rfl (EV rfl rfl) ?_|apply Cv|refine Ct 0 Cr A0 ?_|refine CY 2 Cr Ax Ab ?_|refine Ct 4 Cr (CE rfl rfl rfl rfl rfl (hE)) ?_|(refine gk 4 rfl ?_;(refine CK rfl rfl rfl rfl rfl rfl rfl rfl (hV) ?_;rintro _ _ ⟨KV,v,rfl,hIV,rfl⟩;obtain⟨n1,n2,n3,n4,n5,n6,rfl⟩:=hIV.shape;refine⟨_,_,rfl,rfl,?_⟩))|refine Ct 4 Cr (CE rfl rfl rfl rfl rfl (J5 _ _)) ?_|(refine gk 4 rfl ?_;(refine CK rfl rfl rfl rfl rfl rfl rfl rfl (H5 _ 2 2 [i64 0,i64 1,i64 0,i64 20,i64 0,i64 0] [JL 0 1,JL 20 0] rfl rfl Ah Ah) ?_;rintro _ _ ⟨K1,a1,b1,rfl,rfl,nr⟩;refine⟨_,_,rfl,rfl,?_⟩))|refine CP (fun b=> ?_)|refine CT (fun β=> ?_)|refine CN ?_|refine Cu ?_|apply Cw)
  have hC1:=gM nr la
  repeat' (first|refine CW rfl rfl rfl (EV rfl rfl) ?_|apply Cv|refine Ct 0 Cr (by exact DY rfl rfl rfl) ?_|(refine gk 4 rfl ?_;(refine CK rfl rfl rfl rfl rfl rfl rfl rfl (hC1) ?_;rintro _ _ ⟨KC,rfl,lC,rfl⟩;refine⟨_,_,rfl,rfl,?_⟩))|refine Ct 4 Cr (CE rfl rfl rfl rfl rfl (J5 _ _)) ?_|(refine gk 4 rfl ?_;(refine CK rfl rfl rfl rfl rfl rfl rfl rfl (H5 _ 1 1 [i64 0,i64 1,i64 0] [JL 0 1] rfl rfl Ah Ah) ?_;rintro _ _ ⟨K2,a2,b2,rfl,rfl,hB2⟩;refine⟨_,_,rfl,rfl,?_⟩))|refine CP (fun b=> ?_)|refine Cu ?_|apply Cw|refine Cy ?_|refine CF ?_|apply CB)
  have hf2:=Jy (G:=G) K2 _ a2 b2 8 0 hB2 Ah ql
  repeat' (first|refine Ct 0 Cr Ap ?_|(refine gk 4 rfl ?_;(refine CK rfl rfl rfl rfl rfl rfl rfl rfl (hf2) ?_;rintro _ _ ⟨KF2,rfl,lF2,rfl⟩;refine⟨_,_,rfl,rfl,?_⟩))|refine Ct 4 Cr (CE rfl rfl rfl rfl rfl (J5 _ _)) ?_|(refine gk 4 rfl ?_;(refine CK rfl rfl rfl rfl rfl rfl rfl rfl (H5 _ 2 2 [i64 2,i64 0,i64 0,i64 20,i64 0,i64 0] [JL 2 0,JL 20 0] rfl rfl Ah Ah) ?_;rintro _ _ ⟨K3,a3,b3,rfl,rfl,hB3⟩;refine⟨_,_,rfl,rfl,?_⟩))|refine CP (fun b=> ?_))
  have hf3:=Jy (G:=G) K3 _ a3 b3 9 0 hB3 Ah qk
  repeat' (first|apply Cv|refine Ct 0 Cr Cc ?_|(refine gk 4 rfl ?_;(refine CK rfl rfl rfl rfl rfl rfl rfl rfl (hf3) ?_;rintro _ _ ⟨KF3,rfl,lF3,rfl⟩;refine⟨_,_,rfl,rfl,?_⟩))|refine Ct 4 Cr (CE rfl rfl rfl rfl rfl (J5 _ _)) ?_|(refine gk 4 rfl ?_;(refine CK rfl rfl rfl rfl rfl rfl rfl rfl (H5 _ 5 5 [i64 0,i64 1,i64 0,i64 7,i64 3,i64 0,i64 0,i64 2,i64 0,i64 0,i64 0,i64 0,i64 20,i64 0,i64 0] [JL 0 1,JL 7 3,JL 0 2,JL 0 0,JL 20 0] rfl rfl Ah Ah) ?_;rintro _ _ ⟨K4,a4,b4,rfl,rfl,hB4⟩;refine⟨_,_,rfl,rfl,?_⟩))|refine CP (fun b=> ?_)|refine Cu ?_|apply Cw)
  have l4:=Jy (G:=G) K4 _ a4 b4 9 3 hB4 Ah qj
  repeat' (first|apply Cv|refine Ct 0 Cr Aw ?_|(refine gk 4 rfl ?_;(refine CK rfl rfl rfl rfl rfl rfl rfl rfl (l4) ?_;rintro _ _ ⟨KF4,rfl,lF4,rfl⟩;refine⟨_,_,rfl,rfl,?_⟩))|refine Ct 4 Cr (CE rfl rfl rfl rfl rfl (J5 _ _)) ?_|(refine gk 4 rfl ?_;(refine CK rfl rfl rfl rfl rfl rfl rfl rfl (H5 _ 6 6 [i64 9,i64 0,i64 0,i64 3,i64 0,i64 0,i64 2,i64 0,i64 0,i64 12,i64 0,i64 0,i64 0,i64 0,i64 0,i64 20,i64 0,i64 0] [JL 9 0,JL 3 0,JL 2 0,JL 12 0,JL 0 0,JL 20 0] rfl rfl Ah Ah) ?_;rintro _ _ ⟨K5,a5,b5,rfl,rfl,hB5⟩;refine⟨_,_,rfl,rfl,?_⟩))|refine CP (fun b=> ?_)|refine Cu ?_|apply Cw)
  have hf5:=Jy (G:=G) K5 _ a5 b5 10 5 hB5 Ah qi
  repeat' (first|refine Ct 0 Cr Cc ?_|(refine gk 4 rfl ?_;(refine CK rfl rfl rfl rfl rfl rfl rfl rfl (hf5) ?_;rintro _ _ ⟨KF5,rfl,lF5,rfl⟩;refine⟨_,_,rfl,rfl,?_⟩))|apply Cw|refine Cy ?_|apply Cz)
  exact CJ [G] (CD (Cx rfl)) ⟨rfl,rfl⟩
end Go.Proofs.YtcnmnmjmpocepaaGreatDoor
end
