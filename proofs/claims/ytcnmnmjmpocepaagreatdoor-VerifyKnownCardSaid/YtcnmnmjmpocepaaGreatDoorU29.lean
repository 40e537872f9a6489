
import Derived.Test.YtcnmnmjmpocepaaGreatDoorU00
import Derived.Test.YtcnmnmjmpocepaaGreatDoorU11
import Derived.Test.YtcnmnmjmpocepaaGreatDoorU28
import Derived.Test.YtcnmnmjmpocepaaGreatDoorU24
import Derived.Test.YtcnmnmjmpocepaaGreatDoorU26
set_option linter.unusedVariables false
set_option linter.unusedSimpArgs false
set_option linter.unusedSectionVars false
set_option maxRecDepth 100000
set_option maxHeartbeats 16000000
section
namespace Go.Proofs.YtcnmnmjmpocepaaGreatDoor
open Go.SL
open Kd
noncomputable def Ge(im:Im)(mi:Int)(m:Me):Except Er Fs:=
  open Classical in if h:∃r,Ew im mi (R6 m.code m.code.length) m.code.length (F7 m m.code.length) r then Classical.choose h else .ok []
theorem FO(im:Im)(mi:Int)(m:Me)(h0:0<m.code.length):Ew im mi (R6 m.code m.code.length) m.code.length (F7 m m.code.length) (Ge im mi m):=by
  have h:=Wg im mi (R6 m.code m.code.length) m.code.length _ _ (Nat.le_refl _) (U7 (Kw m h0));unfold Ge;rw [dif_pos h];exact Classical.choose_spec h
noncomputable def Hf(im:Im)(mi:Int)(m:Me):Option Er:=
  if 0≤Nd.off (FH m.code) then some (8,Nd.off (FH m.code))
  else match Ge im mi m with
  | .error e=>some e
  | .ok _=>if 0≤Nd.L0 (FH m.code) then some (10,Nd.L0 (FH m.code)) else none
noncomputable def FM(im:Im)(i:Nat):Option Er:=match im.ms[i]? with|none=>none|some m=>Hf im (i:Int) m
noncomputable def DC(im:Im):Option (Int×Int×Int):=(List.range im.ms.length).findSome? fun i=>(FM im i).map fun e=>(e.1,(i:Int),e.2)
theorem J6{im:Im}{i:Nat}{c a:Int}(hi:i<im.ms.length)(h:∀j,j<i->FM im j=none)(he:FM im i=some (c,a)):DC im=some (c,(i:Int),a):=by
  unfold DC;obtain⟨l2,hl⟩:=range_split hi;rw [hl,List.findSome?_append];have e:(List.range i).findSome? (fun i=>(FM im i).map fun e=>(e.1,(i:Int),e.2))=none:=by
    rw [List.findSome?_eq_none_iff];intro j hj;rw [h j (List.mem_range.1 hj)];rfl
  rw [e,List.findSome?_cons,he];rfl
theorem Mw{im:Im}(h:∀j,j<im.ms.length->FM im j=none):DC im=none:=by
  unfold DC;rw [List.findSome?_eq_none_iff];intro j hj;rw [h j (List.mem_range.1 hj)];rfl
theorem QI{cs:List Nd.Ins}(h:Nd.off cs<0):0<cs.length:=by
  cases cs with
  |nil=>exact absurd h Ae
  |cons a l=>simp
def fP(n:Nat)(mi:Int)(K0:B6)(r:Except Er Fs)(e:Ending)(o:List B6):Prop:=
  match r with
  | .error (c,a)=>∃K D6,o= [K,D8 D6 c mi a]/\hle K0 K/\e= .returned (.tuple #[.slice none 0 0,.slice none 0 0,Ka D6])
  | .ok σ=>∃fb hb HF HH K cs,o= [HF,HH,K]/\hle K0 K/\e= .returned (.tuple #[.slice fb n n,.slice hb n n,.nilIface])/\OS HF fb n n 59 2 cs/\OS HH hb n n 4 1 (Dp σ)/\GF K σ cs
def fT(K0:B6)(r:Option (Int×Int×Int))(e:Ending)(o:List B6):Prop:=
  match r with
  |none=>∃K,o= [K]/\hle K0 K/\e= .returned .nilIface
  |some (c,m,a)=>∃K D6,o= [K,D8 D6 c m a]/\hle K0 K/\e= .returned (Ka D6)
section
variable (K0:B6) (im:Im) (DF mb:Option Addr) (DW EG mn mc:Nat) (mi:Int)
theorem aU(HM:I6 K0 im.ms mb mn)(m:Me)(h:0≤mi/\mi<mn)(hm:im.ms[mi.toNat]?=some m):
    SL.T Tryz.prog 32 [F8 DF DW EG mb mn mc,i64 mi] [K0] fun e o=>∃p:Ql,p.n=m.code.length/\p.mi=mi/\p.DF=DF/\p.DW=DW/\p.EG=EG/\p.mb=mb/\p.mn=mn/\p.mc=mc/\Sl K0 p.cb (Cp m.code)/\
      ∃HF HH cs,o= [p.B,HF,HH,K0]/\e= .returned (.pointer (some ⟨p.Dq,0,none⟩))/\OS HF p.fb p.n p.n 59 2 cs/\OS HH p.hb p.n p.n 4 1 (Dp (List.replicate p.n none))/\GF K0 (List.replicate p.n none) cs:=by
  refine(X2 K0 im DF mb DW EG mn mc mi HM m h hm).mono ?_;rintro e o ⟨p,HF,HH,cs,⟨h1,h2,h3,h4,h5,h6,h7,h8,h9,h10,h11,h12,h13⟩,h14,h15,h16,h17,h18⟩;exact⟨p,h1,h2,h3,h4,h5,h6,h7,h8,h11,HF,HH,cs,h14,h15,h16,h17,h18⟩
end
attribute [local irreducible] SL.T C7 Dc C6 Db DS Du
section
variable (K0:B6) (im:Im) (DF mb:Option Addr) (DW EG mn mc:Nat) (mi:Int)
theorem I7(ET:Hk K0 im.cls DF DW)(HM:I6 K0 im.ms mb mn)(m:Me)(h:0≤mi/\mi<mn)(hm:im.ms[mi.toNat]?=some m)(h0:0<m.code.length)(DE:m.code.length≤1000000):
    SL.T Tryz.prog 15 [F8 DF DW EG mb mn mc,i64 mi] [K0] (fP m.code.length mi K0 (Ge im mi m)):=by
  have ho:=aU K0 im DF mb DW EG mn mc mi HM m h hm;have hr:=FO im mi m h0;refine Ch Tryz.func15 rfl (Nat.le_of_ble_eq_true rfl) fun F=> ?_
  repeat' (first|apply B4|refine B3 0 BY Af ?_|refine CE 2 BY Ao Ab ?_|refine B3 3 BY AF ?_|refine B3 4 BY Ag ?_|(refine gk 4 rfl ?_;(refine B9 rfl rfl rfl rfl rfl rfl rfl rfl (ho) ?_;rintro _ _ ⟨p,e1,e2,e3,e4,e5,e6,e7,e8,sC,HF,HH,cs,rfl,rfl,IL,IE,hF⟩;refine⟨_,_,rfl,rfl,?_⟩))|refine B3 5 BY Al ?_|refine CF (fun β=> ?_)|refine B0 ?_|apply B5|refine B8 ?_|refine Cg ?_|apply Cc)
  have P1:=Lj p im m K0 HF HH cs (by rw [e3,e4];exact ET) (by rw [e6,e7];exact HM) sC (by rw [e2,e7];exact h) (by rw [e2];exact hm) e1.symm (by rw [e1];exact h0) (by rw [e1];exact DE) IL IE hF (r:=Ge im mi m) (by rw [e1,e2];exact hr);rw [<-e1]
  generalize Ge im mi m=r at P1 ⊢
  cases r with
  | error e=>
    obtain⟨c,a⟩:=e
    repeat' (first|refine Cq rfl rfl rfl (D7 rfl rfl) ?_|apply B4|refine B3 0 BY Af ?_|(refine gk 4 rfl ?_;(refine B9 rfl rfl rfl rfl rfl rfl rfl rfl (P1) ?_;rintro _ _ ⟨HF',HH',K',D6,rfl,rfl,lK⟩;refine⟨_,_,rfl,rfl,?_⟩))|refine B0 ?_|apply B5|refine B8 ?_|refine Cl ?_|apply Cb|refine Cx ?_)
    exact Cj [K',D8 D6 c p.mi a] (MI (B7 rfl) (B7 rfl) (B7 rfl)) ⟨K',D6,by rw [e2],lK,rfl⟩
  | ok σ=>
    repeat' (first|refine Cq rfl rfl rfl (DT rfl rfl) ?_|apply B4|refine B3 0 BY Af ?_|(refine gk 4 rfl ?_;(refine B9 rfl rfl rfl rfl rfl rfl rfl rfl (P1) ?_;rintro _ _ ⟨HF',HH',K',cs',rfl,rfl,hf⟩;refine⟨_,_,rfl,rfl,?_⟩))|refine B0 ?_|apply B5|refine B8 ?_|refine Cg ?_|apply Cc)
    refine C5 Ac Ac rfl ?_
    repeat' (first|refine B3 0 BY Af ?_|refine B3 3 BY Ah ?_|refine B3 5 BY Al ?_|apply B5|refine B8 ?_|apply Cb)
    exact Cj [HF',HH',K'] (MI (B7 rfl) (B7 rfl) (B7 rfl)) ⟨p.fb,p.hb,HF',HH',K',cs',rfl,hf.le,rfl,hf.IL,hf.IE,hf.fr⟩
theorem Ey(ET:Hk K0 im.cls DF DW)(HM:I6 K0 im.ms mb mn)(DE:∀m∈im.ms,m.code.length≤1000000):
    SL.T Tryz.prog 12 [F8 DF DW EG mb mn mc] [K0] (fT K0 (DC im)):=by
  obtain⟨CY,z1,z2,z3,z4,z5⟩:=id HM;refine Ch Tryz.func12 rfl (Nat.le_of_ble_eq_true rfl) fun F=> ?_
  repeat' (first|apply B4|refine B3 0 BY Af ?_|refine B3 3 BY Ah ?_|refine B3 4 BY Ag ?_|refine CF (fun β=> ?_)|refine B0 ?_|apply B5|refine B8 ?_|refine Cf ?_)
  obtain⟨jj,rfl⟩:∃x,x=β:=⟨_,rfl⟩;refine CH (fun s:Nat×B6=> [(1,.pointer (some ⟨jj,0,none⟩)),(2,.nilIface),(10,i64 (mn:Int)),(11,i64 (s.1:Int))]) (fun s=> [s.2,Co jj (.cells ⟨[.slice DF DW EG,.slice mb mn mc]⟩ 32 (0,0))])
    (fun s=>s.1≤mn/\hle K0 s.2/\∀j,j<s.1->FM im j=none) (fun s=>mn - s.1) (0,K0) (by repeat first|exact Sub.nil _|refine Sub.cons rfl ?_) ⟨Nat.zero_le _,hle.refl _,fun j hj=>absurd hj (Nat.not_lt_zero _)⟩ ?_
  rintro⟨i,K⟩ ⟨hi,lK,hbef⟩;dsimp only at hi lK hbef ⊢
  by_cases Eh:i<mn
  · obtain⟨m,hm⟩:∃z,im.ms[i]?=some z:=⟨_,List.getElem?_eq_getElem Ab⟩;have E5:FM im i=Hf im (i:Int) m:=by simp only [FM,hm]
    have hsmm:=DE m (List.mem_of_getElem? hm);have ho:=aU K im DF mb DW EG mn mc (i:Int) (HM.mono lK) m Ab (by simpa using hm)
    repeat' (first|apply B4|refine B3 0 BY A1 ?_|refine Cs 2 BY Aj Ab ?_|refine B3 3 BY Az ?_|(refine gk 4 rfl ?_;(refine B9 rfl rfl rfl rfl rfl rfl rfl rfl (ho) ?_;rintro _ _ ⟨p,e1,e2,e3,e4,e5,e6,e7,e8,sC,HF,HH,cs,rfl,rfl,IL,IE,hF⟩;refine⟨_,_,rfl,rfl,?_⟩))|refine B3 5 BY Ar ?_|refine B0 ?_|apply B5|refine B8 ?_|refine Cl ?_|refine Cf ?_|apply Cc)
    by_cases hoff:0≤Nd.off (FH m.code)
    · have hO:=ZS p K m.code sC e1.symm (by rw [e1];exact hsmm) hoff;have e:DC im=some (8,(i:Int),Nd.off (FH m.code)):=J6 Ab hbef (by rw [E5];unfold Hf;rw [if_pos hoff]);rw [e];refine GK 4 (JP ?_)
      repeat' (first|refine Cq rfl rfl rfl (D7 rfl rfl) ?_|refine Cq rfl rfl rfl (Ix rfl rfl rfl Ae Ae rfl) ?_|apply B4|refine B3 0 BY Af ?_|refine Cs 2 BY Aj Ab ?_|(refine gk 4 rfl ?_;(refine B9 rfl rfl rfl rfl rfl rfl rfl rfl (hO) ?_;rintro _ _ ⟨D6,rfl,rfl⟩;refine⟨_,_,rfl,rfl,?_⟩))|refine B0 ?_|apply B5|refine B8 ?_|refine Cl ?_|refine Cf ?_|apply Cb|apply Cc|refine Cx ?_|refine Dd ?_)
      exact Cj [K,D8 D6 8 p.mi (Nd.off (FH m.code))] (Ce (B7 rfl)) ⟨K,D6,by rw [e2],lK,rfl⟩
    · have hO:=ct p K m.code sC e1.symm (by rw [e1];exact hsmm) Ab;have h0:0<m.code.length:=by have:=QI (cs:=FH m.code) Ab;rwa [Dk] at this
      have P1:=Lj p im m K HF HH cs (by rw [e3,e4];exact ET.mono lK) (by rw [e6,e7];exact HM.mono lK) sC (by rw [e2,e7];omega) (by rw [e2];simpa using hm) e1.symm (by rw [e1];exact h0) (by rw [e1];exact hsmm) IL IE hF (r:=Ge im (i:Int) m) (by rw [e1,e2];exact FO im (i:Int) m h0);cases hV:Ge im (i:Int) m with
      | error e=>
        obtain⟨c,a⟩:=e;rw [hV] at P1
        have e:DC im=some (c,(i:Int),a):=J6 Ab hbef (by rw [E5];unfold Hf;rw [if_neg hoff,hV]);rw [e];refine GK 4 (JP ?_)
        repeat' (first|refine Cq rfl rfl rfl (D7 rfl rfl) ?_|refine Cq rfl rfl rfl (DT rfl rfl) ?_|refine Cq rfl rfl rfl (Ix rfl rfl rfl Ae Ae rfl) ?_|apply B4|refine B3 0 BY Af ?_|refine B3 1 BY Ap ?_|refine Cs 2 BY Aj Ab ?_|refine B3 4 BY (Ca rfl rfl rfl rfl rfl (hO)) ?_|(refine gk 4 rfl ?_;(refine B9 rfl rfl rfl rfl rfl rfl rfl rfl (P1) ?_;rintro _ _ ⟨HF',HH',K',D6,rfl,rfl,lK'⟩;refine⟨_,_,rfl,rfl,?_⟩))|refine B0 ?_|apply B5|refine B8 ?_|refine Cl ?_|refine Cg ?_|refine Cf ?_|apply Cb|apply Cc|refine Cx ?_|refine Dd ?_)
        exact Cj [K',D8 D6 c p.mi a] (Ce (B7 rfl)) ⟨K',D6,by rw [e2],lK.trans lK',rfl⟩
      | ok σ=>
        rw [hV] at P1
        refine GK 4 (JP ?_)
        repeat' (first|refine Cq rfl rfl rfl (DT rfl rfl) ?_|refine Cq rfl rfl rfl (Ix rfl rfl rfl Ae Ae rfl) ?_|apply B4|refine B3 0 BY Af ?_|refine B3 1 BY Ap ?_|refine Cs 2 BY Aj Ab ?_|refine B3 4 BY (Ca rfl rfl rfl rfl rfl (hO)) ?_|(refine gk 4 rfl ?_;(refine B9 rfl rfl rfl rfl rfl rfl rfl rfl (P1) ?_;rintro _ _ ⟨HF',HH',K',cs',rfl,rfl,hf⟩;refine⟨_,_,rfl,rfl,?_⟩))|refine B0 ?_|apply B5|refine B8 ?_|refine Cl ?_|refine Cg ?_|refine Cf ?_|apply Cc)
        by_cases hwr:0≤Nd.L0 (FH m.code)
        · have hL:=Wx p K' m.code (sC.mono hf.le) e1.symm (by rw [e1];exact hsmm) hwr;have e:DC im=some (10,(i:Int),Nd.L0 (FH m.code)):=J6 Ab hbef (by rw [E5];unfold Hf;rw [if_neg hoff,hV];exact if_pos hwr);rw [e]
          repeat' (first|refine Cq rfl rfl rfl (D7 rfl rfl) ?_|apply B4|refine B3 0 BY Af ?_|(refine gk 4 rfl ?_;(refine B9 rfl rfl rfl rfl rfl rfl rfl rfl (hL) ?_;rintro _ _ ⟨D6,rfl,rfl⟩;refine⟨_,_,rfl,rfl,?_⟩))|refine B0 ?_|apply B5|refine B8 ?_|refine Cl ?_|apply Cb|refine Cx ?_|refine Dd ?_)
          exact Cj [K',D8 D6 10 p.mi (Nd.L0 (FH m.code))] (Ce (B7 rfl)) ⟨K',D6,by rw [e2],lK.trans hf.le,rfl⟩
        · have hL:=Yd p K' m.code (sC.mono hf.le) e1.symm (by rw [e1];exact hsmm) Ab;have e:FM im i=none:=by rw [E5];unfold Hf;rw [if_neg hoff,hV];exact if_neg hwr
          repeat' (first|refine Cq rfl rfl rfl (DT rfl rfl) ?_|apply B4|refine B3 0 BY Af ?_|refine B3 1 BY Ap ?_|refine CE 2 BY Aj Ab ?_|refine B3 4 BY (Ca rfl rfl rfl rfl rfl (hL)) ?_|refine B0 ?_|apply B5|refine B8 ?_|refine Cg ?_|refine CC ?_|apply Cc)
          refine⟨rfl,(i+1,K'),CA (by repeat first|exact Sub.nil _|refine Sub.cons rfl ?_),⟨Eh,lK.trans hf.le,fun j hj=> ?_⟩,by dsimp only;omega⟩;by_cases ej:j=i
          · rw [ej];exact e
          · exact hbef j (by dsimp only at hj;omega)
  · obtain rfl:i=mn:=by omega
    have e:DC im=none:=Mw (by rw [z3];exact hbef);rw [e]
    repeat' (first|apply B4|refine B3 0 BY Au ?_|refine CE 2 BY Aj Ab ?_|refine B0 ?_|apply B5|refine B8 ?_|refine Cg ?_|apply Cb|refine CC ?_)
    exact Cj [K] (Ce (B7 rfl)) ⟨K,rfl,lK,rfl⟩
end
end Go.Proofs.YtcnmnmjmpocepaaGreatDoor
end
section
namespace Go.Proofs.YtcnmnmjmpocepaaGreatDoor
open Go.SL
open Kd
attribute [local irreducible] SL.T C7 Dc C6 Db DS Du
section
variable (K0:B6) (im:Im) (DF mb:Option Addr) (DW EG mn mc:Nat)
end
end Go.Proofs.YtcnmnmjmpocepaaGreatDoor
end
