
import Derived.Test.YtcnmnmjmpocepaaGreatDoorV00
import Derived.Test.YtcnmnmjmpocepaaGreatDoorV09
import Derived.Test.YtcnmnmjmpocepaaGreatDoorV23
import Derived.Test.YtcnmnmjmpocepaaGreatDoorV07
set_option linter.unusedVariables false
set_option linter.unusedSimpArgs false
set_option linter.unusedSectionVars false
set_option maxRecDepth 100000
set_option maxHeartbeats 16000000
section
namespace Go.Proofs.YtcnmnmjmpocepaaGreatDoor.Nd
open Go.SL
attribute [local irreducible] SL.T Dw DG DE DI Et D0
abbrev aj(b:Option Addr)(n c:Nat)(is:Bool):Value:= .tuple ⟨[.slice b n c,.bool is]⟩
theorem Ln(own:List CA)(b:Option Addr)(n c:Nat)(xs:List Int)(v:Int) [Ds own b (xs.map i64)](h1:xs.length=n)(DO:n≤9223372036854775807):
    Dw Tryz.prog 179 [.slice b n c,i64 v] own (aj b n c (decide (v∈xs))):=by
  refine CL Tryz.func179 rfl (Nat.le_of_ble_eq_true rfl) fun F=> ?_
  repeat' (first|apply Cv|refine Ct 0 Cr Ag ?_|refine Ct 4 Cr (Eh rfl rfl rfl rfl rfl (FB _ _ _ _ xs v h1 DO)) ?_|refine Cu ?_|apply Cw|refine Cy ?_|apply Cz)
  exact CS (CU (Cx rfl) (Cx rfl)) rfl
theorem VR(own:List CA)(b:Option Addr)(n c:Nat)(xs:List Int)(v:Int) [Ds own b (xs.map i64)](h1:xs.length=n)(DO:n≤9223372036854775807):
    Dw Tryz.prog 183 [.slice b n c,i64 v] own (aj b n c (decide (v∉xs))):=by
  have hc:=FB own b n c xs v h1 DO;by_cases hv:v∈xs
  · rw [decide_eq_true hv] at hc
    rw [decide_eq_false fun h=>h hv];refine CL Tryz.func183 rfl (Nat.le_of_ble_eq_true rfl) fun F=> ?_
    repeat' (first|apply Cv|refine Ct 0 Cr AS ?_|refine Ct 4 Cr (Eh rfl rfl rfl rfl rfl (hc)) ?_|refine Cu ?_|apply Cw|refine Cy ?_|apply Cz)
    exact CS (CU (Cx rfl) (Cx rfl)) rfl
  · rw [decide_eq_false hv] at hc
    rw [decide_eq_true hv];refine CL Tryz.func183 rfl (Nat.le_of_ble_eq_true rfl) fun F=> ?_
    repeat' (first|apply Cv|refine Ct 0 Cr A3 ?_|refine Ct 4 Cr (Eh rfl rfl rfl rfl rfl (hc)) ?_|refine Cu ?_|apply Cw|refine Cy ?_|apply Cz)
    exact CS (CU (Cx rfl) (Cx rfl)) rfl
theorem VP(b:Option Addr)(n c:Nat)(v:Int):
    Dw Tryz.prog 184 [.slice b n c,i64 v] [] (aj b n c (decide (n=0))):=by
  by_cases hn:n=0
  · rw [decide_eq_true hn];subst hn;refine CL Tryz.func184 rfl (Nat.le_of_ble_eq_true rfl) fun F=> ?_
    repeat' (first|apply Cv|refine Ct 0 Cr Ag ?_|refine CO 2 Cr Al Ab ?_|refine Ct 4 Cr Ae ?_|refine Cu ?_|apply Cw|refine Cy ?_|apply Cz)
    exact CS (CU (Cx rfl) (Cx rfl)) rfl
  · rw [decide_eq_false hn];refine CL Tryz.func184 rfl (Nat.le_of_ble_eq_true rfl) fun F=> ?_
    repeat' (first|apply Cv|refine Ct 0 Cr Ag ?_|refine CY 2 Cr Al Ab ?_|refine Ct 4 Cr Ae ?_|refine Cu ?_|apply Cw|refine Cy ?_|apply Cz)
    exact CS (CU (Cx rfl) (Cx rfl)) rfl
theorem VS(own:List CA)(b:Option Addr)(c:Nat)(v:Int):
    Dw Tryz.prog 182 [.slice b 0 c,i64 v] own (aj none 0 0 false):=by
  refine CL Tryz.func182 rfl (Nat.le_of_ble_eq_true rfl) fun F=> ?_
  repeat' (first|apply Cv|refine Ct 0 Cr Aw ?_|refine CG 0 Cs ?_|refine CG 1 Cs ?_|refine CG 2 Cs ?_|refine CO 2 Cr Al Ab ?_|refine CG 3 Cs ?_|refine CG 4 Cs ?_|refine Ct 4 Cr Ae ?_|refine Cu ?_|apply Cw|refine Cy ?_|refine CH ?_|apply Cz|refine CQ ?_)
  exact CS (CU (Cx rfl) (Cx rfl)) rfl
theorem VT(own:List CA)(b:Option Addr)(n c:Nat)(xs:List Int)(x v:Int) [s:Ds own b ((xs++ [x]).map i64)](h1:xs.length=n)(DO:n≤4000000)(hc:n+1≤c):
    Dw Tryz.prog 182 [.slice b (n+1) c,i64 v] own (if x=v then aj b n c true else aj none 0 0 false):=by
  refine JB fun J hJ=> ?_
  haveI:=s.all hJ;have hcx:((xs++ [x]).map i64)[(((n+1:Nat):Int) - 1).toNat*1]?=some (i64 x):=by
    have e:(((n+1:Nat):Int) - 1).toNat*1=xs.length:=by omega
    rw [e];simp
  have hfl:((xs++ [x]).map i64).length=n+1:=by simp [h1]
  by_cases hx:x=v
  · rw [if_pos hx];refine CL Tryz.func182 rfl (Nat.le_of_ble_eq_true rfl) fun F=> ?_
    repeat' (first|apply Cv|refine Ct 0 Cr Az ?_|refine Ct 1 Cr AF ?_|refine CY 2 Cr Bx Ab ?_|refine Ct 3 Cr Bu ?_|refine Ct 4 Cr Ae ?_|refine Ct 5 Cr BD ?_|refine Cu ?_|apply Cw|refine Cy ?_|refine CF ?_|apply Cz|apply CB)
    have e:(((n+1:Nat):Int) - 1).toNat=n:=by omega
    rw [e];exact CS (CU (Cx rfl) (Cx rfl)) rfl
  · rw [if_neg hx];refine CL Tryz.func182 rfl (Nat.le_of_ble_eq_true rfl) fun F=> ?_
    repeat' (first|apply Cv|refine Ct 0 Cr Az ?_|refine Ct 1 Cr AF ?_|refine CO 2 Cr Bx Ab ?_|refine CY 2 Cr Al Ab ?_|refine Ct 3 Cr Bu ?_|refine Ct 4 Cr Ae ?_|refine Cu ?_|apply Cw|refine Cy ?_|refine CH ?_|apply Cz|refine CQ ?_)
    exact CS (CU (Cx rfl) (Cx rfl)) rfl
end Go.Proofs.YtcnmnmjmpocepaaGreatDoor.Nd
end
section
namespace Go.Proofs.YtcnmnmjmpocepaaGreatDoor.Nd
open Go.SL
attribute [local irreducible] SL.T Dw DG DE DI Et D0
theorem Tz(J:CA)(b:Option Addr)(n c:Nat)(xs:List Int)(v:Int) [Sl J b (xs.map i64)](h1:xs.length=n)(DO:n≤4000000):
    SL.T Tryz.prog 181 [.slice b n c,i64 v] [J] fun e o=>∃N,o=J::N/\∃h b',e= .returned (.slice b' (n+1) (n+1))/\N= [h]/\OS h b' (n+1) (n+1) 3 1 ((xs++ [v]).map i64):=by
  refine CM Tryz.func181 rfl (Nat.le_of_ble_eq_true rfl) fun F=> ?_
  repeat' (first|refine Tm (m:=n+1) rfl rfl rfl rfl rfl rfl rfl Ab Ab (fun b1 hS os=> ?_)|apply Cv|refine Ct 0 Cr Ag ?_|refine Ct 1 Cr Ao ?_|refine Ct 4 Cr Ae ?_|refine Cu ?_|apply Cw)
  refine eZ rfl rfl rfl rfl rfl rfl rfl rfl rfl os ‹Sl J b (xs.map i64)› (by rw [List.length_map];exact h1) Ab Ab (Nr xs) (fun h2 G3=> ?_);haveI Yc:=G3.sl;have hd:(List.replicate (n+1) (Value.int .i64 0)).drop n= [i64 0]:=by rw [List.drop_replicate,show n+1 - n=1 by omega];rfl
  rw [hd] at G3
  have hfl:(xs.map i64++ [i64 0]).length=n+1:=by simp [h1]
  haveI sl3:=G3.sl
  repeat' (first|apply Cv|refine Ct 0 Cr Ap ?_|refine Ct 3 Cr BV ?_|refine Ct 4 Cr Ae ?_|refine Cu ?_|apply Cw)
  refine Gl rfl rfl rfl rfl rfl G3 rfl rfl rfl (Nat.succ_pos _) As (cs':=(xs++ [v]).map i64) ?_ (fun h3 O3=> ?_)
  · have e:((n:Int)).toNat*1=xs.length:=by omega
    rw [e,List.take_left' Am,List.drop_eq_nil_of_le Am];simp
  repeat' (first|apply Cv|refine Ct 0 Cr Ag ?_|refine Cu ?_|apply Cw|refine Cy ?_|apply Cz)
  exact CJ [J,h3] (CD (Cx rfl)) ⟨[h3],rfl,h3,_,rfl,rfl,O3⟩
theorem PZ(own:List CA)(b:Option Addr)(n c:Nat)(xs:List Int)(v:Int) [s:Ds own b (xs.map i64)](h1:xs.length=n)(DO:n≤4000000):
    SL.T Tryz.prog 181 [.slice b n c,i64 v] own fun e o=>∃N,o=own++N/\∃h b',e= .returned (.slice b' (n+1) (n+1))/\N= [h]/\OS h b' (n+1) (n+1) 3 1 ((xs++ [v]).map i64):=
  KH fun J hJ=>by
    haveI:=s.all hJ;exact Tz J b n c xs v h1 DO
theorem VU(J:CA)(b:Option Addr)(n c:Nat)(xs:List Int)(v:Int) [Sl J b (xs.map i64)](h1:xs.length=n)(DO:n≤4000000):
    SL.T Tryz.prog 180 [.slice b n c,i64 v] [J] fun e o=>∃N,o=J::N/\∃h b',e= .returned (aj b' (n+1) (n+1) (decide (n<8/\v∉xs)))/\N= [h]/\OS h b' (n+1) (n+1) 3 1 ((xs++ [v]).map i64):=by
  have hc:∀ {bb:Bool},decide (v∈xs)=bb->∀own [Ds own b (xs.map i64)],Dw Tryz.prog 89 [.slice b n c,i64 v] own (.bool bb):=fun hb own _=>by
    rw [<-hb];exact FB own b n c xs v h1 Ab
  by_cases hv:v∈xs
  · have hb:=decide_eq_true hv;rw [decide_eq_false fun h:n<8/\v∉xs=>h.2 hv];refine CM Tryz.func180 rfl (Nat.le_of_ble_eq_true rfl) fun F=> ?_
    repeat' (first|apply Cv|refine Ct 0 Cr A9 ?_|refine CG 0 Cs ?_|refine G5 2 Cr Aj (fun h=> ?_) (fun h=> ?_)|refine CG 4 Cs ?_|refine Ct 4 Cr Ae ?_|(refine gk 4 rfl ?_;(refine Gg rfl rfl rfl rfl rfl rfl rfl rfl (PZ _ _ _ _ xs _ h1 DO) ?_;rintro _ _ ⟨hP,bP,rfl,rfl,osP⟩;refine⟨_,_,rfl,rfl,?_⟩))|refine Ct 4 Cr (Eh rfl rfl rfl rfl rfl (hc hb _)) ?_|refine Cu ?_|apply Cw|refine Cy ?_|apply Cz)
    all_goals exact CJ [J,hP] (CU (Cx rfl) (Cx rfl)) ⟨[hP],rfl,hP,_,rfl,rfl,osP⟩
  · have hb:=decide_eq_false hv;by_cases hn:n<8
    · rw [decide_eq_true (show n<8/\v∉xs from⟨hn,hv⟩)];refine CM Tryz.func180 rfl (Nat.le_of_ble_eq_true rfl) fun F=> ?_
      repeat' (first|apply Cv|refine Ct 0 Cr Bz ?_|refine CO 2 Cr Aj Ab ?_|refine Ct 4 Cr Ae ?_|(refine gk 4 rfl ?_;(refine Gg rfl rfl rfl rfl rfl rfl rfl rfl (PZ _ _ _ _ xs _ h1 DO) ?_;rintro _ _ ⟨hP,bP,rfl,rfl,osP⟩;refine⟨_,_,rfl,rfl,?_⟩))|refine Ct 4 Cr (Eh rfl rfl rfl rfl rfl (hc hb _)) ?_|refine Cu ?_|apply Cw|refine Cy ?_|apply Cz)
      all_goals exact CJ [J,hP] (CU (Cx rfl) (Cx rfl)) ⟨[hP],rfl,hP,_,rfl,rfl,osP⟩
    · rw [decide_eq_false fun h:n<8/\v∉xs=>hn h.1];refine CM Tryz.func180 rfl (Nat.le_of_ble_eq_true rfl) fun F=> ?_
      repeat' (first|apply Cv|refine Ct 0 Cr Az ?_|refine CG 0 Cs ?_|refine CY 2 Cr Aj Ab ?_|refine CG 4 Cs ?_|refine Ct 4 Cr Ae ?_|(refine gk 4 rfl ?_;(refine Gg rfl rfl rfl rfl rfl rfl rfl rfl (PZ _ _ _ _ xs _ h1 DO) ?_;rintro _ _ ⟨hP,bP,rfl,rfl,osP⟩;refine⟨_,_,rfl,rfl,?_⟩))|refine Cu ?_|apply Cw|refine Cy ?_|apply Cz)
      all_goals exact CJ [J,hP] (CU (Cx rfl) (Cx rfl)) ⟨[hP],rfl,hP,_,rfl,rfl,osP⟩
end Go.Proofs.YtcnmnmjmpocepaaGreatDoor.Nd
end
section
namespace Go.Proofs.YtcnmnmjmpocepaaGreatDoor.Nd
open Go.SL
attribute [local irreducible] SL.T Dw DG DE DI Et D0
abbrev SV(f:FuncId):Value:= .func (.func f) #[] #[]
def dE(q:Int):Option Value:=
  if q=20 then some (SV 184) else if q=3 then some (SV 183) else if q=16 then some (SV 179) else if q=15 then some (SV 179) else if q=14 then some (SV 179) else if q=13 then some (SV 182) else if q=12 then some (SV 180) else none
theorem FO:SL.T Tryz.prog 142 [] [] fun e o=>∃h b,e= .returned (.map (some b))/\o= [h]/\MP h b .i64 dE:=by
  refine CM Tryz.func142 rfl (Nat.le_of_ble_eq_true rfl) fun F=> ?_
  have mp0:∀b,MP (CV b (.map #[] 0)) b .i64 (fun _=>none):=fun b=>MP.nil
  repeat' (first|refine Mm rfl rfl rfl rfl (fun bm=> ?_)|apply Cv|refine Ct 0 Cr Au ?_|refine Cu ?_|apply Cw)
  have mp1:=mp0 bm;clear mp0
  repeat' (first|refine Zf rfl rfl rfl rfl rfl rfl Ad (fun h2 kJ=> ?_)|refine Ct 0 Cr Ag ?_|apply Cw|refine Cy ?_|apply Cz)
  rename_i h2 kJ
  refine CJ [h2] (CD (Cx rfl)) ⟨h2,bm,rfl,rfl,kJ⟩
end Go.Proofs.YtcnmnmjmpocepaaGreatDoor.Nd
end
section
namespace Go.Proofs.YtcnmnmjmpocepaaGreatDoor.Nd
open Go.SL
attribute [local irreducible] SL.T Dw DG DE DI Et D0
def RM(op k:Int)(s:List Int):Option (List Int):=
  if op=12 then if s.length<8/\k∉s then some (s++ [k]) else none
  else if op=13 then if s.getLast?=some k then some s.dropLast else none
  else if op=14∨op=15∨op=16 then if k∈s then some s else none
  else if op=3 then if k∉s then some s else none
  else if op=20 then if s= [] then some s else none
  else some s
def Iy(cs:List Ins)(z:Nat)(s:List Int):Option (List Int):=
  let x:=cs.getD z (0,0,0)
  if Li x.1/\KF cs z=none then none
  else RM x.1 (if x.1=3 then x.2.1 else(KF cs z).getD 0) s
structure GS where
  V:List Int
  Dl:Int->List Int
  i:Nat
  k:Nat
  res:Option Int
def GS.start:GS:=⟨[0],fun _=> [],0,0,none⟩
def GS.step(cs:List Ins)(g:GS):GS:=
  if g.res.isSome then g else
  match g.V[g.i]? with
  |none=>{g with res:=some (-1)}
  | some z=>match Iy cs z.toNat (g.Dl z) with
    |none=>{g with res:=some z}
    | some s=>match(Gp cs z)[g.k]? with
      |none=>{g with i:=g.i+1,k:=0}
      | some t=>
        if 0≤t/\t<cs.length then
          if t∈g.V then if g.Dl t=s then{g with k:=g.k+1} else{g with res:=some t}
          else{g with V:=g.V++ [t],Dl:=fun q=>if q=t then s else g.Dl q,k:=g.k+1}
        else{g with k:=g.k+1}
def GS.run(cs:List Ins):Nat->GS
  |0=> .start
  |n+1=>(GS.run cs n).step cs
theorem GS.stays{cs:List Ins}{n:Nat}(h:(GS.run cs n).res.isSome):∀m,n≤m->GS.run cs m=GS.run cs n:=by
  intro m hm;induction m with
  | zero=>
    obtain rfl:n=0:=by omega
    rfl
  | succ m ih=>
    rcases Nat.lt_or_ge m n with E6|hge
    · obtain rfl:n=m+1:=by omega
      rfl
    · have e:=ih hge;rw [GS.run,e,GS.step,if_pos h]
theorem GS.one{cs:List Ins}{n m:Nat}(h1:(GS.run cs n).res.isSome)(h2:(GS.run cs m).res.isSome):GS.run cs n=GS.run cs m:=by
  rcases Nat.le_total n m with h|h
  · exact(GS.stays h1 m h).symm
  · exact GS.stays h2 n h
end Go.Proofs.YtcnmnmjmpocepaaGreatDoor.Nd
end
section
namespace Go.Proofs.YtcnmnmjmpocepaaGreatDoor.Nd
open Go.SL
attribute [local irreducible] SL.T Dw DG DE DI Et D0
abbrev F4(Ed:Nat)(p:Value)(lo st:Int)(cb:Option Addr)(cl cc bm:Nat)(ob:Option Addr)(on oc:Nat)(wr:Int):CA:=
  CV Ed (.cells ⟨[p,i64 lo,i64 st,.slice cb cl cc,.map (some bm),.slice ob on oc,i64 wr]⟩ 133 (0,0))
theorem UG{h:CA}{b:Option Addr}{xs:List Int}{x:Int}(s:Sl h b ((xs++ [x]).map i64)):Sl h b (xs.map i64):=
  ⟨fun k v hk=>s.cell k v (by
    rw [List.map_append,List.getElem?_append_left (List.getElem?_eq_some_iff.1 hk).1];exact hk)⟩
theorem YN{cs:List Ins}{z:Nat}{op a b:Int}(h:cs[z]?=some (op,a,b))(s:List Int):
    Iy cs z s=if Li op/\KF cs z=none then none else RM op (if op=3 then a else(KF cs z).getD 0) s:=by
  unfold Iy;rw [List.getD_eq_getElem?_getD,h];rfl
theorem ag(J:CA)(p:Value)(lo st:Int)(cb:Option Addr)(cl cc:Nat)(cs:List Ins)(z:Int) [Sl J cb (CZ cs)](hl:cs.length=cl)(DO:cl≤1000000)(h:KF cs z=none):
    Dw Tryz.prog 140 [MR p lo st cb cl cc,i64 z] [J] (.tuple ⟨[i64 0,.bool false]⟩):=
  (MM J p lo st cb cl cc cs z hl DO).to (by rw [h];rfl)
theorem af(J:CA)(p:Value)(lo st:Int)(cb:Option Addr)(cl cc:Nat)(cs:List Ins)(z:Int) [Sl J cb (CZ cs)](hl:cs.length=cl)(DO:cl≤1000000){k:Int}(h:KF cs z=some k):
    Dw Tryz.prog 140 [MR p lo st cb cl cc,i64 z] [J] (.tuple ⟨[i64 k,.bool true]⟩):=
  (MM J p lo st cb cl cc cs z hl DO).to (by rw [h];rfl)
theorem VO{op:Int}(h1:¬Li op)(h3:op≠3)(SN:op≠20):dE op=none:=by
  have:=mt Jf.2 h1;unfold dE;rw [if_neg SN,if_neg h3,if_neg Ab,if_neg Ab,if_neg Ab,if_neg Ab,if_neg Ab]
theorem SY{op k:Int}{s:List Int}(h1:¬Li op)(h3:op≠3)(SN:op≠20):RM op k s=some s:=by
  have:=mt Jf.2 h1;unfold RM;rw [if_neg Ab,if_neg Ab,if_neg Ab,if_neg h3,if_neg SN]
theorem Hr{p:Prop} [Decidable p]{xs:List Int}:(if p then some xs else none).isSome=decide p:=by
  by_cases h:p <;>simp [h]
abbrev BQ(K:CA)(N:List CA)(r:Option (List Int))(b:Option Addr)(n c:Nat):Prop:=
  ∀s,r=some s->s.length=n/\n≤c/\Ds (K::N) b (s.map i64)
theorem Ri (J K hM:CA)(Ed:Nat)(p:Value)(lo st:Int)(cb:Option Addr)(cl cc bm:Nat)(ob:Option Addr)(on oc:Nat)(wr:Int)(cs:List Ins)(z:Nat)(f:Int->Option Value)(b:Option Addr)(n c:Nat)(xs:List Int)
    [Sl J cb (CZ cs)] [ie:Sl K b (xs.map i64)] (hl:cs.length=cl) (DO:cl≤1000000) (hz:z<cl) (mp:MP hM bm .i64 f) (hf:f (z:Int)=some (.slice b n c)) (hn:xs.length=n) (NP:n≤c) (gh:n≤1000000):
    SL.T Tryz.prog 94 [.pointer (some ⟨Ed,0,none⟩),i64 (z:Int)] [J,F4 Ed p lo st cb cl cc bm ob on oc wr,hM,K] fun e o=>∃N,o= [J,F4 Ed p lo st cb cl cc bm ob on oc wr,hM,K]++N/\
      ∃b' n' c',e= .returned (aj b' n' c' (Iy cs z xs).isSome)/\BQ K N (Iy cs z xs) b' n' c':=by
  obtain⟨⟨op,a,b0⟩,hx⟩:∃x,cs[z]?=some x:=⟨_,List.getElem?_eq_getElem Ab⟩;rw [YN hx];obtain⟨c0,c1,c2⟩:=D9 hx;have c0:(CZ cs)[((z:Nat):Int).toNat*3]?=some (i64 op):=c0;have c1:(CZ cs)[((z:Nat):Int).toNat*3+1]?=some (i64 a):=c1;have c2:(CZ cs)[((z:Nat):Int).toNat*3+2]?=some (i64 b0):=c2;have hfl:=Dc cs;have hq:((z:Nat):Int).toNat*3<(CZ cs).length:=by rw [hfl];omega
  by_cases h5:Li op
  · rcases hk:KF cs z with _|k
    · have hA:=ag J p lo st cb cl cc cs z hl DO hk;refine CM Tryz.func94 rfl (Nat.le_of_ble_eq_true rfl) fun F=> ?_
      repeat' (first|apply Cv|refine Ct 0 Cr Cm ?_|refine Ct 3 Cr AI ?_|refine Ct 4 Cr (CE rfl rfl rfl rfl rfl (hA)) ?_|refine CO 4 Cr (CE rfl rfl rfl rfl rfl (D2 _)) Ab ?_|refine Ct 5 Cr Ak ?_|refine CT (fun β=> ?_)|refine CN ?_|refine Cu ?_|apply Cw|refine Cy ?_|refine CH ?_|apply Cz|refine CQ ?_)
      rw [if_pos ⟨h5,rfl⟩];exact CJ [J,F4 Ed p lo st cb cl cc bm ob on oc wr,hM,K] (CU (Cx rfl) (Cx rfl)) ⟨[],rfl,_,_,_,rfl,fun s hs=>by cases hs⟩
    · have hA:=af J p lo st cb cl cc cs z hl DO hk;rw [if_neg Am];rcases Jf.1 h5 with rfl|rfl|rfl|rfl|rfl
      · refine CM Tryz.func94 rfl (Nat.le_of_ble_eq_true rfl) fun F=> ?_
        repeat' (first|apply Cv|refine Ct 0 Cr A1 ?_|refine CY 2 Cr Al Ab ?_|refine Ct 3 Cr AI ?_|refine Ct 4 Cr (CE rfl rfl rfl rfl rfl (hA)) ?_|refine CO 4 Cr (CE rfl rfl rfl rfl rfl (D2 _)) Ab ?_|refine Ct 5 Cr Ak ?_|refine CT (fun β=> ?_)|refine CN ?_|refine Cu ?_|apply Cw|refine Cy ?_|refine CF ?_|apply CB)
        refine C0 [.q [1,2],.h false 0,.q [3,4,5,6,7,8]] [] Ac Ac Ac Ac ?_
        repeat' (first|refine CW rfl rfl rfl (D4 mpD rfl rfl rfl (v:=SV 180) rfl) ?_|refine CW rfl rfl rfl (D4 mp rfl rfl rfl hf) ?_|apply Cv|refine Ct 0 Cr AV ?_|refine Ct 3 Cr Af ?_|(refine gk 4 rfl ?_;(refine CK rfl rfl rfl rfl rfl rfl rfl rfl (VU K _ n _ xs _ hn Ab) ?_;rintro _ _ ⟨_,rfl,hP,bP,rfl,rfl,osP⟩;refine⟨_,_,rfl,rfl,?_⟩))|refine Ct 5 Cr Ak ?_|refine Cu ?_|refine C5 ?_|refine Dd rfl ?_|(refine Ev rfl rfl rfl rfl rfl rfl rfl rfl (FO) (by rintro _ _ ⟨hD,bD,rfl,rfl,mpD⟩;exact⟨_,rfl⟩) ?_;rintro _ _ ⟨hD,bD,rfl,rfl,mpD⟩;refine⟨_,_,rfl,rfl,?_⟩)|apply Cw|refine Cy ?_|refine CF ?_|apply Cz|apply CB)
        have e:RM 12 (if(12:Int)=3 then a else(some k).getD 0) xs=if xs.length<8/\k∉xs then some (xs++ [k]) else none:=rfl
        rw [e];refine CJ [J,F4 Ed p lo st cb cl cc bm ob on oc wr,hM,K,hP] (CU (Cx rfl) (Cx rfl)) ⟨[hP],rfl,bP,n+1,n+1,?_,fun s hs=> ?_⟩
        · rw [hn];by_cases h:n<8/\k∉xs
          · rw [if_pos h,decide_eq_true h];rfl
          · rw [if_neg h,decide_eq_false h];rfl
        · split at hs
          · cases hs
            haveI:=osP.sl;exact⟨by simp [hn],Nat.le_refl _,inferInstance⟩
          · cases hs
      · have e:RM 13 (if(13:Int)=3 then a else(some k).getD 0) xs=if xs.getLast?=some k then some xs.dropLast else none:=rfl
        rw [e];rcases List.eq_nil_or_concat xs with h0|⟨ys,y,h0⟩
        · subst h0;obtain rfl:n=0:=by simpa using hn.symm
          refine CM Tryz.func94 rfl (Nat.le_of_ble_eq_true rfl) fun F=> ?_
          repeat' (first|apply Cv|refine Ct 0 Cr A1 ?_|refine CY 2 Cr Al Ab ?_|refine Ct 3 Cr AI ?_|refine Ct 4 Cr (CE rfl rfl rfl rfl rfl (hA)) ?_|refine CO 4 Cr (CE rfl rfl rfl rfl rfl (D2 _)) Ab ?_|refine Ct 5 Cr Ak ?_|refine CT (fun β=> ?_)|refine CN ?_|refine Cu ?_|apply Cw|refine Cy ?_|refine CF ?_|apply CB)
          refine C0 [.q [1,2],.h false 0,.q [3,4,5,6,7,8]] [] Ac Ac Ac Ac ?_
          repeat' (first|refine CW rfl rfl rfl (D4 mpD rfl rfl rfl (v:=SV 182) rfl) ?_|refine CW rfl rfl rfl (D4 mp rfl rfl rfl hf) ?_|apply Cv|refine Ct 0 Cr AV ?_|refine Ct 3 Cr Af ?_|refine Ct 4 Cr (CE rfl rfl rfl rfl rfl (VS [] _ _ _)) ?_|refine Ct 5 Cr Ak ?_|refine Cu ?_|refine C5 ?_|refine Dd rfl ?_|(refine Ev rfl rfl rfl rfl rfl rfl rfl rfl (FO) (by rintro _ _ ⟨hD,bD,rfl,rfl,mpD⟩;exact⟨_,rfl⟩) ?_;rintro _ _ ⟨hD,bD,rfl,rfl,mpD⟩;refine⟨_,_,rfl,rfl,?_⟩)|apply Cw|refine Cy ?_|refine CF ?_|apply Cz|apply CB)
          exact CJ [J,F4 Ed p lo st cb cl cc bm ob on oc wr,hM,K] (CU (Cx rfl) (Cx rfl)) ⟨[],rfl,_,_,_,rfl,fun s hs=>by cases hs⟩
        · rw [List.concat_eq_append] at h0
          subst h0;obtain⟨m,rfl⟩:∃m,n=m+1:=⟨ys.length,by simpa using hn.symm⟩;have hym:ys.length=m:=by simpa using hn
          have hD3:=VT [K] b m c ys y k hym Ab NP;rw [List.getLast?_concat,List.dropLast_concat];by_cases hy:y=k
          · subst hy;rw [if_pos rfl] at hD3 ⊢
            refine CM Tryz.func94 rfl (Nat.le_of_ble_eq_true rfl) fun F=> ?_
            repeat' (first|apply Cv|refine Ct 0 Cr A1 ?_|refine CY 2 Cr Al Ab ?_|refine Ct 3 Cr AI ?_|refine Ct 4 Cr (CE rfl rfl rfl rfl rfl (hA)) ?_|refine CO 4 Cr (CE rfl rfl rfl rfl rfl (D2 _)) Ab ?_|refine Ct 5 Cr Ak ?_|refine CT (fun β=> ?_)|refine CN ?_|refine Cu ?_|apply Cw|refine Cy ?_|refine CF ?_|apply CB)
            refine C0 [.q [1,2],.h false 0,.q [3,4,5,6,7,8]] [] Ac Ac Ac Ac ?_
            repeat' (first|refine CW rfl rfl rfl (D4 mpD rfl rfl rfl (v:=SV 182) rfl) ?_|refine CW rfl rfl rfl (D4 mp rfl rfl rfl hf) ?_|apply Cv|refine Ct 0 Cr AV ?_|refine Ct 3 Cr Af ?_|refine Ct 4 Cr (CE rfl rfl rfl rfl rfl (hD3)) ?_|refine Ct 5 Cr Ak ?_|refine Cu ?_|refine C5 ?_|refine Dd rfl ?_|(refine Ev rfl rfl rfl rfl rfl rfl rfl rfl (FO) (by rintro _ _ ⟨hD,bD,rfl,rfl,mpD⟩;exact⟨_,rfl⟩) ?_;rintro _ _ ⟨hD,bD,rfl,rfl,mpD⟩;refine⟨_,_,rfl,rfl,?_⟩)|apply Cw|refine Cy ?_|refine CF ?_|apply Cz|apply CB)
            exact CJ [J,F4 Ed p lo st cb cl cc bm ob on oc wr,hM,K] (CU (Cx rfl) (Cx rfl)) ⟨[],rfl,_,_,_,rfl,fun s hs=>by cases hs;exact⟨hym,by omega,⟨K,List.mem_cons_self ..,UG ie⟩⟩⟩
          · rw [if_neg hy] at hD3
            rw [if_neg (by simpa using hy)];refine CM Tryz.func94 rfl (Nat.le_of_ble_eq_true rfl) fun F=> ?_
            repeat' (first|apply Cv|refine Ct 0 Cr A1 ?_|refine CY 2 Cr Al Ab ?_|refine Ct 3 Cr AI ?_|refine Ct 4 Cr (CE rfl rfl rfl rfl rfl (hA)) ?_|refine CO 4 Cr (CE rfl rfl rfl rfl rfl (D2 _)) Ab ?_|refine Ct 5 Cr Ak ?_|refine CT (fun β=> ?_)|refine CN ?_|refine Cu ?_|apply Cw|refine Cy ?_|refine CF ?_|apply CB)
            refine C0 [.q [1,2],.h false 0,.q [3,4,5,6,7,8]] [] Ac Ac Ac Ac ?_
            repeat' (first|refine CW rfl rfl rfl (D4 mpD rfl rfl rfl (v:=SV 182) rfl) ?_|refine CW rfl rfl rfl (D4 mp rfl rfl rfl hf) ?_|apply Cv|refine Ct 0 Cr AV ?_|refine Ct 3 Cr Af ?_|refine Ct 4 Cr (CE rfl rfl rfl rfl rfl (hD3)) ?_|refine Ct 5 Cr Ak ?_|refine Cu ?_|refine C5 ?_|refine Dd rfl ?_|(refine Ev rfl rfl rfl rfl rfl rfl rfl rfl (FO) (by rintro _ _ ⟨hD,bD,rfl,rfl,mpD⟩;exact⟨_,rfl⟩) ?_;rintro _ _ ⟨hD,bD,rfl,rfl,mpD⟩;refine⟨_,_,rfl,rfl,?_⟩)|apply Cw|refine Cy ?_|refine CF ?_|apply Cz|apply CB)
            exact CJ [J,F4 Ed p lo st cb cl cc bm ob on oc wr,hM,K] (CU (Cx rfl) (Cx rfl)) ⟨[],rfl,_,_,_,rfl,fun s hs=>by cases hs⟩
      · have e:RM 14 (if(14:Int)=3 then a else(some k).getD 0) xs=if k∈xs then some xs else none:=rfl
        rw [e];have hD1:=Ln [K] b n c xs k hn Ab;refine CM Tryz.func94 rfl (Nat.le_of_ble_eq_true rfl) fun F=> ?_
        repeat' (first|apply Cv|refine Ct 0 Cr A1 ?_|refine CY 2 Cr Al Ab ?_|refine Ct 3 Cr AI ?_|refine Ct 4 Cr (CE rfl rfl rfl rfl rfl (hA)) ?_|refine CO 4 Cr (CE rfl rfl rfl rfl rfl (D2 _)) Ab ?_|refine Ct 5 Cr Ak ?_|refine CT (fun β=> ?_)|refine CN ?_|refine Cu ?_|apply Cw|refine Cy ?_|refine CF ?_|apply CB)
        refine C0 [.q [1,2],.h false 0,.q [3,4,5,6,7,8]] [] Ac Ac Ac Ac ?_
        repeat' (first|refine CW rfl rfl rfl (D4 mpD rfl rfl rfl (v:=SV 179) rfl) ?_|refine CW rfl rfl rfl (D4 mp rfl rfl rfl hf) ?_|apply Cv|refine Ct 0 Cr AV ?_|refine Ct 3 Cr Af ?_|refine Ct 4 Cr (CE rfl rfl rfl rfl rfl (hD1)) ?_|refine Ct 5 Cr Ak ?_|refine Cu ?_|refine C5 ?_|refine Dd rfl ?_|(refine Ev rfl rfl rfl rfl rfl rfl rfl rfl (FO) (by rintro _ _ ⟨hD,bD,rfl,rfl,mpD⟩;exact⟨_,rfl⟩) ?_;rintro _ _ ⟨hD,bD,rfl,rfl,mpD⟩;refine⟨_,_,rfl,rfl,?_⟩)|apply Cw|refine Cy ?_|refine CF ?_|apply Cz|apply CB)
        exact CJ [J,F4 Ed p lo st cb cl cc bm ob on oc wr,hM,K] (CU (Cx rfl) (Cx rfl)) ⟨[],rfl,_,_,_,by rw [Hr],fun s hs=>by
          split at hs
          · cases hs;exact⟨hn,NP,inferInstance⟩
          · cases hs⟩
      · have e:RM 15 (if(15:Int)=3 then a else(some k).getD 0) xs=if k∈xs then some xs else none:=rfl
        rw [e];have hD1:=Ln [K] b n c xs k hn Ab;refine CM Tryz.func94 rfl (Nat.le_of_ble_eq_true rfl) fun F=> ?_
        repeat' (first|apply Cv|refine Ct 0 Cr A1 ?_|refine CY 2 Cr Al Ab ?_|refine Ct 3 Cr AI ?_|refine Ct 4 Cr (CE rfl rfl rfl rfl rfl (hA)) ?_|refine CO 4 Cr (CE rfl rfl rfl rfl rfl (D2 _)) Ab ?_|refine Ct 5 Cr Ak ?_|refine CT (fun β=> ?_)|refine CN ?_|refine Cu ?_|apply Cw|refine Cy ?_|refine CF ?_|apply CB)
        refine C0 [.q [1,2],.h false 0,.q [3,4,5,6,7,8]] [] Ac Ac Ac Ac ?_
        repeat' (first|refine CW rfl rfl rfl (D4 mpD rfl rfl rfl (v:=SV 179) rfl) ?_|refine CW rfl rfl rfl (D4 mp rfl rfl rfl hf) ?_|apply Cv|refine Ct 0 Cr AV ?_|refine Ct 3 Cr Af ?_|refine Ct 4 Cr (CE rfl rfl rfl rfl rfl (hD1)) ?_|refine Ct 5 Cr Ak ?_|refine Cu ?_|refine C5 ?_|refine Dd rfl ?_|(refine Ev rfl rfl rfl rfl rfl rfl rfl rfl (FO) (by rintro _ _ ⟨hD,bD,rfl,rfl,mpD⟩;exact⟨_,rfl⟩) ?_;rintro _ _ ⟨hD,bD,rfl,rfl,mpD⟩;refine⟨_,_,rfl,rfl,?_⟩)|apply Cw|refine Cy ?_|refine CF ?_|apply Cz|apply CB)
        exact CJ [J,F4 Ed p lo st cb cl cc bm ob on oc wr,hM,K] (CU (Cx rfl) (Cx rfl)) ⟨[],rfl,_,_,_,by rw [Hr],fun s hs=>by
          split at hs
          · cases hs;exact⟨hn,NP,inferInstance⟩
          · cases hs⟩
      · have e:RM 16 (if(16:Int)=3 then a else(some k).getD 0) xs=if k∈xs then some xs else none:=rfl
        rw [e];have hD1:=Ln [K] b n c xs k hn Ab;refine CM Tryz.func94 rfl (Nat.le_of_ble_eq_true rfl) fun F=> ?_
        repeat' (first|apply Cv|refine Ct 0 Cr A1 ?_|refine CY 2 Cr Al Ab ?_|refine Ct 3 Cr AI ?_|refine Ct 4 Cr (CE rfl rfl rfl rfl rfl (hA)) ?_|refine CO 4 Cr (CE rfl rfl rfl rfl rfl (D2 _)) Ab ?_|refine Ct 5 Cr Ak ?_|refine CT (fun β=> ?_)|refine CN ?_|refine Cu ?_|apply Cw|refine Cy ?_|refine CF ?_|apply CB)
        refine C0 [.q [1,2],.h false 0,.q [3,4,5,6,7,8]] [] Ac Ac Ac Ac ?_
        repeat' (first|refine CW rfl rfl rfl (D4 mpD rfl rfl rfl (v:=SV 179) rfl) ?_|refine CW rfl rfl rfl (D4 mp rfl rfl rfl hf) ?_|apply Cv|refine Ct 0 Cr AV ?_|refine Ct 3 Cr Af ?_|refine Ct 4 Cr (CE rfl rfl rfl rfl rfl (hD1)) ?_|refine Ct 5 Cr Ak ?_|refine Cu ?_|refine C5 ?_|refine Dd rfl ?_|(refine Ev rfl rfl rfl rfl rfl rfl rfl rfl (FO) (by rintro _ _ ⟨hD,bD,rfl,rfl,mpD⟩;exact⟨_,rfl⟩) ?_;rintro _ _ ⟨hD,bD,rfl,rfl,mpD⟩;refine⟨_,_,rfl,rfl,?_⟩)|apply Cw|refine Cy ?_|refine CF ?_|apply Cz|apply CB)
        exact CJ [J,F4 Ed p lo st cb cl cc bm ob on oc wr,hM,K] (CU (Cx rfl) (Cx rfl)) ⟨[],rfl,_,_,_,by rw [Hr],fun s hs=>by
          split at hs
          · cases hs;exact⟨hn,NP,inferInstance⟩
          · cases hs⟩
  · rw [if_neg fun h=>h5 h.1];obtain⟨k,is,hA⟩:∃k is,Dw Tryz.prog 140 [MR p lo st cb cl cc,i64 z] [J] (.tuple ⟨[i64 k,.bool is]⟩):=⟨_,_,MM J p lo st cb cl cc cs z hl DO⟩;by_cases h3:op=3
    · subst h3;rw [if_pos rfl];have e:RM 3 a xs=if a∉xs then some xs else none:=rfl
      rw [e];have hD4:=VR [K] b n c xs a hn Ab;refine CM Tryz.func94 rfl (Nat.le_of_ble_eq_true rfl) fun F=> ?_
      repeat' (first|apply Cv|refine Ct 0 Cr A0 ?_|refine CG 0 Cs ?_|refine CO 2 Cr Al Ab ?_|refine Ct 3 Cr AI ?_|refine Ct 4 Cr (CE rfl rfl rfl rfl rfl (hA)) ?_|refine CY 4 Cr (CE rfl rfl rfl rfl rfl (D2 _)) Ab ?_|refine Ct 5 Cr Ak ?_|refine CT (fun β=> ?_)|refine CN ?_|refine Cu ?_|apply Cw|refine Cy ?_|refine CH ?_|refine CF ?_|apply CB)
      refine C0 [.q [1,2],.h false 0,.q [3,4,5,6,7,8]] [] Ac Ac Ac Ac ?_
      repeat' (first|refine CW rfl rfl rfl (D4 mpD rfl rfl rfl (v:=SV 183) rfl) ?_|refine CW rfl rfl rfl (D4 mp rfl rfl rfl hf) ?_|apply Cv|refine Ct 0 Cr AV ?_|refine Ct 3 Cr Af ?_|refine Ct 4 Cr (CE rfl rfl rfl rfl rfl (hD4)) ?_|refine Ct 5 Cr Ak ?_|refine Cu ?_|refine C5 ?_|refine Dd rfl ?_|(refine Ev rfl rfl rfl rfl rfl rfl rfl rfl (FO) (by rintro _ _ ⟨hD,bD,rfl,rfl,mpD⟩;exact⟨_,rfl⟩) ?_;rintro _ _ ⟨hD,bD,rfl,rfl,mpD⟩;refine⟨_,_,rfl,rfl,?_⟩)|apply Cw|refine Cy ?_|refine CF ?_|apply Cz|apply CB)
      exact CJ [J,F4 Ed p lo st cb cl cc bm ob on oc wr,hM,K] (CU (Cx rfl) (Cx rfl)) ⟨[],rfl,_,_,_,by rw [Hr],fun s hs=>by
        split at hs
        · cases hs;exact⟨hn,NP,inferInstance⟩
        · cases hs⟩
    · rw [if_neg h3];by_cases SN:op=20
      · subst SN;have e:RM 20 ((KF cs z).getD 0) xs=if xs= [] then some xs else none:=rfl
        rw [e];have O4:xs= []↔n=0:=by rw [<-hn];exact List.length_eq_zero_iff.symm
        have hD5:=VP b n c k;refine CM Tryz.func94 rfl (Nat.le_of_ble_eq_true rfl) fun F=> ?_
        repeat' (first|apply Cv|refine Ct 0 Cr A0 ?_|refine CG 0 Cs ?_|refine CY 2 Cr Al Ab ?_|refine Ct 3 Cr AI ?_|refine Ct 4 Cr (CE rfl rfl rfl rfl rfl (hA)) ?_|refine CY 4 Cr (CE rfl rfl rfl rfl rfl (D2 _)) Ab ?_|refine Ct 5 Cr Ak ?_|refine CT (fun β=> ?_)|refine CN ?_|refine Cu ?_|apply Cw|refine Cy ?_|refine CF ?_|apply CB)
        refine C0 [.q [1,2],.h false 0,.q [3,4,5,6,7,8]] [] Ac Ac Ac Ac ?_
        repeat' (first|refine CW rfl rfl rfl (D4 mpD rfl rfl rfl (v:=SV 184) rfl) ?_|refine CW rfl rfl rfl (D4 mp rfl rfl rfl hf) ?_|apply Cv|refine Ct 0 Cr AV ?_|refine Ct 3 Cr Af ?_|refine Ct 4 Cr (CE rfl rfl rfl rfl rfl (hD5)) ?_|refine Ct 5 Cr Ak ?_|refine Cu ?_|refine C5 ?_|refine Dd rfl ?_|(refine Ev rfl rfl rfl rfl rfl rfl rfl rfl (FO) (by rintro _ _ ⟨hD,bD,rfl,rfl,mpD⟩;exact⟨_,rfl⟩) ?_;rintro _ _ ⟨hD,bD,rfl,rfl,mpD⟩;refine⟨_,_,rfl,rfl,?_⟩)|apply Cw|refine Cy ?_|refine CF ?_|apply Cz|apply CB)
        exact CJ [J,F4 Ed p lo st cb cl cc bm ob on oc wr,hM,K] (CU (Cx rfl) (Cx rfl)) ⟨[],rfl,_,_,_,by rw [Hr,decide_eq_decide.2 O4],fun s hs=>by
          split at hs
          · cases hs;exact⟨hn,NP,inferInstance⟩
          · cases hs⟩
      · rw [SY h5 h3 SN];have hd:=VO h5 h3 SN;refine CM Tryz.func94 rfl (Nat.le_of_ble_eq_true rfl) fun F=> ?_
        repeat' (first|apply Cv|refine Ct 0 Cr A0 ?_|refine CG 0 Cs ?_|refine CY 2 Cr Al Ab ?_|refine Ct 3 Cr AI ?_|refine Ct 4 Cr (CE rfl rfl rfl rfl rfl (hA)) ?_|refine CY 4 Cr (CE rfl rfl rfl rfl rfl (D2 _)) Ab ?_|refine Ct 5 Cr Ak ?_|refine CT (fun β=> ?_)|refine CN ?_|refine Cu ?_|apply Cw|refine Cy ?_|refine CF ?_|apply CB)
        refine C0 [.q [1,2],.h false 0,.q [3,4,5,6,7,8]] [] Ac Ac Ac Ac ?_
        repeat' (first|refine CW rfl rfl rfl (N6 mpD rfl rfl rfl hd) ?_|refine CW rfl rfl rfl (D4 mp rfl rfl rfl hf) ?_|apply Cv|refine Ct 0 Cr Bg ?_|refine Ct 3 Cr Af ?_|refine Ct 5 Cr Ak ?_|refine Cu ?_|refine C5 ?_|refine Dd rfl ?_|(refine Ev rfl rfl rfl rfl rfl rfl rfl rfl (FO) (by rintro _ _ ⟨hD,bD,rfl,rfl,mpD⟩;exact⟨_,rfl⟩) ?_;rintro _ _ ⟨hD,bD,rfl,rfl,mpD⟩;refine⟨_,_,rfl,rfl,?_⟩)|apply Cw|refine Cy ?_|refine CH ?_|apply Cz|refine CQ ?_)
        exact CJ [J,F4 Ed p lo st cb cl cc bm ob on oc wr,hM,K] (CU (Cx rfl) (Cx rfl)) ⟨[],rfl,_,_,_,rfl,fun s hs=>by cases hs;exact⟨hn,NP,inferInstance⟩⟩
end Go.Proofs.YtcnmnmjmpocepaaGreatDoor.Nd
end
section
namespace Go.Proofs.YtcnmnmjmpocepaaGreatDoor.Nd
open Go.SL
attribute [local irreducible] SL.T Dw DG DE DI Et D0
theorem VW(Ed:Nat)(p:Value)(lo st:Int)(cb:Option Addr)(cl cc bm:Nat)(ob:Option Addr)(on oc:Nat)(wr t:Int)(v:Value)(ht:t<0∨(cl:Int)≤t):
    Dw Tryz.prog 92 [.pointer (some ⟨Ed,0,none⟩),i64 t,v] [F4 Ed p lo st cb cl cc bm ob on oc wr] (.bool true):=by
  refine CL Tryz.func92 rfl (Nat.le_of_ble_eq_true rfl) fun F=> ?_
  repeat' (first|apply Cv|refine Ct 0 Cr Ay ?_|refine CG 0 Cs ?_|refine CG 2 Cs ?_|refine CO 2 Cr Ar Ab ?_|refine G5 2 Cr Aj (fun h=> ?_) (fun h=> ?_)|refine Ct 3 Cr Af ?_|refine CG 3 Cs ?_|refine CG 4 Cs ?_|refine Ct 4 Cr Ae ?_|refine Ct 5 Cr Ak ?_|refine CG 5 Cs ?_|refine Cu ?_|apply Cw|refine Cy ?_|refine CH ?_|apply Cz|refine CQ ?_)
  all_goals first|(exfalso;omega)|exact CJ [F4 Ed p lo st cb cl cc bm ob on oc wr] (CD (Cx rfl)) ⟨rfl,rfl⟩
theorem dK(K hM:CA)(Ed:Nat)(p:Value)(lo st:Int)(cb:Option Addr)(cl cc bm:Nat)(ob:Option Addr)(on oc:Nat)(wr t:Int)(f:Int->Option Value)(b b1:Option Addr)(n c n1 c1:Nat)(xs ys:List Int)
    [Sl K b (xs.map i64)] [Sl K b1 (ys.map i64)] (ht:0≤t/\t<(cl:Int)) (mp:MP hM bm .i64 f) (hf:f t=some (.slice b1 n1 c1)) (hn:xs.length=n) (Yx:ys.length=n1) (h1:n≤4000000) (h2:n1≤4000000):
    Dw Tryz.prog 92 [.pointer (some ⟨Ed,0,none⟩),i64 t,.slice b n c] [F4 Ed p lo st cb cl cc bm ob on oc wr,hM,K] (.bool (decide (ys=xs))):=by
  have hE:=Hx [K] b1 b n1 n c1 c ys xs Yx hn h2 h1;refine CL Tryz.func92 rfl (Nat.le_of_ble_eq_true rfl) fun F=> ?_
  repeat' (first|refine CW rfl rfl rfl (D4 mp rfl rfl rfl hf) ?_|apply Cv|refine Ct 0 Cr A0 ?_|refine CY 2 Cr Ar Ab ?_|refine Ct 3 Cr Af ?_|refine Ct 4 Cr Ae ?_|refine Ct 4 Cr (CE rfl rfl rfl rfl rfl (hE)) ?_|refine Ct 5 Cr Ak ?_|refine Cu ?_|apply Cw|refine Cy ?_|refine CH ?_|refine CF ?_|apply Cz|apply CB|refine CQ ?_)
  all_goals first|(exfalso;omega)|exact CJ [F4 Ed p lo st cb cl cc bm ob on oc wr,hM,K] (CD (Cx rfl)) ⟨rfl,rfl⟩
theorem VX(hM hO:CA)(Ed:Nat)(p:Value)(lo st:Int)(cb:Option Addr)(cl cc bm:Nat)(ob:Option Addr)(on oc:Nat)(wr t:Int)(f:Int->Option Value)(v:Value)(V:List Int)
    (ht:0≤t/\t<(cl:Int)) (mp:MP hM bm .i64 f) (hf:f t=none) (os:OS hO ob on oc 3 1 (V.map i64)) (lT:on≤4000000):
    SL.T Tryz.prog 92 [.pointer (some ⟨Ed,0,none⟩),i64 t,v] [F4 Ed p lo st cb cl cc bm ob on oc wr,hM,hO] fun e o=>e= .returned (.bool true)/\∃j1 hO' Zu oc',o= [F4 Ed p lo st cb cl cc bm Zu (on+1) oc' wr,j1,hO']/\
      MP j1 bm .i64 (fun q=>if q=t then some v else f q)/\OS hO' Zu (on+1) oc' 3 1 ((V++ [t]).map i64):=by
  refine CM Tryz.func92 rfl (Nat.le_of_ble_eq_true rfl) fun F=> ?_
  repeat' (first|refine CW rfl rfl rfl (N6 mp rfl rfl rfl hf) ?_|refine Zd rfl rfl rfl rfl rfl rfl mp (fun Up kJ=> ?_)|apply Cv|refine Ct 0 Cr A0 ?_|refine CY 2 Cr Ar Ab ?_|refine Ct 3 Cr Af ?_|refine Ct 4 Cr Ae ?_|(refine gk 4 rfl ?_;(refine Ef rfl rfl rfl rfl rfl rfl rfl rfl rfl os Ah rfl Ah rfl Ab Ab (fun h1 b1 c1 E2=> ?_)))|refine Ct 5 Cr Ak ?_|refine CP (fun b=> ?_)|refine CN ?_|refine Cu ?_|apply Cw|refine Cy ?_|refine CF ?_|apply Cz|apply CB)
  all_goals first|(exfalso;omega)|skip
  exact CJ [F4 Ed p lo st cb cl cc bm b1 (on+1) c1 wr,Up,h1] (CD (Cx rfl)) ⟨rfl,Up,h1,b1,c1,rfl,kJ,by rw [List.map_append];exact E2⟩
end Go.Proofs.YtcnmnmjmpocepaaGreatDoor.Nd
end
section
namespace Go.Proofs.YtcnmnmjmpocepaaGreatDoor.Nd
open Go.SL
attribute [local irreducible] SL.T Dw DG DE DI Et D0
theorem YV(J K hM:CA)(Ed:Nat)(p:Value)(lo st:Int)(cb:Option Addr)(cl cc bm:Nat)(ob:Option Addr)(on oc:Nat)(wr:Int)(cs:List Ins)(z:Nat)(f:Int->Option Value)(b:Option Addr)(n c:Nat)(xs:List Int)
    [Sl J cb (CZ cs)] (ie:Sl K b (xs.map i64)) (hl:cs.length=cl) (DO:cl≤1000000) (hz:z<cl) (mp:MP hM bm .i64 f) (hf:f (z:Int)=some (.slice b n c)) (hn:xs.length=n) (NP:n≤c) (gh:n≤1000000):
    SL.T Tryz.prog 94 [.pointer (some ⟨Ed,0,none⟩),i64 (z:Int)] [J,F4 Ed p lo st cb cl cc bm ob on oc wr,hM,K] fun e o=>∃K',o= [K',J,F4 Ed p lo st cb cl cc bm ob on oc wr,hM]/\hle K K'/\
      ∃b' n' c',e= .returned (aj b' n' c' (Iy cs z xs).isSome)/\∀s,Iy cs z xs=some s->s.length=n'/\n'≤c'/\Sl K' b' (s.map i64):=by
  refine(Gw (R:=fun e A N=>A= [J,F4 Ed p lo st cb cl cc bm ob on oc wr,hM]/\∃N0,N=K::N0/\∃b' n' c',e= .returned (aj b' n' c' (Iy cs z xs).isSome)/\BQ K N0 (Iy cs z xs) b' n' c') ((Ri J K hM Ed p lo st cb cl cc bm ob on oc wr cs z f b n c xs hl DO hz mp hf hn NP gh).mono ?_)).mono ?_
  · rintro e o ⟨N,rfl,b',n',c',he,hq⟩;exact⟨_,_,List.perm_append_comm (l₁:= [J,F4 Ed p lo st cb cl cc bm ob on oc wr,hM]) (l₂:=K::N),rfl,N,rfl,b',n',c',he,hq⟩
  · rintro e o ⟨A,N,K',rfl,hK,rfl,N0,rfl,b',n',c',he,hq⟩;refine⟨K',rfl,hK K (List.mem_cons_self ..),b',n',c',he,fun s hs=> ?_⟩;obtain⟨h1,h2,h3⟩:=hq s hs;exact⟨h1,h2,h3.RO hK⟩
theorem Nc(Ed:Nat):SL.T Tryz.prog 93 [.pointer (some ⟨Ed,0,none⟩)] [] fun e o=>∃Ei,e= .returned (.func (.func 139) #[] #[.pointer (some ⟨Ei,0,none⟩)])/\o= [CV Ei (.cells ⟨[.pointer (some ⟨Ed,0,none⟩)]⟩ 129 (0,0))]:=by
  refine CM Tryz.func93 rfl (Nat.le_of_ble_eq_true rfl) fun F=> ?_
  repeat' (first|apply Cv|refine Ct 0 Cr Bs ?_|refine C2 (fun β=> ?_)|refine Cu ?_|apply Cw|refine Cy ?_|apply Cz)
  exact CJ [CV β (.cells ⟨[.pointer (some ⟨Ed,0,none⟩)]⟩ 129 (0,0))] (CD (Cx rfl)) ⟨β,rfl,rfl⟩
def lF(Ed k:Nat)(H:CA)(o:Option (List Value)):Prop:=
  ∃(p lo st cb m:Value) (ob:Option Addr) (on oc:Nat) (wr:Value) (V:List Int),H (.b Ed)=some (.o (.cells ⟨[p,lo,st,cb,m,.slice ob on oc,wr]⟩ 133 (0,0)))/\Sl H ob (V.map i64)/\V.length=on/\on≤4000000/\o=(V[k]?).map fun z=> [i64 z]
theorem U6(Ed k:Nat)(H H':CA)(o:Option (List Value))(h:hle H H'):lF Ed k H o->lF Ed k H' o:=by
  rintro⟨p,lo,st,cb,m,ob,on,oc,wr,V,h1,h2,h3,h4,h5⟩;exact⟨p,lo,st,cb,m,ob,on,oc,wr,V,h _ _ h1,h2.mono h,h3,h4,h5⟩
theorem OK(Ed Ei:Nat):iV Tryz.prog 139 [] [.pointer (some ⟨Ei,0,none⟩)] [CV Ei (.cells ⟨[.pointer (some ⟨Ed,0,none⟩)]⟩ 129 (0,0))] (lF Ed):=by
  intro L J Jd Jx hy H h0;refine CM Tryz.func139 rfl (Nat.le_of_ble_eq_true rfl) fun F=> ?_
  repeat' (first|apply Cv|refine Ct 0 Cr Au ?_|refine Cu ?_|apply Cw|refine Cy ?_|refine CC ?_)
  refine C4 (fun s:(Nat×CA)=> [(0,.func (.yield L) #[] #[]),(1,.pointer (some ⟨Ei,0,none⟩)),(3,i64 (s.1:Int))])
    (fun s=> [s.2,CV Ei (.cells ⟨[.pointer (some ⟨Ed,0,none⟩)]⟩ 129 (0,0))]) (fun s=>s.1≤4000000/\J s.1 s.2) (fun s=>4000001 - s.1) (0,H) (by repeat first|exact Sub.nil _|refine Sub.cons rfl ?_) ⟨Nat.zero_le _,h0⟩ ?_
  clear h0;rintro⟨k,H⟩ ⟨hk,hJ⟩;dsimp only at hk hJ ⊢
  rcases hy k H hJ with ⟨x,⟨p,lo,st,cb,m,ob,on,oc,wr,V,hb,sl,hl,lT,hx⟩,hY⟩|⟨⟨p,lo,st,cb,m,ob,on,oc,wr,V,hb,sl,hl,lT,hx⟩,hD⟩
  · haveI:LO H Ed _:=⟨hb⟩;have hx2:=hx.symm;rw [Option.map_eq_some_iff] at hx2
    obtain⟨z,hz,rfl⟩:=hx2;have Wx:=(List.getElem?_eq_some_iff.1 hz).1;have hcx:(V.map i64)[((k:Nat):Int).toNat*1]?=some (i64 z):=by simp [hz]
    repeat' (first|apply Cv|refine Ct 0 Cr Ap ?_|refine CO 2 Cr Aj Ab ?_|refine Ct 3 Cr A8 ?_|refine Ct 4 Cr Ae ?_|refine Ct 5 Cr Ak ?_|refine Cu ?_|apply Cw|refine Cy ?_|refine CH ?_|refine CC ?_|apply CB)
    refine Mn (hs:= [H]) rfl rfl rfl (Su rfl rfl rfl rfl hY) ?_;rintro v own' ⟨H',rfl,⟨rfl,hJ'⟩|⟨rfl,hJ'⟩⟩ <;>refine⟨_,rfl,?_⟩
    · repeat' (first|refine Ct 0 Cr AS ?_|refine Ct 1 Cr Ao ?_|refine Cu ?_|apply Cw|refine Cy ?_|refine CF ?_|apply CB)
      exact⟨rfl,(k+1,H'),CX (by repeat first|exact Sub.nil _|refine Sub.cons rfl ?_),⟨by dsimp only;omega,hJ'⟩,by dsimp only;omega⟩
    · repeat' (first|refine Ct 0 Cr BT ?_|apply Cw|refine Cy ?_|refine CH ?_|apply Cz|refine CQ ?_|refine C3 ?_)
      exact CJ [H',CV Ei (.cells ⟨[.pointer (some ⟨Ed,0,none⟩)]⟩ 129 (0,0))] Dt ⟨rfl,H',rfl,.inr hJ'⟩
  · haveI:LO H Ed _:=⟨hb⟩;have Wx:on≤k:=by
      have:=hx.symm;rw [Option.map_eq_none_iff,List.getElem?_eq_none_iff] at this
      omega
    repeat' (first|apply Cv|refine Ct 0 Cr Ap ?_|refine CY 2 Cr Aj Ab ?_|refine Ct 3 Cr Af ?_|refine Ct 4 Cr Ae ?_|refine Ct 5 Cr Ak ?_|refine Cu ?_|apply Cw|refine Cy ?_|refine CF ?_|refine C1 ?_|refine Gf ?_|refine Gh ?_)
    exact HR [H,CV Ei (.cells ⟨[.pointer (some ⟨Ed,0,none⟩)]⟩ 129 (0,0))] Dt ⟨rfl,H,rfl,.inl hD⟩
end Go.Proofs.YtcnmnmjmpocepaaGreatDoor.Nd
end
section
namespace Go.Proofs.YtcnmnmjmpocepaaGreatDoor.Nd
open Go.SL
theorem step_done{cs:List Ins}{V:List Int}{Dl:Int->List Int}{i k:Nat}(h:V[i]?=none):GS.step cs ⟨V,Dl,i,k,none⟩=⟨V,Dl,i,k,some (-1)⟩:=by
  simp [GS.step,h]
theorem Ux{cs:List Ins}{V:List Int}{Dl:Int->List Int}{i k:Nat}{z:Int}(h:V[i]?=some z)(hb:Iy cs z.toNat (Dl z)=none):GS.step cs ⟨V,Dl,i,k,none⟩=⟨V,Dl,i,k,some z⟩:=by
  simp [GS.step,h,hb]
theorem NW{cs:List Ins}{V:List Int}{Dl:Int->List Int}{i k:Nat}{z:Int}{s:List Int}(h:V[i]?=some z)(hb:Iy cs z.toNat (Dl z)=some s)(hn:(Gp cs z)[k]?=none):GS.step cs ⟨V,Dl,i,k,none⟩=⟨V,Dl,i+1,0,none⟩:=by
  simp [GS.step,h,hb,hn]
theorem Uv{cs:List Ins}{V:List Int}{Dl:Int->List Int}{i k:Nat}{z t:Int}{s:List Int}(h:V[i]?=some z)(hb:Iy cs z.toNat (Dl z)=some s)(hn:(Gp cs z)[k]?=some t)(ht:¬(0≤t/\t<cs.length)):GS.step cs ⟨V,Dl,i,k,none⟩=⟨V,Dl,i,k+1,none⟩:=by
  simp [GS.step,h,hb,hn,ht]
theorem RV{cs:List Ins}{V:List Int}{Dl:Int->List Int}{i k:Nat}{z t:Int}{s:List Int}(h:V[i]?=some z)(hb:Iy cs z.toNat (Dl z)=some s)(hn:(Gp cs z)[k]?=some t)(ht:0≤t/\t<cs.length)(hv:t∈V)(he:Dl t=s):GS.step cs ⟨V,Dl,i,k,none⟩=⟨V,Dl,i,k+1,none⟩:=by
  simp [GS.step,h,hb,hn,ht,hv,he]
theorem PL{cs:List Ins}{V:List Int}{Dl:Int->List Int}{i k:Nat}{z t:Int}{s:List Int}(h:V[i]?=some z)(hb:Iy cs z.toNat (Dl z)=some s)(hn:(Gp cs z)[k]?=some t)(ht:0≤t/\t<cs.length)(hv:t∈V)(he:Dl t≠s):GS.step cs ⟨V,Dl,i,k,none⟩=⟨V,Dl,i,k,some t⟩:=by
  simp [GS.step,h,hb,hn,ht,hv,he]
theorem Uw{cs:List Ins}{V:List Int}{Dl:Int->List Int}{i k:Nat}{z t:Int}{s:List Int}(h:V[i]?=some z)(hb:Iy cs z.toNat (Dl z)=some s)(hn:(Gp cs z)[k]?=some t)(ht:0≤t/\t<cs.length)(hv:t∉V):GS.step cs ⟨V,Dl,i,k,none⟩=⟨V++ [t],fun q=>if q=t then s else Dl q,i,k+1,none⟩:=by
  simp [GS.step,h,hb,hn,ht,hv]
theorem Fo{cs:List Ins}{n:Nat}{g:GS}(h:GS.run cs n=g):GS.run cs (n+1)=g.step cs:=by rw [GS.run,h]
theorem gE{op k:Int}{s s':List Int}(h:RM op k s=some s')(hs:s.length≤8):s'.length≤8:=by
  unfold RM at h
  repeat' split at h
  all_goals first|(cases h;done)|skip
  all_goals cases h
  all_goals first|assumption|(simp;omega)|(rw [List.length_append];simp;omega)|(have:=List.length_dropLast (xs:=s);omega)
theorem Wb{cs:List Ins}{z:Nat}{s s':List Int}(h:Iy cs z s=some s')(hs:s.length≤8):s'.length≤8:=by
  unfold Iy at h
  dsimp only at h
  split at h
  · cases h
  · exact gE h hs
structure WS(cs:List Ins)(K:CA)(f:Int->Option Value)(V:List Int)(Dl:Int->List Int):Prop where
  ea:∀t∈V,0≤t/\t<(cs.length:Int)
  nd:V.Nodup
  lM:∀t∈V,∃b n c,f t=some (.slice b n c)/\Sl K b ((Dl t).map i64)/\(Dl t).length=n/\n≤c/\n≤8
  out:∀t,t∉V->f t=none/\Dl t= []
theorem WS.mono{cs:List Ins}{K K':CA}{f:Int->Option Value}{V:List Int}{Dl:Int->List Int}(h:WS cs K f V Dl)(hK:hle K K'):WS cs K' f V Dl:=
  ⟨h.ea,h.nd,fun t ht=>by obtain⟨b,n,c,h1,h2,h3⟩:=h.lM t ht;exact⟨b,n,c,h1,h2.mono hK,h3⟩,h.out⟩
theorem WS.add{cs:List Ins}{K:CA}{f:Int->Option Value}{V:List Int}{Dl:Int->List Int}(h:WS cs K f V Dl){t:Int}{s:List Int}{b:Option Addr}{n c:Nat}(ht:0≤t/\t<(cs.length:Int))(hv:t∉V)(sl:Sl K b (s.map i64))(hn:s.length=n)(hc:n≤c)(h8:n≤8):
    WS cs K (fun q=>if q=t then some (.slice b n c) else f q) (V++ [t]) (fun q=>if q=t then s else Dl q):=by
  refine⟨fun u hu=> ?_,?_,fun u hu=> ?_,fun u hu=> ?_⟩
  · rcases List.mem_append.1 hu with hu|hu
    · exact h.ea u hu
    · rw [List.mem_singleton.1 hu];exact ht
  · rw [List.nodup_append];exact⟨h.nd,by simp,fun a ha b hb=>by rw [List.mem_singleton.1 hb];rintro rfl;exact hv ha⟩
  · by_cases e:u=t
    · subst e;exact⟨b,n,c,by simp,by simpa using sl,by simpa using hn,hc,h8⟩
    · rcases List.mem_append.1 hu with hu|hu
      · simpa [e] using h.lM u hu
      · exact absurd (List.mem_singleton.1 hu) e
  · have e:u≠t:=fun e=>hu (by simp [e])
    have:=h.out u (fun x=>hu (List.mem_append.2 (.inl x)));simpa [e] using this
theorem WS.len{cs:List Ins}{K:CA}{f:Int->Option Value}{V:List Int}{Dl:Int->List Int}(h:WS cs K f V Dl):V.length≤cs.length:=N8 h.nd h.ea
theorem WS.first{cs:List Ins}{K:CA}(h:0<cs.length):WS cs K (fun q=>if q=0 then some (.slice none 0 0) else none) [0] (fun _=> []):=
  ⟨fun t ht=>by rw [List.mem_singleton.1 ht];omega,by simp,fun t ht=>⟨none,0,0,by simp [List.mem_singleton.1 ht],Sl.none,rfl,Nat.le_refl _,by omega⟩,fun t ht=>by simp [show t≠0 by simpa using ht]⟩
end Go.Proofs.YtcnmnmjmpocepaaGreatDoor.Nd
end
