
import Derived.Test.YtcnmnmjmpocepaaGreatDoorV00
import Derived.Test.YtcnmnmjmpocepaaGreatDoorV09
import Derived.Test.YtcnmnmjmpocepaaGreatDoorV06
import Derived.Test.YtcnmnmjmpocepaaGreatDoorV11
import Derived.Test.YtcnmnmjmpocepaaGreatDoorV07
set_option linter.unusedVariables false
set_option linter.unusedSimpArgs false
set_option linter.unusedSectionVars false
set_option maxRecDepth 100000
set_option maxHeartbeats 16000000
section
namespace Go.Proofs.YtcnmnmjmpocepaaGreatDoor.Kd
open Go.SL
attribute [local irreducible] T Dw DG DE DI Et D0
abbrev i64(a:Int):Value:= .int .i64 a
theorem Nr(l:List Int):(l.map i64).all (·.oneCell')=true:=by
  rw [List.all_map,List.all_eq_true];intro x _;rfl
theorem Hx(own:List CA)(b1 b2:Option Addr)(n1 n2 c1 c2:Nat)(xs ys:List Int) [Ds own b1 (xs.map i64)] [Ds own b2 (ys.map i64)](h1:xs.length=n1)(h2:ys.length=n2)(DO:n1≤9223372036854775807):
    Dw Tryz.prog 162 [.slice b1 n1 c1,.slice b2 n2 c2] own (.bool (decide (xs=ys))):=by
  refine CL Tryz.func162 rfl (Nat.le_of_ble_eq_true rfl) fun F=> ?_
  by_cases hn:n1=n2
  · subst hn
    repeat' (first|apply Cv|refine Ct 0 Cr Ag ?_|refine CY 2 Cr Ax Ab ?_|refine Ct 4 Cr Ae ?_|refine Cu ?_|apply Cw|refine Cy ?_|refine CF ?_|refine CC ?_|apply CB)
    refine C4 (fun j:Nat=> [(0,.slice b1 n1 c1),(1,.slice b2 n1 c2),(12,i64 (n1:Int)),(13,i64 (j:Int))])
      (fun _=>own) (fun j=>j≤n1/\xs.take j=ys.take j) (fun j=>n1 - j) 0 (by repeat first|exact Sub.nil _|refine Sub.cons rfl ?_) ⟨Nat.zero_le _,rfl⟩ ?_
    rintro j ⟨LV,FF⟩;by_cases hj:j<n1
    · obtain⟨x,hx⟩:∃z,xs[j]?=some z:=⟨_,List.getElem?_eq_getElem Ab⟩;obtain⟨y,hy⟩:∃z,ys[j]?=some z:=⟨_,List.getElem?_eq_getElem Ab⟩;have hcx:(xs.map i64)[((j:Nat):Int).toNat*1]?=some (i64 x):=by simp [hx]
      have hcy:(ys.map i64)[((j:Nat):Int).toNat*1]?=some (i64 y):=by simp [hy]
      by_cases Jb:x=y
      · subst Jb
        repeat' (first|apply Cv|refine Ct 0 Cr Ag ?_|refine Ct 1 Cr Ao ?_|refine CO 2 Cr A5 Ab ?_|refine CY 2 Cr Ax Ab ?_|refine Ct 3 Cr AK ?_|refine Cu ?_|refine De Ac Ac rfl ?_|apply Cw|refine Cy ?_|refine CH ?_|refine CF ?_|refine CC ?_|apply CB)
        refine⟨rfl,j+1,CX (by repeat first|exact Sub.nil _|refine Sub.cons rfl ?_),⟨by omega,?_⟩,by omega⟩;rw [List.take_add_one,List.take_add_one,hx,hy,FF]
      · repeat' (first|apply Cv|refine Ct 0 Cr Ag ?_|refine CO 2 Cr A5 Ab ?_|refine Ct 3 Cr AK ?_|refine Cu ?_|refine De Ac Ac rfl ?_|apply Cw|refine Cy ?_|refine CH ?_|refine CC ?_|apply Cz|apply CB|refine CQ ?_|refine C3 ?_)
        refine CS (CD (Cx rfl)) ?_;refine congrArg Value.bool (decide_eq_false fun e=>Jb ?_).symm;rw [e,hy] at hx;cases hx;rfl
    · repeat' (first|apply Cv|refine Ct 0 Cr Au ?_|refine CY 2 Cr Aj Ab ?_|refine Cu ?_|apply Cw|refine Cy ?_|refine CF ?_|apply Cz|refine C1 ?_)
      refine CS (CD (Cx rfl)) ?_;rw [List.take_of_length_le Ab,List.take_of_length_le Ab] at FF
      rw [decide_eq_true FF]
  · repeat' (first|apply Cv|refine Ct 0 Cr Ag ?_|refine CO 2 Cr Ax Ab ?_|refine Ct 4 Cr Ae ?_|refine Cu ?_|apply Cw|refine Cy ?_|refine CH ?_|apply Cz|refine CQ ?_)
    refine CS (CD (Cx rfl)) ?_;refine congrArg Value.bool (decide_eq_false fun e=>hn ?_).symm;rw [<-h1,<-h2,e]
theorem Iz(own:List CA)(b:Option Addr)(n c:Nat)(xs:List Int)(v:Int) [Ds own b (xs.map i64)](h1:xs.length=n)(DO:n≤9223372036854775807):
    Dw Tryz.prog 88 [.slice b n c,i64 v] own (i64 (if v∈xs then(xs.idxOf v:Int) else -1)):=by
  refine CL Tryz.func88 rfl (Nat.le_of_ble_eq_true rfl) fun F=> ?_
  repeat' (first|apply Cv|refine Ct 0 Cr Ag ?_|refine Ct 4 Cr Ae ?_|refine Cu ?_|apply Cw|refine Cy ?_|refine CC ?_)
  refine C4 (fun j:Nat=> [(0,.slice b n c),(1,i64 v),(7,i64 (n:Int)),(8,i64 (j:Int))])
    (fun _=>own) (fun j=>j≤n/\v∉xs.take j) (fun j=>n - j) 0 (by repeat first|exact Sub.nil _|refine Sub.cons rfl ?_) ⟨Nat.zero_le _,by simp⟩ ?_
  rintro j ⟨LV,FF⟩;by_cases hj:j<n
  · obtain⟨x,hx⟩:∃z,xs[j]?=some z:=⟨_,List.getElem?_eq_getElem Ab⟩;have hcx:(xs.map i64)[((j:Nat):Int).toNat*1]?=some (i64 x):=by simp [hx]
    by_cases Jb:v=x
    · subst Jb
      repeat' (first|apply Cv|refine Ct 0 Cr Ag ?_|refine CO 2 Cr AP Ab ?_|refine Ct 3 Cr AK ?_|refine Cu ?_|apply Cw|refine Cy ?_|refine CH ?_|refine CC ?_|apply Cz|apply CB|refine CQ ?_|refine C3 ?_)
      refine CS (CD (Cx rfl)) ?_;have hi:xs.idxOf v=j:=by
        obtain⟨hl,he⟩:=List.getElem?_eq_some_iff.1 hx;rw [<-List.take_append_drop j xs,List.idxOf_append,if_neg FF,List.length_take,List.drop_eq_getElem_cons hl,he,List.idxOf_cons_self];omega
      rw [if_pos (List.mem_of_getElem? hx),hi]
    · repeat' (first|apply Cv|refine Ct 0 Cr Ag ?_|refine Ct 1 Cr Ao ?_|refine CO 2 Cr AP Ab ?_|refine CY 2 Cr Al Ab ?_|refine Ct 3 Cr AK ?_|refine Cu ?_|apply Cw|refine Cy ?_|refine CH ?_|refine CF ?_|refine CC ?_|apply CB)
      refine⟨rfl,j+1,CX (by repeat first|exact Sub.nil _|refine Sub.cons rfl ?_),⟨by omega,?_⟩,by omega⟩;rw [List.take_add_one,hx];simp [FF,Jb]
  · repeat' (first|apply Cv|refine Ct 0 Cr Au ?_|refine CY 2 Cr Aj Ab ?_|refine Cu ?_|apply Cw|refine Cy ?_|refine CF ?_|apply Cz|refine C1 ?_)
    refine CS (CD (Cx rfl)) ?_;rw [List.take_of_length_le Ab] at FF
    rw [if_neg FF]
theorem FB(own:List CA)(b:Option Addr)(n c:Nat)(xs:List Int)(v:Int) [Ds own b (xs.map i64)](h1:xs.length=n)(DO:n≤9223372036854775807):
    Dw Tryz.prog 51 [.slice b n c,i64 v] own (.bool (decide (v∈xs))):=by
  refine CL Tryz.func51 rfl (Nat.le_of_ble_eq_true rfl) fun F=> ?_
  by_cases hv:v∈xs
  · have hc:=Iz own b n c xs v h1 DO;rw [if_pos hv] at hc
    repeat' (first|apply Cv|refine Ct 0 Cr Ag ?_|refine CO 2 Cr AB Ab ?_|refine Ct 4 Cr (CE rfl rfl rfl rfl rfl (hc)) ?_|refine Cu ?_|apply Cw|refine Cy ?_|apply Cz)
    refine CS (CD (Cx rfl)) ?_;rw [decide_eq_true hv]
  · have hc:=Iz own b n c xs v h1 DO;rw [if_neg hv] at hc
    repeat' (first|apply Cv|refine Ct 0 Cr Ag ?_|refine CY 2 Cr AB Ab ?_|refine Ct 4 Cr (CE rfl rfl rfl rfl rfl (hc)) ?_|refine Cu ?_|apply Cw|refine Cy ?_|apply Cz)
    refine CS (CD (Cx rfl)) ?_;rw [decide_eq_false hv]
end Go.Proofs.YtcnmnmjmpocepaaGreatDoor.Kd
end
section
namespace Go.Proofs.YtcnmnmjmpocepaaGreatDoor.Kd
open Go.SL
attribute [local irreducible] T Dw DG DE DI Et D0
theorem Wn(S:CA)(base:Option Addr)(len cap:Nat)(zs:List Int) [Sl S base (zs.map i64)](hlen:zs.length=len)(DO:len≤4000000):
    T Tryz.prog 52 [.slice base len cap] [S] fun e own'=>∃h b c,e= .returned (.slice b len c)/\own'= [S,h]/\OS h b len c 79 1 (zs.map i64):=by
  refine CM Tryz.func52 rfl (Nat.le_of_ble_eq_true rfl) fun F=> ?_
  cases base with
  | none=>
    have h0:len=0:=by
      rcases Nat.eq_zero_or_pos len with h|h
      · exact h
      · exfalso;obtain⟨a,_,_,_,e,_⟩:= ‹Sl S none (zs.map i64)›.cell 0 (i64 (zs[0]'Ab)) Am;cases e
    subst h0;obtain rfl:zs= []:=List.length_eq_zero_iff.1 hlen;refine DH ?_
    repeat' (first|apply Cv|refine Ct 0 Cr Ag ?_|refine Ct 2 Cr (LH rfl rfl) ?_|refine Cu ?_|apply Cw|refine Cy ?_|refine CH ?_|apply Cz|refine CQ ?_)
    exact Gj [S,emp] (CD (Cx rfl)) (fun F w s=>s.perm ((List.Perm.swap _ _ _).cons F)) ⟨emp,none,0,rfl,rfl,OS.nil⟩
  | some a=>
    repeat' (first|apply Cv|refine Ct 0 Cr Ag ?_|refine Ct 2 Cr (LH rfl rfl) ?_|refine CP (fun b=> ?_)|refine Cu ?_|apply Cw|refine Cy ?_|refine CF ?_|apply CB)
    refine EH rfl rfl rfl rfl rfl rfl rfl rfl rfl (OS.CV (len:=0) (sz:=1) (cs:= []) rfl) (by simp [hlen]) Ah (Nr _) Ab Ab (fun h' b' c' HS OU=> ?_);rw [Nat.zero_add] at HS ⊢
    repeat' (first|refine Ct 0 Cr Au ?_|apply Cw|refine Cy ?_|apply Cz)
    exact Gj [S,h'] (CD (Cx rfl)) (fun F w s=>s.perm ((List.Perm.swap _ _ _).cons F)) ⟨h',b',c',rfl,rfl,HS⟩
abbrev fr(a b:Option Addr)(n m c d:Nat):Value:= .agg ⟨[.slice a n c,.slice b m d]⟩
abbrev JZ:Value:=fr none none 0 0 0 0
theorem NM(own:List CA)(base:Option Addr)(len cap:Nat)(zs:List Int) [s:Ds own base (zs.map i64)](hlen:zs.length=len)(DO:len≤4000000):
    T Tryz.prog 52 [.slice base len cap] own fun e o=>∃N,o=own++N/\∃h b c,e= .returned (.slice b len c)/\N= [h]/\OS h b len c 79 1 (zs.map i64):=
  KH fun J hJ=>by
    haveI:=s.all hJ;refine(Wn J base len cap zs hlen DO).mono ?_;rintro e o ⟨h,b,c,h1,rfl,h3⟩;exact⟨[h],rfl,h,b,c,h1,rfl,h3⟩
theorem XV(own:List CA)(a b a' b':Option Addr)(n m n' m' c d c' d':Nat)(xs ys Jj LP:List Int) [Ds own a (xs.map i64)] [Ds own b (ys.map i64)] [Ds own a' (Jj.map i64)] [Ds own b' (LP.map i64)]
    (h1:xs.length=n) (h2:ys.length=m) (h3:Jj.length=n') (h4:LP.length=m') (DO:n≤4000000) (RF:m≤4000000):
    Dw Tryz.prog 120 [fr a b n m c d,fr a' b' n' m' c' d'] own (.bool (decide (xs=Jj/\ys=LP))):=by
  refine JB fun J hJ=> ?_
  haveI:=Ds.all ‹Ds own a _› hJ;haveI:=Ds.all ‹Ds own b _› hJ;haveI:=Ds.all ‹Ds own a' _› hJ;haveI:=Ds.all ‹Ds own b' _› hJ;refine CL Tryz.func120 rfl (Nat.le_of_ble_eq_true rfl) fun F=> ?_
  repeat' (first|apply Cv|refine Ct 0 Cr Ay ?_|refine Ct 3 Cr Af ?_|refine CG 3 Cs ?_|refine CG 4 Cs ?_|refine G5 4 Cr (CE rfl rfl rfl rfl rfl (Hx [J] _ _ _ _ _ _ xs Jj h1 h3 Ab)) (fun h=> ?_) (fun h=> ?_)|refine G5 4 Cr (CE rfl rfl rfl rfl rfl (Hx [J] _ _ _ _ _ _ ys LP h2 h4 Ab)) (fun h=> ?_) (fun h=> ?_)|refine C2 (fun β=> ?_)|refine Cu ?_|apply Cw|refine Cy ?_|apply Cz)
  all_goals
    refine CS (CD (Cx rfl)) ?_;refine congrArg Value.bool ?_
    symm
    first|exact decide_eq_true ⟨by assumption,by assumption⟩|(refine decide_eq_false ?_;rintro⟨rfl,rfl⟩;contradiction)
end Go.Proofs.YtcnmnmjmpocepaaGreatDoor.Kd
end
section
namespace Go.Proofs.YtcnmnmjmpocepaaGreatDoor.Kd
open Go.SL
attribute [local irreducible] T Dw DG DE DI Et D0
theorem NZ{gs:List Int}{k:Nat}{z:Int}(hk:k<gs.length):(gs.map i64).take k++ [i64 z]++(gs.map i64).drop (k+1)=(gs.set k z).map i64:=by
  rw [List.map_set,List.set_eq_take_append_cons_drop,if_pos (by simpa using hk)];simp
theorem Mo{gs:List Int}{k j:Nat}{z:Int}(e:k=j)(hk:j<gs.length):(gs.map i64).take k++ [i64 z]++(gs.map i64).drop (k+1)=(gs.set j z).map i64:=by
  subst e;exact NZ hk
def EB(xs ys:List Int):List Int:=List.zipWith (fun x y=>if x=y then x else -1) xs ys
def IH(xs ys:List Int)(j:Nat):List Int:=(EB xs ys).take j++xs.drop j
theorem EY{xs ys:List Int}(h:xs.length=ys.length):(EB xs ys).length=xs.length:=by simp [EB,h]
theorem TS{xs ys:List Int}{j:Nat}(h:xs.length=ys.length)(hj:j≤xs.length):(IH xs ys j).length=xs.length:=by
  simp [IH,EY h];omega
theorem Vr{xs ys:List Int}{j:Nat}(h:xs.length=ys.length)(hj:j<xs.length):(IH xs ys j)[j]?=xs[j]?:=by
  have hm:min j xs.length=j:=by omega
  rw [IH,List.getElem?_append_right (by rw [List.length_take,EY h,hm];omega),List.length_take,EY h,List.getElem?_drop,hm]
  congr 1;omega
theorem Sk{xs ys:List Int}{j:Nat}{x y:Int}(h:xs.length=ys.length)(hx:xs[j]?=some x)(hy:ys[j]?=some y):(IH xs ys j).set j (if x=y then x else -1)=IH xs ys (j+1):=by
  obtain⟨hj,ex⟩:=List.getElem?_eq_some_iff.1 hx;have hl:=EY h;have hz:(EB xs ys)[j]?=some (if x=y then x else -1):=by simp [EB,List.getElem?_zipWith,hx,hy]
  have e1:min j xs.length=j:=by omega
  have e2:min (j+1) xs.length=j+1:=by omega
  have e3:j+(xs.length - j)=xs.length:=by omega
  apply List.ext_getElem?;intro i;simp only [IH,List.getElem?_set,List.getElem?_append,List.getElem?_take,List.getElem?_drop,List.length_append,List.length_take,List.length_drop,hl,e1,e2,e3];rcases Nat.lt_trichotomy i j with hi|rfl|hi
  · rw [if_neg Ab,if_pos hi,if_pos hi,if_pos Ab,if_pos Ab]
  · rw [if_pos rfl,if_pos hj,if_pos (Nat.lt_succ_self _),if_pos (Nat.lt_succ_self _),hz]
  · rw [if_neg Ab,if_neg Ab,if_neg Ab]
    congr 1;omega
theorem cE{xs ys:List Int}{j:Nat}{x y:Int}(h:xs.length=ys.length)(hx:xs[j]?=some x)(hy:ys[j]?=some y)(Jb:x≠y):(IH xs ys j).set j (-1)=IH xs ys (j+1):=by
  rw [<-Sk h hx hy,if_neg Jb]
theorem cF{xs ys:List Int}{j:Nat}{x:Int}(h:xs.length=ys.length)(hx:xs[j]?=some x)(hy:ys[j]?=some x):IH xs ys j=IH xs ys (j+1):=by
  rw [<-Sk h hx hy,if_pos rfl];obtain⟨hj,ex⟩:=List.getElem?_eq_some_iff.1 hx;have:=Vr h hj;rw [hx] at this
  obtain⟨g1,g2⟩:=List.getElem?_eq_some_iff.1 this;rw [<-g2,List.set_getElem_self]
structure SJ where
  j:Nat
  h:CA
theorem X0(J:CA)(a b a' b':Option Addr)(n m n' m' c d c' d':Nat)(xs ys Jj LP:List Int) [Sl J a (xs.map i64)] [Sl J b (ys.map i64)] [Sl J a' (Jj.map i64)] [Sl J b' (LP.map i64)]
    (h1:xs.length=n) (h2:ys.length=m) (h3:Jj.length=n') (h4:LP.length=m') (DO:n≤4000000) (RF:m≤4000000) (hn:n=n') (hy:ys=LP):
    T Tryz.prog 119 [fr a b n m c d,fr a' b' n' m' c' d'] [J] fun e o=>∃N,o=J::N/\∃h1 h2 b1 c1 b2 c2,e= .returned (.tuple #[fr b1 b2 n m c1 c2,.bool true])/\N= [h1,h2]/\OS h1 b1 n c1 79 1 ((EB xs Jj).map i64)/\OS h2 b2 m c2 79 1 (ys.map i64):=by
  have he:=Hx [J] b b' m m' d d' ys LP h2 h4 Ab;rw [decide_eq_true hy] at he
  have hxx:xs.length=Jj.length:=by omega
  subst hn;refine CM Tryz.func119 rfl (Nat.le_of_ble_eq_true rfl) fun F=> ?_
  repeat' (first|apply Cv|refine Ct 0 Cr AO ?_|refine CY 2 Cr Ax Ab ?_|refine Ct 3 Cr Af ?_|refine Ct 4 Cr Ae ?_|refine Ct 4 Cr (CE rfl rfl rfl rfl rfl (he)) ?_|refine C2 (fun β=> ?_)|refine CT (fun β=> ?_)|refine Cu ?_|apply Cw|refine Cy ?_|refine CF ?_|apply CB)
  rename_i Ei JQ
  refine C0 [.q [0,1,3,4],.an 7,.h false 2,.h false 5,.q [6],.rv 7,.h true 8] [] Ac Ac Ac Ac ?_
  repeat' (first|apply Cv|refine Ct 0 Cr Ap ?_|refine Ct 3 Cr Af ?_|refine Ct 4 Cr Ae ?_|refine Ct 5 Cr Aq ?_|refine Cu ?_|refine C5 ?_|refine Dd rfl ?_|refine Dn rfl rfl AR ?_|refine DN rfl rfl rfl (fun β=> ?_)|refine Df rfl rfl rfl rfl rfl rfl Aa rfl Aa Aa ?_|(refine IY rfl rfl rfl rfl rfl rfl rfl rfl (NM _ _ _ _ _ h1 DO) ?_;rintro _ _ ⟨hA,bA,cA,rfl,rfl,MO⟩;haveI mZ:=MO.sl;refine⟨_,_,rfl,rfl,?_⟩)|(refine IY rfl rfl rfl rfl rfl rfl rfl rfl (NM _ _ _ _ _ h2 RF) ?_;rintro _ _ ⟨hB,bB,cB,rfl,rfl,OL⟩;haveI ak:=OL.sl;refine⟨_,_,rfl,rfl,?_⟩)|apply Cw|refine Cy ?_|refine CC ?_)
  rename_i EO
  clear mZ;refine C4 (fun s:SJ=> [(4,.pointer (some ⟨EO,0,none⟩)),(6,.pointer (some ⟨β,0,none⟩)),(33,.slice a' n c'),(34,i64 (n:Int)),(35,i64 (s.j:Int))])
    (fun s=> [s.h,hB,J,CV β (.cells ⟨[.slice bA n cA,.slice bB m cB]⟩ 59 (0,0)),CV EO (.cells ⟨[.slice none 0 0,.slice none 0 0]⟩ 59 (0,0))])
    (fun s=>s.j≤n/\OS s.h bA n cA 79 1 ((IH xs Jj s.j).map i64)) (fun s=>n - s.j) ⟨0,hA⟩ (by repeat first|exact Sub.nil _|refine Sub.cons rfl ?_) ⟨Nat.zero_le _,by simpa [IH] using MO⟩ ?_
  rintro⟨j,H⟩ ⟨LV,os⟩;dsimp only at LV os ⊢
  haveI WR:=os.sl;by_cases hj:j<n
  · obtain⟨x,hx⟩:∃z,xs[j]?=some z:=⟨_,List.getElem?_eq_getElem Ab⟩;obtain⟨y,ar⟩:∃z,Jj[j]?=some z:=⟨_,List.getElem?_eq_getElem Ab⟩;have hcx:((IH xs Jj j).map i64)[((j:Nat):Int).toNat*1]?=some (i64 x):=by simp [Vr hxx (show j<xs.length by omega),hx]
    have hcy:(Jj.map i64)[((j:Nat):Int).toNat*1]?=some (i64 y):=by simp [ar]
    have OR:=TS hxx (show j≤xs.length by omega);by_cases Jb:x=y
    · subst Jb
      repeat' (first|apply Cv|refine Ct 0 Cr Ag ?_|refine Ct 1 Cr Ao ?_|refine CO 2 Cr A5 Ab ?_|refine CY 2 Cr Ax Ab ?_|refine Ct 3 Cr A8 ?_|refine Cu ?_|apply Cw|refine Cy ?_|refine CH ?_|refine CF ?_|refine CC ?_|apply CB)
      refine⟨rfl,⟨j+1,H⟩,CX (by repeat first|exact Sub.nil _|refine Sub.cons rfl ?_),⟨by dsimp only;omega,?_⟩,by dsimp only;omega⟩;dsimp only;rw [<-cF hxx hx ar];exact os
    · repeat' (first|refine Gl rfl rfl rfl rfl rfl os rfl rfl rfl Ah As (Mo (j:=j) Am Ab) (fun h' HS=> ?_)|apply Cv|refine Ct 0 Cr Ag ?_|refine Ct 1 Cr Ao ?_|refine CO 2 Cr A5 Ab ?_|refine Ct 3 Cr A8 ?_|refine Cu ?_|apply Cw|refine Cy ?_|refine CH ?_|refine CC ?_|apply CB)
      refine⟨rfl,⟨j+1,h'⟩,CX (by repeat first|exact Sub.nil _|refine Sub.cons rfl ?_),⟨by dsimp only;omega,?_⟩,by dsimp only;omega⟩;dsimp only;rw [<-cE hxx hx ar Jb];exact HS
  · obtain rfl:j=n:=by omega
    have jQ:IH xs Jj j=EB xs Jj:=by
      rw [IH,List.take_of_length_le (by rw [EY hxx];omega),List.drop_eq_nil_of_le Ab,List.append_nil]
    rw [jQ] at os
    repeat' (first|apply Cv|refine Ct 0 Cr Au ?_|refine CY 2 Cr Aj Ab ?_|refine Ct 3 Cr AA ?_|refine CN ?_|refine Cu ?_|apply Cw|refine Cy ?_|refine CF ?_|apply Cz|refine C1 ?_)
    exact CJ [J,H,hB] (CU (CR rfl rfl rfl rfl) (Cx rfl)) ⟨[H,hB],rfl,H,hB,bA,cA,bB,cB,rfl,rfl,os,OL⟩
theorem aa(J:CA)(a b a' b':Option Addr)(n m n' m' c d c' d':Nat)(xs ys Jj LP:List Int) [Sl J a (xs.map i64)] [Sl J b (ys.map i64)] [Sl J a' (Jj.map i64)] [Sl J b' (LP.map i64)]
    (h1:xs.length=n) (h2:ys.length=m) (h3:Jj.length=n') (h4:LP.length=m') (DO:n≤4000000) (RF:m≤4000000) (hn:¬(n=n'/\ys=LP)):
    Dw Tryz.prog 119 [fr a b n m c d,fr a' b' n' m' c' d'] [J] (.tuple #[JZ,.bool false]):=by
  have he:=Hx [J] b b' m m' d d' ys LP h2 h4 Ab;by_cases XB:n=n'
  · rw [decide_eq_false fun e=>hn ⟨XB,e⟩] at he
    refine CL Tryz.func119 rfl (Nat.le_of_ble_eq_true rfl) fun F=> ?_
    repeat' (first|apply Cv|refine Ct 0 Cr Bq ?_|refine CY 2 Cr Ax Ab ?_|refine Ct 3 Cr Af ?_|refine Ct 4 Cr Ae ?_|refine Ct 4 Cr (CE rfl rfl rfl rfl rfl (he)) ?_|refine Ct 5 Cr Aq ?_|refine C2 (fun β=> ?_)|refine CT (fun β=> ?_)|refine CN ?_|refine Cu ?_|apply Cw|refine Cy ?_|refine CH ?_|apply Cz|refine CQ ?_)
    exact CS (CU (CR rfl rfl rfl rfl) (Cx rfl)) rfl
  · skip
    refine CL Tryz.func119 rfl (Nat.le_of_ble_eq_true rfl) fun F=> ?_
    repeat' (first|apply Cv|refine Ct 0 Cr Aw ?_|refine CG 0 Cs ?_|refine CO 2 Cr Ax Ab ?_|refine Ct 3 Cr Af ?_|refine CG 3 Cs ?_|refine CG 4 Cs ?_|refine Ct 4 Cr Ae ?_|refine Ct 5 Cr Aq ?_|refine C2 (fun β=> ?_)|refine CT (fun β=> ?_)|refine CN ?_|refine Cu ?_|apply Cw|refine Cy ?_|refine CH ?_|apply Cz|refine CQ ?_)
    exact CS (CU (CR rfl rfl rfl rfl) (Cx rfl)) rfl
end Go.Proofs.YtcnmnmjmpocepaaGreatDoor.Kd
end
section
namespace Go.Proofs.YtcnmnmjmpocepaaGreatDoor.Kd
open Go.SL
attribute [local irreducible] SL.T Dw DG DE DI Et D0
structure Ins where
  op:Int
  a:Int
  b:Int
def CZ:List Ins->List Value
  | []=> []
  |x::l=>i64 x.op::i64 x.a::i64 x.b::CZ l
theorem Dc:∀(l:List Ins),(CZ l).length=l.length*3
  | []=>rfl
  |x::l=>by simp [CZ,Dc l];omega
theorem D9:∀ {l:List Ins} {j:Nat} {x:Ins},l[j]?=some x->(CZ l)[j*3]?=some (i64 x.op)/\(CZ l)[j*3+1]?=some (i64 x.a)/\(CZ l)[j*3+2]?=some (i64 x.b)
  | y::l,0,x,h=>by
    simp at h;subst h
    exact⟨rfl,rfl,rfl⟩
  | y::l,j+1,x,h=>by
    have ih:=D9 (l:=l) (j:=j) (x:=x) (by simpa using h);have e:(j+1)*3=j*3+1+1+1:=by omega
    refine⟨?_,?_,?_⟩
    · rw [e];exact ih.1
    · rw [e];exact ih.2.1
    · rw [e];exact ih.2.2
theorem QV(own:List CA)(b:Option Addr)(n c:Nat)(xs:List Int)(i v:Int) [Ds own b (xs.map i64)](h1:xs.length=n)(DO:n≤4000000)(h:0≤i/\i<n)(hv:xs[i.toNat]?=some v):
    Dw Tryz.prog 133 [.slice b n c,i64 i] own (.tuple #[i64 v,.bool true]):=by
  obtain⟨h2,h3⟩:=h;have hc:(xs.map i64)[i.toNat*1]?=some (i64 v):=by simp [hv]
  refine CL Tryz.func133 rfl (Nat.le_of_ble_eq_true rfl) fun F=> ?_
  repeat' (first|apply Cv|refine Ct 0 Cr Az ?_|refine CY 2 Cr Ar Ab ?_|refine Ct 3 Cr AK ?_|refine Ct 4 Cr Ae ?_|refine Cu ?_|apply Cw|refine Cy ?_|refine CF ?_|apply Cz|apply CB)
  refine CS (CU (Cx rfl) (Cx rfl)) ?_
  rfl
theorem Px(own:List CA)(b:Option Addr)(n c:Nat)(i:Int)(DO:n≤4000000)(h:¬(0≤i/\i<n)):
    Dw Tryz.prog 133 [.slice b n c,i64 i] own (.tuple #[i64 0,.bool false]):=by
  refine CL Tryz.func133 rfl (Nat.le_of_ble_eq_true rfl) fun F=> ?_
  repeat' (first|apply Cv|refine Ct 0 Cr Ay ?_|refine CG 0 Cs ?_|refine CG 2 Cs ?_|refine CO 2 Cr Ar Ab ?_|refine G5 2 Cr Aj (fun h=> ?_) (fun h=> ?_)|refine CG 4 Cs ?_|refine Ct 4 Cr Ae ?_|refine Cu ?_|apply Cw|refine Cy ?_|refine CH ?_|apply Cz|refine CQ ?_)
  all_goals first|(exfalso;omega)|exact CS (CU (Cx rfl) (Cx rfl)) rfl
theorem QW(own:List CA)(b:Option Addr)(n c:Nat)(xs:List Value)(i:Int)(v:Value) [Ds own b xs](h1:xs.length=n)(DO:n≤4000000)(h:0≤i/\i<n)(hv:xs[i.toNat]?=some v)(ho:v.oneCell'=true):
    Dw Tryz.prog 132 [.slice b n c,i64 i] own (.tuple #[.agg ⟨[v]⟩,.bool true]):=by
  obtain⟨h2,h3⟩:=h;have hc:xs[i.toNat*1]?=some v:=by simp [hv]
  have hl:i.toNat*1<xs.length:=by omega
  have jL: [v].all (·.oneCell')=true:=by simp [ho]
  have hcj:∀j w,[v][j]?=some w->xs[i.toNat*1+j]?=some w:=fun j w hj=>by
    match j,hj with
    |0,hj=>simp at hj;subst hj;exact hc
  refine CL Tryz.func132 rfl (Nat.le_of_ble_eq_true rfl) fun F=> ?_
  repeat' (first|refine CW rfl rfl rfl (I5 (vs:= [v]) rfl Aa (Nat.succ_pos 0) rfl hcj) ?_|refine PO rfl rfl rfl rfl rfl rfl Aa jL Aa ?_|apply Cv|refine Ct 0 Cr Az ?_|refine CY 2 Cr Ar Ab ?_|refine Ct 3 Cr BV ?_|refine Ct 4 Cr Ae ?_|refine CT (fun β=> ?_)|refine Cu ?_|apply Cw|refine Cy ?_|refine CF ?_|apply Cz|apply CB)
  exact CS (CU (CR rfl rfl rfl rfl) (Cx rfl)) rfl
theorem YP(own:List CA)(b:Option Addr)(n c:Nat)(i:Int)(DO:n≤4000000)(h:¬(0≤i/\i<n)):
    Dw Tryz.prog 132 [.slice b n c,i64 i] own (.tuple #[.agg ⟨[.slice none 0 0]⟩,.bool false]):=by
  refine CL Tryz.func132 rfl (Nat.le_of_ble_eq_true rfl) fun F=> ?_
  repeat' (first|apply Cv|refine Ct 0 Cr Ay ?_|refine CG 0 Cs ?_|refine CG 2 Cs ?_|refine CO 2 Cr Ar Ab ?_|refine G5 2 Cr Aj (fun h=> ?_) (fun h=> ?_)|refine Ct 3 Cr AA ?_|refine CG 4 Cs ?_|refine Ct 4 Cr Ae ?_|refine CT (fun β=> ?_)|refine CN ?_|refine Cu ?_|apply Cw|refine Cy ?_|refine CH ?_|apply Cz|refine CQ ?_)
  all_goals first|(exfalso;omega)|exact CS (CU (CR rfl rfl rfl rfl) (Cx rfl)) rfl
theorem QX(own:List CA)(b:Option Addr)(n c:Nat)(xs:List Ins)(i:Int)(x:Ins) [Ds own b (CZ xs)](h1:xs.length=n)(DO:n≤4000000)(h:0≤i/\i<n)(hv:xs[i.toNat]?=some x):
    Dw Tryz.prog 47 [.slice b n c,i64 i] own (.tuple #[.agg ⟨[i64 x.op,i64 x.a,i64 x.b]⟩,.bool true]):=by
  obtain⟨h2,h3⟩:=h;obtain⟨L9,L8,jZ⟩:=D9 hv;have hl:i.toNat*3<(CZ xs).length:=by rw [Dc];omega
  refine CL Tryz.func47 rfl (Nat.le_of_ble_eq_true rfl) fun F=> ?_
  repeat' (first|apply Cv|refine Ct 0 Cr Az ?_|refine CY 2 Cr Ar Ab ?_|refine Ct 3 Cr BM ?_|refine Ct 4 Cr Ae ?_|refine CT (fun β=> ?_)|refine CN ?_|refine Cu ?_|apply Cw|refine Cy ?_|refine CF ?_|apply Cz|apply CB)
  exact CS (CU (CR rfl rfl rfl rfl) (Cx rfl)) rfl
theorem Uf(own:List CA)(b:Option Addr)(n c:Nat)(i:Int)(DO:n≤4000000)(h:¬(0≤i/\i<n)):
    Dw Tryz.prog 47 [.slice b n c,i64 i] own (.tuple #[.agg ⟨[i64 0,i64 0,i64 0]⟩,.bool false]):=by
  refine CL Tryz.func47 rfl (Nat.le_of_ble_eq_true rfl) fun F=> ?_
  repeat' (first|apply Cv|refine Ct 0 Cr Ay ?_|refine CG 0 Cs ?_|refine CG 2 Cs ?_|refine CO 2 Cr Ar Ab ?_|refine G5 2 Cr Aj (fun h=> ?_) (fun h=> ?_)|refine Ct 3 Cr AA ?_|refine CG 4 Cs ?_|refine Ct 4 Cr Ae ?_|refine CT (fun β=> ?_)|refine CN ?_|refine Cu ?_|apply Cw|refine Cy ?_|refine CH ?_|apply Cz|refine CQ ?_)
  all_goals first|(exfalso;omega)|exact CS (CU (CR rfl rfl rfl rfl) (Cx rfl)) rfl
theorem Lr(own:List CA)(b:Option Addr)(n c:Nat)(xs:List Value)(i:Int)(v0 v1 v2 v3:Value) [Ds own b xs](h1:xs.length=n*4)(DO:n≤4000000)(h:0≤i/\i<n)
    (hv:xs[i.toNat*4]?=some v0/\xs[i.toNat*4+1]?=some v1/\xs[i.toNat*4+2]?=some v2/\xs[i.toNat*4+3]?=some v3) (ho: [v0,v1,v2,v3].all (·.oneCell')=true):
    Dw Tryz.prog 44 [.slice b n c,i64 i] own (.tuple #[.agg ⟨[v0,v1,v2,v3]⟩,.bool true]):=by
  obtain⟨h2,h3⟩:=h;obtain⟨L9,L8,jZ,p9⟩:=hv;have hl:i.toNat*4<xs.length:=by omega
  refine CL Tryz.func44 rfl (Nat.le_of_ble_eq_true rfl) fun F=> ?_
  repeat' (first|refine PO rfl rfl rfl rfl rfl rfl Aa ho Aa ?_|apply Cv|refine Ct 0 Cr Az ?_|refine CY 2 Cr Ar Ab ?_|refine Ct 3 Cr BN ?_|refine Ct 4 Cr Ae ?_|refine CT (fun β=> ?_)|refine Cu ?_|apply Cw|refine Cy ?_|refine CF ?_|apply Cz|apply CB)
  exact CS (CU (CR rfl rfl rfl rfl) (Cx rfl)) rfl
theorem YQ(own:List CA)(b:Option Addr)(n c:Nat)(i:Int)(DO:n≤4000000)(h:¬(0≤i/\i<n)):
    Dw Tryz.prog 44 [.slice b n c,i64 i] own (.tuple #[.agg ⟨[.slice none 0 0,i64 0,i64 0,.slice none 0 0]⟩,.bool false]):=by
  refine CL Tryz.func44 rfl (Nat.le_of_ble_eq_true rfl) fun F=> ?_
  repeat' (first|apply Cv|refine Ct 0 Cr Ay ?_|refine CG 0 Cs ?_|refine CG 2 Cs ?_|refine CO 2 Cr Ar Ab ?_|refine G5 2 Cr Aj (fun h=> ?_) (fun h=> ?_)|refine Ct 3 Cr AA ?_|refine CG 4 Cs ?_|refine Ct 4 Cr Ae ?_|refine CT (fun β=> ?_)|refine CN ?_|refine Cu ?_|apply Cw|refine Cy ?_|refine CH ?_|apply Cz|refine CQ ?_)
  all_goals first|(exfalso;omega)|exact CS (CU (CR rfl rfl rfl rfl) (Cx rfl)) rfl
theorem Fk(own:List CA)(v:Value):Dw Tryz.prog 46 [v] own v:=by
  refine CL Tryz.func46 rfl (Nat.le_of_ble_eq_true rfl) fun F=> ?_
  repeat' (first|apply Cv|refine Ct 0 Cr Ag ?_|refine Cu ?_|apply Cw|refine Cy ?_|apply Cz)
  refine CS (CD (Cx rfl)) ?_
  rfl
def II(a b:Int):Prop:=a=b∨b= -2∨b= -3/\0<a
instance (a b:Int):Decidable (II a b):=by unfold II;infer_instance
theorem MG(own:List CA)(a b:Int):Dw Tryz.prog 50 [i64 a,i64 b] own (.bool (decide (II a b))):=by
  refine CL Tryz.func50 rfl (Nat.le_of_ble_eq_true rfl) fun F=> ?_
  repeat' (first|apply Cv|refine Ct 0 Cr Ay ?_|refine CG 0 Cs ?_|refine CG 2 Cs ?_|refine G5 2 Cr Ba (fun h=> ?_) (fun h=> ?_)|refine Cu ?_|apply Cw|refine Cy ?_|apply Cz)
  all_goals
    refine CS (CD (Cx rfl)) ?_;refine congrArg Value.bool ?_
    symm
    first|exact decide_eq_true (by unfold II;omega)|exact decide_eq_false (by unfold II;omega)
end Go.Proofs.YtcnmnmjmpocepaaGreatDoor.Kd
end
section
namespace Go.Proofs.YtcnmnmjmpocepaaGreatDoor.Kd
open Go.SL
attribute [local irreducible] SL.T Dw DG DE DI Et D0
structure Me where
  params:List Int
  lo:Int
  st:Int
  code:List Ins
structure Im where
  cls:List (List Int)
  ms:List Me
def FY(K:CA)(cls:List (List Int))(b:Option Addr)(n:Nat):Prop:=
  ∃C9:List Value,Sl K b C9/\C9.length=n/\cls.length=n/\n≤4000000/\∀(i:Nat) (f:List Int),cls[i]?=some f->∃fb fn fc,C9[i]?=some (.slice fb fn fc)/\Sl K fb (f.map i64)/\f.length=fn/\fn≤4000000
def Hd(K:CA)(ms:List Me)(b:Option Addr)(n:Nat):Prop:=
  ∃ C9:List Value,Sl K b C9/\C9.length=n*4/\ms.length=n/\n≤4000000/\∀(i:Nat) (m:Me),ms[i]?=some m->∃pb pn pc cb cn cc,C9[i*4]?=some (.slice pb pn pc)/\C9[i*4+1]?=some (i64 m.lo)/\C9[i*4+2]?=some (i64 m.st)/\C9[i*4+3]?=some (.slice cb cn cc)/\
    Sl K pb (m.params.map i64)/\m.params.length=pn/\pn≤4000000/\Sl K cb (CZ m.code)/\m.code.length=cn/\cn≤4000000
theorem FY.mono{K K':CA}{cls:List (List Int)}{b:Option Addr}{n:Nat}(h:FY K cls b n)(l:hle K K'):FY K' cls b n:=by
  obtain⟨C9,h1,h2,h3,h4,h5⟩:=h;refine⟨C9,h1.mono l,h2,h3,h4,fun i f hf=> ?_⟩;obtain⟨fb,fn,fc,g1,g2,g3⟩:=h5 i f hf;exact⟨fb,fn,fc,g1,g2.mono l,g3⟩
theorem Hd.mono{K K':CA}{ms:List Me}{b:Option Addr}{n:Nat}(h:Hd K ms b n)(l:hle K K'):Hd K' ms b n:=by
  obtain⟨C9,h1,h2,h3,h4,h5⟩:=h;refine⟨C9,h1.mono l,h2,h3,h4,fun i f hf=> ?_⟩;obtain⟨pb,pn,pc,cb,cn,cc,g1,g2,g3,g4,g5,g6,g7,g8,g9⟩:=h5 i f hf;exact⟨pb,pn,pc,cb,cn,cc,g1,g2,g3,g4,g5.mono l,g6,g7,g8.mono l,g9⟩
structure Pl where
  op:Int
  a:Int
  b:Int
  Du:Option Addr
  Dr:Nat
  DP:Nat
  mb:Option Addr
  mn:Nat
  mc:Nat
  pb:Option Addr
  pn:Nat
  pc:Nat
  lo:Int
  st:Int
  cb:Option Addr
  cn:Nat
  cc:Nat
  lb:Option Addr
  ln:Nat
  lc:Nat
  sb:Option Addr
  sn:Nat
  sc:Nat
abbrev Pl.cells(p:Pl):List Value:= [i64 p.op,i64 p.a,i64 p.b,.slice p.Du p.Dr p.DP,.slice p.mb p.mn p.mc,.slice p.pb p.pn p.pc,i64 p.lo,i64 p.st,.slice p.cb p.cn p.cc,.slice p.lb p.ln p.lc,.slice p.sb p.sn p.sc]
structure Ls(K:CA)(p:Pl)(im:Im)(m:Me)(loc:List Int):Prop where
  cls:FY K im.cls p.Du p.Dr
  ms:Hd K im.ms p.mb p.mn
  code:Sl K p.cb (CZ m.code)
  cn:m.code.length=p.cn
  nA:p.cn≤4000000
  nV:Sl K p.lb (loc.map i64)
  ln:loc.length=p.ln
  lI:p.ln≤4000000
theorem Ls.mono{K K':CA}{p:Pl}{im:Im}{m:Me}{loc:List Int}(h:Ls K p im m loc)(l:hle K K'):Ls K' p im m loc:=
  ⟨h.cls.mono l,h.ms.mono l,h.code.mono l,h.cn,h.nA,h.nV.mono l,h.ln,h.lI⟩
abbrev up(a:Int):Int:=IntKind.i64.wrap (a+1)
def EZ{α:Type}(l:List α)(i:Int):Bool:=decide (0≤i/\i<l.length)
def DJ(im:Im)(a b:Int):Option Int:=if EZ im.cls b then match im.cls[b.toNat]? with
  |some f=>if EZ f a then f[a.toNat]? else none
  |none=>none else none
structure Row where
  is:Bool
  take:List Int
  put:List Int
abbrev WY(r:Bool)(tb:Option Addr)(tn tc:Nat)(pb:Option Addr)(pn pc:Nat):Value:= .agg ⟨[.bool r,.slice tb tn tc,.slice pb pn pc]⟩
def mM(r:Row)(K:CA)(e:Ending)(o:List CA):Prop:=
  ∃K',o= [K']/\hle K K'/\∃tb tn tc pb pn pc,e= .returned (WY r.is tb tn tc pb pn pc)/\Sl K' tb (r.take.map i64)/\Sl K' pb (r.put.map i64)/\r.take.length=tn/\r.put.length=pn
def KQ(f:FuncId)(args:List Value)(K:CA)(r:Row):Prop:=SL.T Tryz.prog f args [K] (mM r K)
theorem N2{f:FuncId}{args:List Value}{K:CA}{r:Row}(h:SL.T Tryz.prog f args [K] fun e o=>∃N,o=K::N/\∃tb tn tc pb pn pc,e= .returned (WY r.is tb tn tc pb pn pc)/\Ds (K::N) tb (r.take.map i64)/\Ds (K::N) pb (r.put.map i64)/\r.take.length=tn/\r.put.length=pn):KQ f args K r:=by
  refine(Gw (R:=fun e A N=>A= []/\∃N0,N=K::N0/\∃tb tn tc pb pn pc,e= .returned (WY r.is tb tn tc pb pn pc)/\Ds (K::N0) tb (r.take.map i64)/\Ds (K::N0) pb (r.put.map i64)/\r.take.length=tn/\r.put.length=pn) (h.mono ?_)).mono ?_
  · rintro e o ⟨N,rfl,h⟩;exact⟨[],K::N,by simp,rfl,N,rfl,h⟩
  · rintro e o ⟨A,N,K',rfl,hK,rfl,N0,rfl,tb,tn,tc,pb,pn,pc,h1,h2,h3,h4,h5⟩;exact⟨K',rfl,hK K Am,tb,tn,tc,pb,pn,pc,h1,h2.RO hK,h3.RO hK,h4,h5⟩
theorem UN{f:FuncId}{args:List Value}{K:CA}{r:Row}{tb:Option Addr}{tn tc:Nat}{pb:Option Addr}{pn pc:Nat}(h:Dw Tryz.prog f args [K] (WY r.is tb tn tc pb pn pc))(h2:Sl K tb (r.take.map i64))(h3:Sl K pb (r.put.map i64))(h4:r.take.length=tn)(h5:r.put.length=pn):KQ f args K r:=by
  refine h.T.mono ?_;rintro e o ⟨rfl,rfl⟩;exact⟨K,rfl,hle.refl _,tb,tn,tc,pb,pn,pc,rfl,h2,h3,h4,h5⟩
theorem HA{K:CA}{β:Nat}{l:List Value}{tt:TypeId}:Ds [K,CV β (.cells ⟨l⟩ tt (0,0))] (some ⟨β,0,none⟩) l:=⟨_,List.mem_cons_of_mem _ (List.mem_cons_self ..),Sl.CV⟩
theorem EG{K:CA}{N:List CA}:Ds (K::N) none []:=⟨K,List.mem_cons_self ..,Sl.none⟩
theorem E1(K:CA)(ET Ei:Nat)(tb:Option Addr)(tn tc:Nat)(pb:Option Addr)(pn pc:Nat)(take put:List Int) [i1:LO K ET (.cells ⟨[.slice tb tn tc]⟩ 57 (0,0))] [i2:LO K Ei (.cells ⟨[.slice pb pn pc]⟩ 57 (0,0))]
    (h2:Sl K tb (take.map i64)) (h3:Sl K pb (put.map i64)) (h4:take.length=tn) (h5:put.length=pn):
    KQ 78 [.pointer (some ⟨ET,0,none⟩),.pointer (some ⟨Ei,0,none⟩)] K ⟨true,take,put⟩:=by
  refine UN (r:=⟨true,take,put⟩) (tb:=tb) (tn:=tn) (tc:=tc) (pb:=pb) (pn:=pn) (pc:=pc) ?_ h2 h3 h4 h5;refine CL Tryz.func78 rfl (Nat.le_of_ble_eq_true rfl) fun F=> ?_
  repeat' (first|apply Cv|refine Ct 3 Cr AN ?_|refine Ct 5 Cr Aq ?_|refine CT (fun β=> ?_)|refine CN ?_|refine Cu ?_|apply Cw|refine Cy ?_|apply Cz)
  exact CS (CD (CR rfl rfl rfl rfl)) rfl
theorem Hq(K:CA)(DA ET:Nat)(p:Pl)(im:Im)(m:Me)(loc:List Int)(tb:Option Addr)(tn tc:Nat)(take:List Int) [i1:LO K DA (.cells ⟨p.cells⟩ 118 (0,0))] [i2:LO K ET (.cells ⟨[.slice tb tn tc]⟩ 57 (0,0))](ok:Ls K p im m loc)
    (h2:Sl K tb (take.map i64)) (h4:take.length=tn):
    KQ 80 [.pointer (some ⟨DA,0,none⟩),.pointer (some ⟨ET,0,none⟩)] K ⟨EZ m.code p.a,take,[]⟩:=by
  refine UN (r:=⟨EZ m.code p.a,take,[]⟩) (tb:=tb) (tn:=tn) (tc:=tc) (pb:=none) (pn:=0) (pc:=0) ?_ h2 Sl.none h4 rfl;haveI:=ok.code;have ZR:=ok.cn;have Oi:=ok.nA;by_cases h:0≤p.a/\p.a<p.cn
  · obtain⟨x,hx⟩:∃z,m.code[p.a.toNat]?=some z:=⟨_,List.getElem?_eq_getElem Ab⟩;have e:EZ m.code p.a=true:=decide_eq_true Ab;rw [e];refine CL Tryz.func80 rfl (Nat.le_of_ble_eq_true rfl) fun F=> ?_
    repeat' (first|apply Cv|refine Ct 0 Cr AC ?_|refine Ct 3 Cr Af ?_|refine Ct 4 Cr (CE rfl rfl rfl rfl rfl (QX [K] _ _ _ m.code _ x ok.cn ok.nA h hx)) ?_|refine Ct 5 Cr Aq ?_|refine CT (fun β=> ?_)|refine CN ?_|refine Cu ?_|apply Cw|refine Cy ?_|apply Cz)
    exact CS (CD (CR rfl rfl rfl rfl)) rfl
  · have e:EZ m.code p.a=false:=decide_eq_false Ab;rw [e];refine CL Tryz.func80 rfl (Nat.le_of_ble_eq_true rfl) fun F=> ?_
    repeat' (first|apply Cv|refine Ct 0 Cr AC ?_|refine Ct 3 Cr Af ?_|refine Ct 4 Cr (CE rfl rfl rfl rfl rfl (Uf [K] _ _ _ _ ok.nA h)) ?_|refine Ct 5 Cr Aq ?_|refine CT (fun β=> ?_)|refine CN ?_|refine Cu ?_|apply Cw|refine Cy ?_|apply Cz)
    exact CS (CD (CR rfl rfl rfl rfl)) rfl
theorem V3(K:CA)(p:Pl)(im:Im)(m:Me)(loc:List Int)(c:Int)(ok:Ls K p im m loc):Dw Tryz.prog 82 [.agg ⟨p.cells⟩,i64 c] [K] (.bool (EZ im.cls c)):=by
  obtain⟨C9,h1,h2,h3,h4,h5⟩:=ok.cls;haveI:=h1;by_cases h:0≤c/\c<p.Dr
  · obtain⟨x,hx⟩:∃z,im.cls[c.toNat]?=some z:=⟨_,List.getElem?_eq_getElem Ab⟩;obtain⟨fb,fn,fc,g1,g2,g3⟩:=h5 _ _ hx;have e:EZ im.cls c=true:=decide_eq_true Ab;rw [e];refine CL Tryz.func82 rfl (Nat.le_of_ble_eq_true rfl) fun F=> ?_
    repeat' (first|apply Cv|refine Ct 0 Cr AC ?_|refine Ct 3 Cr Af ?_|refine Ct 4 Cr (CE rfl rfl rfl rfl rfl (QW [K] _ _ _ C9 _ _ h2 h4 h g1 rfl)) ?_|refine C2 (fun β=> ?_)|refine CT (fun β=> ?_)|refine CN ?_|refine Cu ?_|apply Cw|refine Cy ?_|apply Cz)
    refine CS (CD (Cx rfl)) ?_
    rfl
  · have e:EZ im.cls c=false:=decide_eq_false Ab;rw [e];refine CL Tryz.func82 rfl (Nat.le_of_ble_eq_true rfl) fun F=> ?_
    repeat' (first|apply Cv|refine Ct 0 Cr AC ?_|refine Ct 3 Cr Af ?_|refine Ct 4 Cr (CE rfl rfl rfl rfl rfl (YP [K] _ _ _ _ h4 h)) ?_|refine C2 (fun β=> ?_)|refine CT (fun β=> ?_)|refine CN ?_|refine Cu ?_|apply Cw|refine Cy ?_|apply Cz)
    refine CS (CD (Cx rfl)) ?_
    rfl
theorem OV(K:CA)(p:Pl)(im:Im)(m:Me)(loc:List Int)(ok:Ls K p im m loc):Dw Tryz.prog 134 [.agg ⟨p.cells⟩] [K] (.tuple #[i64 ((DJ im p.a p.b).getD 0),.bool (DJ im p.a p.b).isSome]):=by
  obtain⟨C9,h1,h2,h3,h4,h5⟩:=ok.cls;haveI:=h1;by_cases h:0≤p.b/\p.b<p.Dr
  · obtain⟨x,hx⟩:∃z,im.cls[p.b.toNat]?=some z:=⟨_,List.getElem?_eq_getElem Ab⟩;obtain⟨fb,fn,fc,g1,g2,g3,g4⟩:=h5 _ _ hx;have e:EZ im.cls p.b=true:=decide_eq_true Ab;haveI:=g2;by_cases ha:0≤p.a/\p.a<fn
    · obtain⟨v,hv⟩:∃z,x[p.a.toNat]?=some z:=⟨_,List.getElem?_eq_getElem Ab⟩;have e2:EZ x p.a=true:=decide_eq_true Ab;have e3:DJ im p.a p.b=some v:=by simp [DJ,e,hx,e2,hv]
      rw [e3];refine CL Tryz.func134 rfl (Nat.le_of_ble_eq_true rfl) fun F=> ?_
      repeat' (first|apply Cv|refine Ct 0 Cr AC ?_|refine Ct 3 Cr Af ?_|refine Ct 4 Cr (CE rfl rfl rfl rfl rfl (QW [K] _ _ _ C9 _ _ h2 h4 h g1 rfl)) ?_|refine Ct 4 Cr (CE rfl rfl rfl rfl rfl (QV [K] _ _ _ x _ _ g3 g4 ha hv)) ?_|refine C2 (fun β=> ?_)|refine CT (fun β=> ?_)|refine CN ?_|refine Cu ?_|apply Cw|refine Cy ?_|apply Cz)
      refine CS (CU (Cx rfl) (Cx rfl)) ?_
      rfl
    · have e2:EZ x p.a=false:=decide_eq_false Ab;have e3:DJ im p.a p.b=none:=by simp [DJ,e,hx,e2]
      rw [e3];refine CL Tryz.func134 rfl (Nat.le_of_ble_eq_true rfl) fun F=> ?_
      repeat' (first|apply Cv|refine Ct 0 Cr AC ?_|refine Ct 3 Cr Af ?_|refine Ct 4 Cr (CE rfl rfl rfl rfl rfl (QW [K] _ _ _ C9 _ _ h2 h4 h g1 rfl)) ?_|refine Ct 4 Cr (CE rfl rfl rfl rfl rfl (Px [K] _ _ _ _ g4 ha)) ?_|refine C2 (fun β=> ?_)|refine CT (fun β=> ?_)|refine CN ?_|refine Cu ?_|apply Cw|refine Cy ?_|apply Cz)
      refine CS (CU (Cx rfl) (Cx rfl)) ?_
      rfl
  · have e:EZ im.cls p.b=false:=decide_eq_false Ab;have e3:DJ im p.a p.b=none:=by simp [DJ,e]
    rw [e3];have h0:¬(0≤p.a/\p.a<((0:Nat):Int)):=by omega
    refine CL Tryz.func134 rfl (Nat.le_of_ble_eq_true rfl) fun F=> ?_
    repeat' (first|apply Cv|refine Ct 0 Cr AC ?_|refine Ct 3 Cr Af ?_|refine Ct 4 Cr (CE rfl rfl rfl rfl rfl (YP [K] _ _ _ _ h4 h)) ?_|refine Ct 4 Cr (CE rfl rfl rfl rfl rfl (Px [K] _ 0 _ _ Ab h0)) ?_|refine C2 (fun β=> ?_)|refine CT (fun β=> ?_)|refine CN ?_|refine Cu ?_|apply Cw|refine Cy ?_|apply Cz)
    refine CS (CU (Cx rfl) (Cx rfl)) ?_
    rfl
theorem Qf(K:CA)(DA:Nat)(p:Pl)(im:Im)(m:Me)(loc:List Int) [i1:LO K DA (.cells ⟨p.cells⟩ 118 (0,0))](ok:Ls K p im m loc):
    KQ 81 [.pointer (some ⟨DA,0,none⟩)] K ⟨EZ im.cls p.a,[],[up p.a]⟩:=by
  refine N2 ?_;refine CM Tryz.func81 rfl (Nat.le_of_ble_eq_true rfl) fun F=> ?_
  repeat' (first|apply Cv|refine CT (fun β=> ?_)|refine Cu ?_|apply Cw)
  refine C0 [.q [0,1,2,3,5,6,7,8],.an 9,.h false 4,.rv 9,.h false 10,.q [11],.h true 12] [] Ac Ac Ac Ac ?_
  repeat' (first|refine Ct 1 Cr BW ?_|refine Ct 3 Cr AE ?_|refine Ct 5 Cr Aq ?_|refine C5 ?_|refine Dd rfl ?_|refine Dn rfl rfl AU ?_|refine DN rfl rfl rfl (fun β=> ?_)|refine Df rfl rfl rfl rfl rfl rfl Aa rfl Aa Aa ?_|refine IJ rfl rfl rfl rfl rfl rfl rfl rfl (V3 K p im m loc _ ok) rfl ?_|refine IJ rfl rfl rfl rfl rfl rfl rfl rfl (Fk [K] _) rfl ?_|apply Cw|refine Cy ?_|apply Cz)
  exact CJ [K,CV β (.cells ⟨[i64 (up p.a)]⟩ 79 (0,0))] (CD (CR rfl rfl rfl rfl)) ⟨[CV β (.cells ⟨[i64 (up p.a)]⟩ 79 (0,0))],rfl,none,0,0,some ⟨β,0,none⟩,1,1,rfl,EG,HA,rfl,rfl⟩
theorem Xj(K:CA)(p:Pl)(im:Im)(m:Me)(loc:List Int)(ok:Ls K p im m loc):
    KQ 83 [.agg ⟨p.cells⟩] K ⟨EZ loc p.a,[],[if EZ loc p.a then loc.getD p.a.toNat 0 else 0]⟩:=by
  have Ww:=ok.ln;haveI:=ok.nV;refine N2 ?_;by_cases h:0≤p.a/\p.a<p.ln
  · obtain⟨v,hv⟩:∃z,loc[p.a.toNat]?=some z:=⟨_,List.getElem?_eq_getElem Ab⟩;have e:EZ loc p.a=true:=decide_eq_true Ab;have e2:loc.getD p.a.toNat 0=v:=by simp [List.getD,hv]
    simp only [e,e2,if_true];refine CM Tryz.func83 rfl (Nat.le_of_ble_eq_true rfl) fun F=> ?_
    repeat' (first|apply Cv|refine Ct 0 Cr AC ?_|refine Ct 3 Cr Af ?_|refine Ct 4 Cr (CE rfl rfl rfl rfl rfl (QV [K] _ _ _ loc _ _ ok.ln ok.lI h hv)) ?_|refine Ct 4 Cr (CE rfl rfl rfl rfl rfl (Fk [K] _)) ?_|refine Ct 5 Cr Aq ?_|refine CP (fun b=> ?_)|refine C2 (fun β=> ?_)|refine CT (fun β=> ?_)|refine CN ?_|refine Cu ?_|apply Cw|refine Cy ?_|apply Cz)
    exact CJ [K,CV b (.cells ⟨[i64 v]⟩ 79 (0,0))] (CD (CR rfl rfl rfl rfl)) ⟨[CV b (.cells ⟨[i64 v]⟩ 79 (0,0))],rfl,none,0,0,some ⟨b,0,none⟩,1,1,rfl,EG,HA,rfl,rfl⟩
  · have e:EZ loc p.a=false:=decide_eq_false Ab;simp only [e];refine CM Tryz.func83 rfl (Nat.le_of_ble_eq_true rfl) fun F=> ?_
    repeat' (first|apply Cv|refine Ct 0 Cr AC ?_|refine Ct 3 Cr Af ?_|refine Ct 4 Cr (CE rfl rfl rfl rfl rfl (Px [K] _ _ _ _ ok.lI h)) ?_|refine Ct 4 Cr (CE rfl rfl rfl rfl rfl (Fk [K] _)) ?_|refine Ct 5 Cr Aq ?_|refine CP (fun b=> ?_)|refine C2 (fun β=> ?_)|refine CT (fun β=> ?_)|refine CN ?_|refine Cu ?_|apply Cw|refine Cy ?_|apply Cz)
    exact CJ [K,CV b (.cells ⟨[i64 0]⟩ 79 (0,0))] (CD (CR rfl rfl rfl rfl)) ⟨[CV b (.cells ⟨[i64 0]⟩ 79 (0,0))],rfl,none,0,0,some ⟨b,0,none⟩,1,1,rfl,EG,HA,rfl,rfl⟩
theorem Uu(K:CA)(p:Pl)(im:Im)(m:Me)(loc:List Int)(ok:Ls K p im m loc):
    KQ 84 [.agg ⟨p.cells⟩] K ⟨EZ loc p.a,[-2],[]⟩:=by
  have Ww:=ok.ln;haveI:=ok.nV;refine N2 ?_;by_cases h:0≤p.a/\p.a<p.ln
  · obtain⟨v,hv⟩:∃z,loc[p.a.toNat]?=some z:=⟨_,List.getElem?_eq_getElem Ab⟩;have e:EZ loc p.a=true:=decide_eq_true Ab;simp only [e];refine CM Tryz.func84 rfl (Nat.le_of_ble_eq_true rfl) fun F=> ?_
    repeat' (first|apply Cv|refine Ct 0 Cr AC ?_|refine Ct 3 Cr Af ?_|refine Ct 4 Cr (CE rfl rfl rfl rfl rfl (QV [K] _ _ _ loc _ _ ok.ln ok.lI h hv)) ?_|refine Ct 4 Cr (CE rfl rfl rfl rfl rfl (Fk [K] _)) ?_|refine Ct 5 Cr Aq ?_|refine CP (fun b=> ?_)|refine C2 (fun β=> ?_)|refine CT (fun β=> ?_)|refine CN ?_|refine Cu ?_|apply Cw|refine Cy ?_|apply Cz)
    exact CJ [K,CV b (.cells ⟨[i64 (-2)]⟩ 79 (0,0))] (CD (CR rfl rfl rfl rfl)) ⟨[CV b (.cells ⟨[i64 (-2)]⟩ 79 (0,0))],rfl,some ⟨b,0,none⟩,1,1,none,0,0,rfl,HA,EG,rfl,rfl⟩
  · have e:EZ loc p.a=false:=decide_eq_false Ab;simp only [e];refine CM Tryz.func84 rfl (Nat.le_of_ble_eq_true rfl) fun F=> ?_
    repeat' (first|apply Cv|refine Ct 0 Cr AC ?_|refine Ct 3 Cr Af ?_|refine Ct 4 Cr (CE rfl rfl rfl rfl rfl (Px [K] _ _ _ _ ok.lI h)) ?_|refine Ct 4 Cr (CE rfl rfl rfl rfl rfl (Fk [K] _)) ?_|refine Ct 5 Cr Aq ?_|refine CP (fun b=> ?_)|refine C2 (fun β=> ?_)|refine CT (fun β=> ?_)|refine CN ?_|refine Cu ?_|apply Cw|refine Cy ?_|apply Cz)
    exact CJ [K,CV b (.cells ⟨[i64 (-2)]⟩ 79 (0,0))] (CD (CR rfl rfl rfl rfl)) ⟨[CV b (.cells ⟨[i64 (-2)]⟩ 79 (0,0))],rfl,some ⟨b,0,none⟩,1,1,none,0,0,rfl,HA,EG,rfl,rfl⟩
theorem ZX(K:CA)(p:Pl)(im:Im)(m:Me)(loc:List Int)(ok:Ls K p im m loc):
    KQ 85 [.agg ⟨p.cells⟩] K ⟨(DJ im p.a p.b).isSome,[up p.b],[(DJ im p.a p.b).getD 0]⟩:=by
  refine N2 ?_;refine CM Tryz.func85 rfl (Nat.le_of_ble_eq_true rfl) fun F=> ?_
  repeat' (first|apply Cv|refine Ct 0 Cr AC ?_|refine Ct 1 Cr BW ?_|refine Ct 3 Cr AE ?_|refine Ct 4 Cr (CE rfl rfl rfl rfl rfl (OV K p im m loc ok)) ?_|refine Ct 4 Cr (CE rfl rfl rfl rfl rfl (Fk [K] _)) ?_|refine Ct 5 Cr Aq ?_|refine CP (fun b=> ?_)|refine C2 (fun β=> ?_)|refine CT (fun β=> ?_)|refine CN ?_|refine Cu ?_|apply Cw|refine Cy ?_|apply Cz)
  rename_i b1
  exact CJ [K,CV b1 (.cells ⟨[i64 (up p.b)]⟩ 79 (0,0)),CV b (.cells ⟨[i64 ((DJ im p.a p.b).getD 0)]⟩ 79 (0,0))] (CD (CR rfl rfl rfl rfl)) ⟨[_,_],rfl,some ⟨b1,0,none⟩,1,1,some ⟨b,0,none⟩,1,1,rfl,Ds.tail (t:=Ds.head),Ds.tail (t:=Ds.tail (t:=Ds.head)),rfl,rfl⟩
theorem Fa(K:CA)(p:Pl)(im:Im)(m:Me)(loc:List Int)(ok:Ls K p im m loc):
    KQ 86 [.agg ⟨p.cells⟩] K ⟨(DJ im p.a p.b).isSome,[up p.b,(DJ im p.a p.b).getD 0],[]⟩:=by
  refine N2 ?_;refine CM Tryz.func86 rfl (Nat.le_of_ble_eq_true rfl) fun F=> ?_
  repeat' (first|apply Cv|refine Ct 0 Cr AC ?_|refine Ct 1 Cr BW ?_|refine Ct 3 Cr AE ?_|refine Ct 4 Cr (CE rfl rfl rfl rfl rfl (OV K p im m loc ok)) ?_|refine Ct 4 Cr (CE rfl rfl rfl rfl rfl (Fk [K] _)) ?_|refine Ct 5 Cr Aq ?_|refine CP (fun b=> ?_)|refine C2 (fun β=> ?_)|refine CT (fun β=> ?_)|refine CN ?_|refine Cu ?_|apply Cw|refine Cy ?_|apply Cz)
  exact CJ [K,CV b (.cells ⟨[i64 (up p.b),i64 ((DJ im p.a p.b).getD 0)]⟩ 79 (0,0))] (CD (CR rfl rfl rfl rfl)) ⟨[_],rfl,some ⟨b,0,none⟩,2,2,none,0,0,rfl,HA,EG,rfl,rfl⟩
def EM(im:Im)(a:Int):Option (List Int):=if EZ im.ms a then(im.ms[a.toNat]?).map (·.params) else none
theorem QQ(K:CA)(p:Pl)(im:Im)(m:Me)(loc:List Int)(ok:Ls K p im m loc):
    KQ 87 [.agg ⟨p.cells⟩] K ⟨(EM im p.a).isSome,(EM im p.a).getD [],[0]⟩:=by
  obtain⟨C9,h1,h2,h3,h4,h5⟩:=ok.ms;haveI:=h1;refine N2 ?_;by_cases h:0≤p.a/\p.a<p.mn
  · obtain⟨x,hx⟩:∃z,im.ms[p.a.toNat]?=some z:=⟨_,List.getElem?_eq_getElem Ab⟩;obtain⟨pb,pn,pc,cb,cn,cc,g1,g2,g3,g4,g5,g6,g7,g8,g9⟩:=h5 _ _ hx;have e:EM im p.a=some x.params:=by simp [EM,EZ,hx];omega
    simp only [e];refine CM Tryz.func87 rfl (Nat.le_of_ble_eq_true rfl) fun F=> ?_
    repeat' (first|apply Cv|refine Ct 0 Cr AC ?_|refine Ct 3 Cr Af ?_|refine Ct 4 Cr (CE rfl rfl rfl rfl rfl (Lr [K] _ _ _ C9 _ _ _ _ _ h2 h4 h ⟨g1,g2,g3,g4⟩ rfl)) ?_|refine C2 (fun β=> ?_)|refine CT (fun β=> ?_)|refine CN ?_|refine Cu ?_|apply Cw)
    refine C0 [.q [0,1,2],.an 3,.rv 3,.h false 4,.q [5],.h true 6] [] Ac Ac Ac Ac ?_
    repeat' (first|refine Ct 0 Cr Ap ?_|refine Ct 3 Cr Af ?_|refine Ct 5 Cr Aq ?_|refine C5 ?_|refine Dd rfl ?_|refine Dn rfl rfl AU ?_|refine DN rfl rfl rfl (fun β=> ?_)|refine Df rfl rfl rfl rfl rfl rfl Aa rfl Aa Aa ?_|refine IJ rfl rfl rfl rfl rfl rfl rfl rfl (Fk [K] _) rfl ?_|apply Cw|refine Cy ?_|apply Cz)
    exact CJ [K,CV β (.cells ⟨[i64 0]⟩ 79 (0,0))] (CD (CR rfl rfl rfl rfl)) ⟨[_],rfl,pb,pn,pc,some ⟨β,0,none⟩,1,1,rfl,⟨K,List.mem_cons_self ..,g5⟩,HA,g6,rfl⟩
  · have e:EM im p.a=none:=by simp [EM,EZ];omega
    simp only [e];refine CM Tryz.func87 rfl (Nat.le_of_ble_eq_true rfl) fun F=> ?_
    repeat' (first|apply Cv|refine Ct 0 Cr AC ?_|refine Ct 3 Cr Af ?_|refine Ct 4 Cr (CE rfl rfl rfl rfl rfl (YQ [K] _ _ _ _ h4 h)) ?_|refine C2 (fun β=> ?_)|refine CT (fun β=> ?_)|refine CN ?_|refine Cu ?_|apply Cw)
    refine C0 [.q [0,1,2],.an 3,.rv 3,.h false 4,.q [5],.h true 6] [] Ac Ac Ac Ac ?_
    repeat' (first|refine Ct 0 Cr Ap ?_|refine Ct 3 Cr Af ?_|refine Ct 5 Cr Aq ?_|refine C5 ?_|refine Dd rfl ?_|refine Dn rfl rfl AU ?_|refine DN rfl rfl rfl (fun β=> ?_)|refine Df rfl rfl rfl rfl rfl rfl Aa rfl Aa Aa ?_|refine IJ rfl rfl rfl rfl rfl rfl rfl rfl (Fk [K] _) rfl ?_|apply Cw|refine Cy ?_|apply Cz)
    exact CJ [K,CV β (.cells ⟨[i64 0]⟩ 79 (0,0))] (CD (CR rfl rfl rfl rfl)) ⟨[_],rfl,none,0,0,some ⟨β,0,none⟩,1,1,rfl,EG,HA,rfl,rfl⟩
end Go.Proofs.YtcnmnmjmpocepaaGreatDoor.Kd
end
