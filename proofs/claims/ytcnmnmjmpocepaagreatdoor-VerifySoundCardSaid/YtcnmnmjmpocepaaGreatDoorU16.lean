
import Derived.Test.YtcnmnmjmpocepaaGreatDoorU00
import Derived.Test.YtcnmnmjmpocepaaGreatDoorU11
import Derived.Test.YtcnmnmjmpocepaaGreatDoorU07
import Derived.Test.YtcnmnmjmpocepaaGreatDoorU13
import Derived.Test.YtcnmnmjmpocepaaGreatDoorU09
set_option linter.unusedVariables false
set_option linter.unusedSimpArgs false
set_option linter.unusedSectionVars false
set_option maxRecDepth 100000
set_option maxHeartbeats 16000000
section
namespace Go.Proofs.YtcnmnmjmpocepaaGreatDoor.Kd
open Go.SL
attribute [local irreducible] T C7 Dc C6 Db DS Du
abbrev i64(a:Int):Value:= .int .i64 a
theorem Oe(l:List Int):(l.map i64).all (·.oneCell')=true:=by
  rw [List.all_map,List.all_eq_true];intro x _;rfl
theorem Gq(own:List B6)(b1 b2:Option Addr)(n1 n2 c1 c2:Nat)(xs ys:List Int) [C0 own b1 (xs.map i64)] [C0 own b2 (ys.map i64)](h1:xs.length=n1)(h2:ys.length=n2)(DE:n1≤9223372036854775807):
    C7 Tryz.prog 162 [.slice b1 n1 c1,.slice b2 n2 c2] own (.bool (decide (xs=ys))):=by
  refine Ci Tryz.func162 rfl (Nat.le_of_ble_eq_true rfl) fun F=> ?_
  by_cases hn:n1=n2
  · subst hn
    repeat' (first|apply B4|refine B3 0 BY Af ?_|refine CE 2 BY Av Ab ?_|refine B3 4 BY Ag ?_|refine B0 ?_|apply B5|refine B8 ?_|refine Cg ?_|refine Cf ?_|apply Cc)
    refine CH (fun j:Nat=> [(0,.slice b1 n1 c1),(1,.slice b2 n1 c2),(12,i64 (n1:Int)),(13,i64 (j:Int))])
      (fun _=>own) (fun j=>j≤n1/\xs.take j=ys.take j) (fun j=>n1 - j) 0 (by repeat first|exact Sub.nil _|refine Sub.cons rfl ?_) ⟨Nat.zero_le _,rfl⟩ ?_
    rintro j ⟨Pm,Gs⟩;by_cases hj:j<n1
    · obtain⟨x,hx⟩:∃z,xs[j]?=some z:=⟨_,List.getElem?_eq_getElem Ab⟩;obtain⟨y,hy⟩:∃z,ys[j]?=some z:=⟨_,List.getElem?_eq_getElem Ab⟩;have hcx:(xs.map i64)[((j:Nat):Int).toNat*1]?=some (i64 x):=by simp [hx]
      have hcy:(ys.map i64)[((j:Nat):Int).toNat*1]?=some (i64 y):=by simp [hy]
      by_cases Ju:x=y
      · subst Ju
        repeat' (first|apply B4|refine B3 0 BY Af ?_|refine B3 1 BY Ap ?_|refine Cs 2 BY A5 Ab ?_|refine CE 2 BY Av Ab ?_|refine B3 3 BY AE ?_|refine B0 ?_|refine C5 Ac Ac rfl ?_|apply B5|refine B8 ?_|refine Cl ?_|refine Cg ?_|refine Cf ?_|apply Cc)
        refine⟨rfl,j+1,CA (by repeat first|exact Sub.nil _|refine Sub.cons rfl ?_),⟨by omega,?_⟩,by omega⟩;rw [List.take_add_one,List.take_add_one,hx,hy,Gs]
      · repeat' (first|apply B4|refine B3 0 BY Af ?_|refine Cs 2 BY A5 Ab ?_|refine B3 3 BY AE ?_|refine B0 ?_|refine C5 Ac Ac rfl ?_|apply B5|refine B8 ?_|refine Cl ?_|refine Cf ?_|apply Cb|apply Cc|refine Cx ?_|refine Dd ?_)
        refine Cr (Ce (B7 rfl)) ?_;refine congrArg Value.bool (decide_eq_false fun e=>Ju ?_).symm;rw [e,hy] at hx;cases hx;rfl
    · repeat' (first|apply B4|refine B3 0 BY Au ?_|refine CE 2 BY Aj Ab ?_|refine B0 ?_|apply B5|refine B8 ?_|refine Cg ?_|apply Cb|refine CC ?_)
      refine Cr (Ce (B7 rfl)) ?_;rw [List.take_of_length_le Ab,List.take_of_length_le Ab] at Gs
      rw [decide_eq_true Gs]
  · repeat' (first|apply B4|refine B3 0 BY Af ?_|refine Cs 2 BY Av Ab ?_|refine B3 4 BY Ag ?_|refine B0 ?_|apply B5|refine B8 ?_|refine Cl ?_|apply Cb|refine Cx ?_)
    refine Cr (Ce (B7 rfl)) ?_;refine congrArg Value.bool (decide_eq_false fun e=>hn ?_).symm;rw [<-h1,<-h2,e]
theorem G8(own:List B6)(b:Option Addr)(n c:Nat)(xs:List Int)(v:Int) [C0 own b (xs.map i64)](h1:xs.length=n)(DE:n≤9223372036854775807):
    C7 Tryz.prog 88 [.slice b n c,i64 v] own (i64 (if v∈xs then(xs.idxOf v:Int) else -1)):=by
  refine Ci Tryz.func88 rfl (Nat.le_of_ble_eq_true rfl) fun F=> ?_
  repeat' (first|apply B4|refine B3 0 BY Af ?_|refine B3 4 BY Ag ?_|refine B0 ?_|apply B5|refine B8 ?_|refine Cf ?_)
  refine CH (fun j:Nat=> [(0,.slice b n c),(1,i64 v),(7,i64 (n:Int)),(8,i64 (j:Int))])
    (fun _=>own) (fun j=>j≤n/\v∉xs.take j) (fun j=>n - j) 0 (by repeat first|exact Sub.nil _|refine Sub.cons rfl ?_) ⟨Nat.zero_le _,by simp⟩ ?_
  rintro j ⟨Pm,Gs⟩;by_cases hj:j<n
  · obtain⟨x,hx⟩:∃z,xs[j]?=some z:=⟨_,List.getElem?_eq_getElem Ab⟩;have hcx:(xs.map i64)[((j:Nat):Int).toNat*1]?=some (i64 x):=by simp [hx]
    by_cases Ju:v=x
    · subst Ju
      repeat' (first|apply B4|refine B3 0 BY Af ?_|refine Cs 2 BY AN Ab ?_|refine B3 3 BY AE ?_|refine B0 ?_|apply B5|refine B8 ?_|refine Cl ?_|refine Cf ?_|apply Cb|apply Cc|refine Cx ?_|refine Dd ?_)
      refine Cr (Ce (B7 rfl)) ?_;have hi:xs.idxOf v=j:=by
        obtain⟨hl,he⟩:=List.getElem?_eq_some_iff.1 hx;rw [<-List.take_append_drop j xs,List.idxOf_append,if_neg Gs,List.length_take,List.drop_eq_getElem_cons hl,he,List.idxOf_cons_self];omega
      rw [if_pos (List.mem_of_getElem? hx),hi]
    · repeat' (first|apply B4|refine B3 0 BY Af ?_|refine B3 1 BY Ap ?_|refine Cs 2 BY AN Ab ?_|refine CE 2 BY Ao Ab ?_|refine B3 3 BY AE ?_|refine B0 ?_|apply B5|refine B8 ?_|refine Cl ?_|refine Cg ?_|refine Cf ?_|apply Cc)
      refine⟨rfl,j+1,CA (by repeat first|exact Sub.nil _|refine Sub.cons rfl ?_),⟨by omega,?_⟩,by omega⟩;rw [List.take_add_one,hx];simp [Gs,Ju]
  · repeat' (first|apply B4|refine B3 0 BY Au ?_|refine CE 2 BY Aj Ab ?_|refine B0 ?_|apply B5|refine B8 ?_|refine Cg ?_|apply Cb|refine CC ?_)
    refine Cr (Ce (B7 rfl)) ?_;rw [List.take_of_length_le Ab] at Gs
    rw [if_neg Gs]
theorem EF(own:List B6)(b:Option Addr)(n c:Nat)(xs:List Int)(v:Int) [C0 own b (xs.map i64)](h1:xs.length=n)(DE:n≤9223372036854775807):
    C7 Tryz.prog 51 [.slice b n c,i64 v] own (.bool (decide (v∈xs))):=by
  refine Ci Tryz.func51 rfl (Nat.le_of_ble_eq_true rfl) fun F=> ?_
  by_cases hv:v∈xs
  · have hc:=G8 own b n c xs v h1 DE;rw [if_pos hv] at hc
    repeat' (first|apply B4|refine B3 0 BY Af ?_|refine Cs 2 BY AC Ab ?_|refine B3 4 BY (Ca rfl rfl rfl rfl rfl (hc)) ?_|refine B0 ?_|apply B5|refine B8 ?_|apply Cb)
    refine Cr (Ce (B7 rfl)) ?_;rw [decide_eq_true hv]
  · have hc:=G8 own b n c xs v h1 DE;rw [if_neg hv] at hc
    repeat' (first|apply B4|refine B3 0 BY Af ?_|refine CE 2 BY AC Ab ?_|refine B3 4 BY (Ca rfl rfl rfl rfl rfl (hc)) ?_|refine B0 ?_|apply B5|refine B8 ?_|apply Cb)
    refine Cr (Ce (B7 rfl)) ?_;rw [decide_eq_false hv]
end Go.Proofs.YtcnmnmjmpocepaaGreatDoor.Kd
end
section
namespace Go.Proofs.YtcnmnmjmpocepaaGreatDoor.Kd
open Go.SL
attribute [local irreducible] T C7 Dc C6 Db DS Du
theorem Tv(S:B6)(base:Option Addr)(len cap:Nat)(zs:List Int) [Sl S base (zs.map i64)](hlen:zs.length=len)(DE:len≤4000000):
    T Tryz.prog 52 [.slice base len cap] [S] fun e own'=>∃h b c,e= .returned (.slice b len c)/\own'= [S,h]/\OS h b len c 79 1 (zs.map i64):=by
  refine Ch Tryz.func52 rfl (Nat.le_of_ble_eq_true rfl) fun F=> ?_
  cases base with
  | none=>
    have h0:len=0:=by
      rcases Nat.eq_zero_or_pos len with h|h
      · exact h
      · exfalso;obtain⟨a,_,_,_,e,_⟩:= ‹Sl S none (zs.map i64)›.cell 0 (i64 (zs[0]'Ab)) Ak;cases e
    subst h0;obtain rfl:zs= []:=List.length_eq_zero_iff.1 hlen;refine DY ?_
    repeat' (first|apply B4|refine B3 0 BY Af ?_|refine B3 2 BY (JT rfl rfl) ?_|refine B0 ?_|apply B5|refine B8 ?_|refine Cl ?_|apply Cb|refine Cx ?_)
    exact Gd [S,emp] (Ce (B7 rfl)) (fun F w s=>s.perm ((List.Perm.swap _ _ _).cons F)) ⟨emp,none,0,rfl,rfl,OS.nil⟩
  | some a=>
    repeat' (first|apply B4|refine B3 0 BY Af ?_|refine B3 2 BY (JT rfl rfl) ?_|refine Cm (fun b=> ?_)|refine B0 ?_|apply B5|refine B8 ?_|refine Cg ?_|apply Cc)
    refine Ff rfl rfl rfl rfl rfl rfl rfl rfl rfl (OS.Co (len:=0) (sz:=1) (cs:= []) rfl) (by simp [hlen]) Ae (Oe _) Ab Ab (fun h' b' c' HT TE=> ?_);rw [Nat.zero_add] at HT ⊢
    repeat' (first|refine B3 0 BY Au ?_|apply B5|refine B8 ?_|apply Cb)
    exact Gd [S,h'] (Ce (B7 rfl)) (fun F w s=>s.perm ((List.Perm.swap _ _ _).cons F)) ⟨h',b',c',rfl,rfl,HT⟩
abbrev fr(a b:Option Addr)(n m c d:Nat):Value:= .agg ⟨[.slice a n c,.slice b m d]⟩
abbrev Kk:Value:=fr none none 0 0 0 0
theorem LZ(own:List B6)(base:Option Addr)(len cap:Nat)(zs:List Int) [s:C0 own base (zs.map i64)](hlen:zs.length=len)(DE:len≤4000000):
    T Tryz.prog 52 [.slice base len cap] own fun e o=>∃N,o=own++N/\∃h b c,e= .returned (.slice b len c)/\N= [h]/\OS h b len c 79 1 (zs.map i64):=
  J7 fun J hJ=>by
    haveI:=s.all hJ;refine(Tv J base len cap zs hlen DE).mono ?_;rintro e o ⟨h,b,c,h1,rfl,h3⟩;exact⟨[h],rfl,h,b,c,h1,rfl,h3⟩
theorem UT(own:List B6)(a b a' b':Option Addr)(n m n' m' c d c' d':Nat)(xs ys HR J9:List Int) [C0 own a (xs.map i64)] [C0 own b (ys.map i64)] [C0 own a' (HR.map i64)] [C0 own b' (J9.map i64)]
    (h1:xs.length=n) (h2:ys.length=m) (h3:HR.length=n') (h4:J9.length=m') (DE:n≤4000000) (Pk:m≤4000000):
    C7 Tryz.prog 120 [fr a b n m c d,fr a' b' n' m' c' d'] own (.bool (decide (xs=HR/\ys=J9))):=by
  refine LW fun J hJ=> ?_
  haveI:=C0.all ‹C0 own a _› hJ;haveI:=C0.all ‹C0 own b _› hJ;haveI:=C0.all ‹C0 own a' _› hJ;haveI:=C0.all ‹C0 own b' _› hJ;refine Ci Tryz.func120 rfl (Nat.le_of_ble_eq_true rfl) fun F=> ?_
  repeat' (first|apply B4|refine B3 0 BY AP ?_|refine B3 3 BY Ah ?_|refine Cw 3 BZ ?_|refine Cw 4 BZ ?_|refine IC 4 BY (Ca rfl rfl rfl rfl rfl (Gq [J] _ _ _ _ _ _ xs HR h1 h3 Ab)) (fun h=> ?_) (fun h=> ?_)|refine IC 4 BY (Ca rfl rfl rfl rfl rfl (Gq [J] _ _ _ _ _ _ ys J9 h2 h4 Ab)) (fun h=> ?_) (fun h=> ?_)|refine CF (fun β=> ?_)|refine B0 ?_|apply B5|refine B8 ?_|apply Cb)
  all_goals
    refine Cr (Ce (B7 rfl)) ?_;refine congrArg Value.bool ?_
    symm
    first|exact decide_eq_true ⟨by assumption,by assumption⟩|(refine decide_eq_false ?_;rintro⟨rfl,rfl⟩;contradiction)
end Go.Proofs.YtcnmnmjmpocepaaGreatDoor.Kd
end
section
namespace Go.Proofs.YtcnmnmjmpocepaaGreatDoor.Kd
open Go.SL
attribute [local irreducible] T C7 Dc C6 Db DS Du
theorem L7{gs:List Int}{k:Nat}{z:Int}(hk:k<gs.length):(gs.map i64).take k++ [i64 z]++(gs.map i64).drop (k+1)=(gs.set k z).map i64:=by
  rw [List.map_set,List.set_eq_take_append_cons_drop,if_pos (by simpa using hk)];simp
theorem NI{gs:List Int}{k j:Nat}{z:Int}(e:k=j)(hk:j<gs.length):(gs.map i64).take k++ [i64 z]++(gs.map i64).drop (k+1)=(gs.set j z).map i64:=by
  subst e;exact L7 hk
def CP(xs ys:List Int):List Int:=List.zipWith (fun x y=>if x=y then x else -1) xs ys
def Hh(xs ys:List Int)(j:Nat):List Int:=(CP xs ys).take j++xs.drop j
theorem Dz{xs ys:List Int}(h:xs.length=ys.length):(CP xs ys).length=xs.length:=by simp [CP,h]
theorem QS{xs ys:List Int}{j:Nat}(h:xs.length=ys.length)(hj:j≤xs.length):(Hh xs ys j).length=xs.length:=by
  simp [Hh,Dz h];omega
theorem Sr{xs ys:List Int}{j:Nat}(h:xs.length=ys.length)(hj:j<xs.length):(Hh xs ys j)[j]?=xs[j]?:=by
  have hm:min j xs.length=j:=by omega
  rw [Hh,List.getElem?_append_right (by rw [List.length_take,Dz h,hm];omega),List.length_take,Dz h,List.getElem?_drop,hm]
  congr 1;omega
theorem PW{xs ys:List Int}{j:Nat}{x y:Int}(h:xs.length=ys.length)(hx:xs[j]?=some x)(hy:ys[j]?=some y):(Hh xs ys j).set j (if x=y then x else -1)=Hh xs ys (j+1):=by
  obtain⟨hj,ex⟩:=List.getElem?_eq_some_iff.1 hx;have hl:=Dz h;have hz:(CP xs ys)[j]?=some (if x=y then x else -1):=by simp [CP,List.getElem?_zipWith,hx,hy]
  have e1:min j xs.length=j:=by omega
  have e2:min (j+1) xs.length=j+1:=by omega
  have e3:j+(xs.length - j)=xs.length:=by omega
  apply List.ext_getElem?;intro i;simp only [Hh,List.getElem?_set,List.getElem?_append,List.getElem?_take,List.getElem?_drop,List.length_append,List.length_take,List.length_drop,hl,e1,e2,e3];rcases Nat.lt_trichotomy i j with hi|rfl|hi
  · rw [if_neg Ab,if_pos hi,if_pos hi,if_pos Ab,if_pos Ab]
  · rw [if_pos rfl,if_pos hj,if_pos (Nat.lt_succ_self _),if_pos (Nat.lt_succ_self _),hz]
  · rw [if_neg Ab,if_neg Ab,if_neg Ab]
    congr 1;omega
theorem Yl{xs ys:List Int}{j:Nat}{x y:Int}(h:xs.length=ys.length)(hx:xs[j]?=some x)(hy:ys[j]?=some y)(Ju:x≠y):(Hh xs ys j).set j (-1)=Hh xs ys (j+1):=by
  rw [<-PW h hx hy,if_neg Ju]
theorem Ym{xs ys:List Int}{j:Nat}{x:Int}(h:xs.length=ys.length)(hx:xs[j]?=some x)(hy:ys[j]?=some x):Hh xs ys j=Hh xs ys (j+1):=by
  rw [<-PW h hx hy,if_pos rfl];obtain⟨hj,ex⟩:=List.getElem?_eq_some_iff.1 hx;have:=Sr h hj;rw [hx] at this
  obtain⟨g1,g2⟩:=List.getElem?_eq_some_iff.1 this;rw [<-g2,List.set_getElem_self]
structure SJ where
  j:Nat
  h:B6
theorem UX(J:B6)(a b a' b':Option Addr)(n m n' m' c d c' d':Nat)(xs ys HR J9:List Int) [Sl J a (xs.map i64)] [Sl J b (ys.map i64)] [Sl J a' (HR.map i64)] [Sl J b' (J9.map i64)]
    (h1:xs.length=n) (h2:ys.length=m) (h3:HR.length=n') (h4:J9.length=m') (DE:n≤4000000) (Pk:m≤4000000) (hn:n=n') (hy:ys=J9):
    T Tryz.prog 119 [fr a b n m c d,fr a' b' n' m' c' d'] [J] fun e o=>∃N,o=J::N/\∃h1 h2 b1 c1 b2 c2,e= .returned (.tuple #[fr b1 b2 n m c1 c2,.bool true])/\N= [h1,h2]/\OS h1 b1 n c1 79 1 ((CP xs HR).map i64)/\OS h2 b2 m c2 79 1 (ys.map i64):=by
  have he:=Gq [J] b b' m m' d d' ys J9 h2 h4 Ab;rw [decide_eq_true hy] at he
  have hxx:xs.length=HR.length:=by omega
  subst hn;refine Ch Tryz.func119 rfl (Nat.le_of_ble_eq_true rfl) fun F=> ?_
  repeat' (first|apply B4|refine B3 0 BY AY ?_|refine CE 2 BY Av Ab ?_|refine B3 3 BY Ah ?_|refine B3 4 BY Ag ?_|refine B3 4 BY (Ca rfl rfl rfl rfl rfl (he)) ?_|refine CF (fun β=> ?_)|refine Cn (fun β=> ?_)|refine B0 ?_|apply B5|refine B8 ?_|refine Cg ?_|apply Cc)
  rename_i DZ Io
  refine Cu [.q [0,1,3,4],.an 7,.h false 2,.h false 5,.q [6],.rv 7,.h true 8] [] Ac Ac Ac Ac ?_
  repeat' (first|apply B4|refine B3 0 BY Am ?_|refine B3 3 BY Ah ?_|refine B3 4 BY Ag ?_|refine B3 5 BY Ar ?_|refine B0 ?_|refine Cz ?_|refine CQ rfl ?_|refine Dg rfl rfl AK ?_|refine DL rfl rfl rfl (fun β=> ?_)|refine C2 rfl rfl rfl rfl rfl rfl Aa rfl Aa Aa ?_|(refine HA rfl rfl rfl rfl rfl rfl rfl rfl (LZ _ _ _ _ _ h1 DE) ?_;rintro _ _ ⟨hA,bA,cA,rfl,rfl,RW⟩;haveI gY:=RW.sl;refine⟨_,_,rfl,rfl,?_⟩)|(refine HA rfl rfl rfl rfl rfl rfl rfl rfl (LZ _ _ _ _ _ h2 Pk) ?_;rintro _ _ ⟨hB,bB,cB,rfl,rfl,Ro⟩;haveI dM:=Ro.sl;refine⟨_,_,rfl,rfl,?_⟩)|apply B5|refine B8 ?_|refine Cf ?_)
  rename_i Fv
  clear gY;refine CH (fun s:SJ=> [(4,.pointer (some ⟨Fv,0,none⟩)),(6,.pointer (some ⟨β,0,none⟩)),(33,.slice a' n c'),(34,i64 (n:Int)),(35,i64 (s.j:Int))])
    (fun s=> [s.h,hB,J,Co β (.cells ⟨[.slice bA n cA,.slice bB m cB]⟩ 59 (0,0)),Co Fv (.cells ⟨[.slice none 0 0,.slice none 0 0]⟩ 59 (0,0))])
    (fun s=>s.j≤n/\OS s.h bA n cA 79 1 ((Hh xs HR s.j).map i64)) (fun s=>n - s.j) ⟨0,hA⟩ (by repeat first|exact Sub.nil _|refine Sub.cons rfl ?_) ⟨Nat.zero_le _,by simpa [Hh] using RW⟩ ?_
  rintro⟨j,H⟩ ⟨Pm,os⟩;dsimp only at Pm os ⊢
  haveI Wb:=os.sl;by_cases hj:j<n
  · obtain⟨x,hx⟩:∃z,xs[j]?=some z:=⟨_,List.getElem?_eq_getElem Ab⟩;obtain⟨y,cR⟩:∃z,HR[j]?=some z:=⟨_,List.getElem?_eq_getElem Ab⟩;have hcx:((Hh xs HR j).map i64)[((j:Nat):Int).toNat*1]?=some (i64 x):=by simp [Sr hxx (show j<xs.length by omega),hx]
    have hcy:(HR.map i64)[((j:Nat):Int).toNat*1]?=some (i64 y):=by simp [cR]
    have OW:=QS hxx (show j≤xs.length by omega);by_cases Ju:x=y
    · subst Ju
      repeat' (first|apply B4|refine B3 0 BY Af ?_|refine B3 1 BY Ap ?_|refine Cs 2 BY A5 Ab ?_|refine CE 2 BY Av Ab ?_|refine B3 3 BY Bn ?_|refine B0 ?_|apply B5|refine B8 ?_|refine Cl ?_|refine Cg ?_|refine Cf ?_|apply Cc)
      refine⟨rfl,⟨j+1,H⟩,CA (by repeat first|exact Sub.nil _|refine Sub.cons rfl ?_),⟨by dsimp only;omega,?_⟩,by dsimp only;omega⟩;dsimp only;rw [<-Ym hxx hx cR];exact os
    · repeat' (first|refine Hw rfl rfl rfl rfl rfl os rfl rfl rfl Ae Aq (NI (j:=j) Ak Ab) (fun h' HT=> ?_)|apply B4|refine B3 0 BY Af ?_|refine B3 1 BY Ap ?_|refine Cs 2 BY A5 Ab ?_|refine B3 3 BY Bn ?_|refine B0 ?_|apply B5|refine B8 ?_|refine Cl ?_|refine Cf ?_|apply Cc)
      refine⟨rfl,⟨j+1,h'⟩,CA (by repeat first|exact Sub.nil _|refine Sub.cons rfl ?_),⟨by dsimp only;omega,?_⟩,by dsimp only;omega⟩;dsimp only;rw [<-Yl hxx hx cR Ju];exact HT
  · obtain rfl:j=n:=by omega
    have c6:Hh xs HR j=CP xs HR:=by
      rw [Hh,List.take_of_length_le (by rw [Dz hxx];omega),List.drop_eq_nil_of_le Ab,List.append_nil]
    rw [c6] at os
    repeat' (first|apply B4|refine B3 0 BY Au ?_|refine CE 2 BY Aj Ab ?_|refine B3 3 BY Az ?_|refine Ck ?_|refine B0 ?_|apply B5|refine B8 ?_|refine Cg ?_|apply Cb|refine CC ?_)
    exact Cj [J,H,hB] (Ct (Cv rfl rfl rfl rfl) (B7 rfl)) ⟨[H,hB],rfl,H,hB,bA,cA,bB,cB,rfl,rfl,os,Ro⟩
theorem W7(J:B6)(a b a' b':Option Addr)(n m n' m' c d c' d':Nat)(xs ys HR J9:List Int) [Sl J a (xs.map i64)] [Sl J b (ys.map i64)] [Sl J a' (HR.map i64)] [Sl J b' (J9.map i64)]
    (h1:xs.length=n) (h2:ys.length=m) (h3:HR.length=n') (h4:J9.length=m') (DE:n≤4000000) (Pk:m≤4000000) (hn:¬(n=n'/\ys=J9)):
    C7 Tryz.prog 119 [fr a b n m c d,fr a' b' n' m' c' d'] [J] (.tuple #[Kk,.bool false]):=by
  have he:=Gq [J] b b' m m' d d' ys J9 h2 h4 Ab;by_cases WH:n=n'
  · rw [decide_eq_false fun e=>hn ⟨WH,e⟩] at he
    refine Ci Tryz.func119 rfl (Nat.le_of_ble_eq_true rfl) fun F=> ?_
    repeat' (first|apply B4|refine B3 0 BY BN ?_|refine CE 2 BY Av Ab ?_|refine B3 3 BY Ah ?_|refine B3 4 BY Ag ?_|refine B3 4 BY (Ca rfl rfl rfl rfl rfl (he)) ?_|refine B3 5 BY Ar ?_|refine CF (fun β=> ?_)|refine Cn (fun β=> ?_)|refine Ck ?_|refine B0 ?_|apply B5|refine B8 ?_|refine Cl ?_|apply Cb|refine Cx ?_)
    exact Cr (Ct (Cv rfl rfl rfl rfl) (B7 rfl)) rfl
  · skip
    refine Ci Tryz.func119 rfl (Nat.le_of_ble_eq_true rfl) fun F=> ?_
    repeat' (first|apply B4|refine B3 0 BY AJ ?_|refine Cw 0 BZ ?_|refine Cs 2 BY Av Ab ?_|refine B3 3 BY Ah ?_|refine Cw 3 BZ ?_|refine Cw 4 BZ ?_|refine B3 4 BY Ag ?_|refine B3 5 BY Ar ?_|refine CF (fun β=> ?_)|refine Cn (fun β=> ?_)|refine Ck ?_|refine B0 ?_|apply B5|refine B8 ?_|refine Cl ?_|apply Cb|refine Cx ?_)
    exact Cr (Ct (Cv rfl rfl rfl rfl) (B7 rfl)) rfl
end Go.Proofs.YtcnmnmjmpocepaaGreatDoor.Kd
end
section
namespace Go.Proofs.YtcnmnmjmpocepaaGreatDoor.Kd
open Go.SL
attribute [local irreducible] SL.T C7 Dc C6 Db DS Du
structure Ins where
  op:Int
  a:Int
  b:Int
def Cp:List Ins->List Value
  | []=> []
  |x::l=>i64 x.op::i64 x.a::i64 x.b::Cp l
theorem CW:∀(l:List Ins),(Cp l).length=l.length*3
  | []=>rfl
  |x::l=>by simp [Cp,CW l];omega
theorem E3:∀ {l:List Ins} {j:Nat} {x:Ins},l[j]?=some x->(Cp l)[j*3]?=some (i64 x.op)/\(Cp l)[j*3+1]?=some (i64 x.a)/\(Cp l)[j*3+2]?=some (i64 x.b)
  | y::l,0,x,h=>by
    simp at h;subst h
    exact⟨rfl,rfl,rfl⟩
  | y::l,j+1,x,h=>by
    have ih:=E3 (l:=l) (j:=j) (x:=x) (by simpa using h);have e:(j+1)*3=j*3+1+1+1:=by omega
    refine⟨?_,?_,?_⟩
    · rw [e];exact ih.1
    · rw [e];exact ih.2.1
    · rw [e];exact ih.2.2
theorem OK(own:List B6)(b:Option Addr)(n c:Nat)(xs:List Int)(i v:Int) [C0 own b (xs.map i64)](h1:xs.length=n)(DE:n≤4000000)(h:0≤i/\i<n)(hv:xs[i.toNat]?=some v):
    C7 Tryz.prog 133 [.slice b n c,i64 i] own (.tuple #[i64 v,.bool true]):=by
  obtain⟨h2,h3⟩:=h;have hc:(xs.map i64)[i.toNat*1]?=some (i64 v):=by simp [hv]
  refine Ci Tryz.func133 rfl (Nat.le_of_ble_eq_true rfl) fun F=> ?_
  repeat' (first|apply B4|refine B3 0 BY AO ?_|refine CE 2 BY AG Ab ?_|refine B3 3 BY AE ?_|refine B3 4 BY Ag ?_|refine B0 ?_|apply B5|refine B8 ?_|refine Cg ?_|apply Cb|apply Cc)
  refine Cr (Ct (B7 rfl) (B7 rfl)) ?_
  rfl
theorem Nr(own:List B6)(b:Option Addr)(n c:Nat)(i:Int)(DE:n≤4000000)(h:¬(0≤i/\i<n)):
    C7 Tryz.prog 133 [.slice b n c,i64 i] own (.tuple #[i64 0,.bool false]):=by
  refine Ci Tryz.func133 rfl (Nat.le_of_ble_eq_true rfl) fun F=> ?_
  repeat' (first|apply B4|refine B3 0 BY AP ?_|refine Cw 0 BZ ?_|refine Cw 2 BZ ?_|refine Cs 2 BY AG Ab ?_|refine IC 2 BY Aj (fun h=> ?_) (fun h=> ?_)|refine Cw 4 BZ ?_|refine B3 4 BY Ag ?_|refine B0 ?_|apply B5|refine B8 ?_|refine Cl ?_|apply Cb|refine Cx ?_)
  all_goals first|(exfalso;omega)|exact Cr (Ct (B7 rfl) (B7 rfl)) rfl
theorem OL(own:List B6)(b:Option Addr)(n c:Nat)(xs:List Value)(i:Int)(v:Value) [C0 own b xs](h1:xs.length=n)(DE:n≤4000000)(h:0≤i/\i<n)(hv:xs[i.toNat]?=some v)(ho:v.oneCell'=true):
    C7 Tryz.prog 132 [.slice b n c,i64 i] own (.tuple #[.agg ⟨[v]⟩,.bool true]):=by
  obtain⟨h2,h3⟩:=h;have hc:xs[i.toNat*1]?=some v:=by simp [hv]
  have hl:i.toNat*1<xs.length:=by omega
  have gr: [v].all (·.oneCell')=true:=by simp [ho]
  have hcj:∀j w,[v][j]?=some w->xs[i.toNat*1+j]?=some w:=fun j w hj=>by
    match j,hj with
    |0,hj=>simp at hj;subst hj;exact hc
  refine Ci Tryz.func132 rfl (Nat.le_of_ble_eq_true rfl) fun F=> ?_
  repeat' (first|refine Cq rfl rfl rfl (HI (vs:= [v]) rfl Aa (Nat.succ_pos 0) rfl hcj) ?_|refine NG rfl rfl rfl rfl rfl rfl Aa gr Aa ?_|apply B4|refine B3 0 BY AO ?_|refine CE 2 BY AG Ab ?_|refine B3 3 BY BD ?_|refine B3 4 BY Ag ?_|refine Cn (fun β=> ?_)|refine B0 ?_|apply B5|refine B8 ?_|refine Cg ?_|apply Cb|apply Cc)
  exact Cr (Ct (Cv rfl rfl rfl rfl) (B7 rfl)) rfl
theorem VD(own:List B6)(b:Option Addr)(n c:Nat)(i:Int)(DE:n≤4000000)(h:¬(0≤i/\i<n)):
    C7 Tryz.prog 132 [.slice b n c,i64 i] own (.tuple #[.agg ⟨[.slice none 0 0]⟩,.bool false]):=by
  refine Ci Tryz.func132 rfl (Nat.le_of_ble_eq_true rfl) fun F=> ?_
  repeat' (first|apply B4|refine B3 0 BY AP ?_|refine Cw 0 BZ ?_|refine Cw 2 BZ ?_|refine Cs 2 BY AG Ab ?_|refine IC 2 BY Aj (fun h=> ?_) (fun h=> ?_)|refine B3 3 BY Az ?_|refine Cw 4 BZ ?_|refine B3 4 BY Ag ?_|refine Cn (fun β=> ?_)|refine Ck ?_|refine B0 ?_|apply B5|refine B8 ?_|refine Cl ?_|apply Cb|refine Cx ?_)
  all_goals first|(exfalso;omega)|exact Cr (Ct (Cv rfl rfl rfl rfl) (B7 rfl)) rfl
theorem OM(own:List B6)(b:Option Addr)(n c:Nat)(xs:List Ins)(i:Int)(x:Ins) [C0 own b (Cp xs)](h1:xs.length=n)(DE:n≤4000000)(h:0≤i/\i<n)(hv:xs[i.toNat]?=some x):
    C7 Tryz.prog 47 [.slice b n c,i64 i] own (.tuple #[.agg ⟨[i64 x.op,i64 x.a,i64 x.b]⟩,.bool true]):=by
  obtain⟨h2,h3⟩:=h;obtain⟨P5,LD,dU⟩:=E3 hv;have hl:i.toNat*3<(Cp xs).length:=by rw [CW];omega
  refine Ci Tryz.func47 rfl (Nat.le_of_ble_eq_true rfl) fun F=> ?_
  repeat' (first|apply B4|refine B3 0 BY AO ?_|refine CE 2 BY AG Ab ?_|refine B3 3 BY Bp ?_|refine B3 4 BY Ag ?_|refine Cn (fun β=> ?_)|refine Ck ?_|refine B0 ?_|apply B5|refine B8 ?_|refine Cg ?_|apply Cb|apply Cc)
  exact Cr (Ct (Cv rfl rfl rfl rfl) (B7 rfl)) rfl
theorem Rf(own:List B6)(b:Option Addr)(n c:Nat)(i:Int)(DE:n≤4000000)(h:¬(0≤i/\i<n)):
    C7 Tryz.prog 47 [.slice b n c,i64 i] own (.tuple #[.agg ⟨[i64 0,i64 0,i64 0]⟩,.bool false]):=by
  refine Ci Tryz.func47 rfl (Nat.le_of_ble_eq_true rfl) fun F=> ?_
  repeat' (first|apply B4|refine B3 0 BY AP ?_|refine Cw 0 BZ ?_|refine Cw 2 BZ ?_|refine Cs 2 BY AG Ab ?_|refine IC 2 BY Aj (fun h=> ?_) (fun h=> ?_)|refine B3 3 BY Az ?_|refine Cw 4 BZ ?_|refine B3 4 BY Ag ?_|refine Cn (fun β=> ?_)|refine Ck ?_|refine B0 ?_|apply B5|refine B8 ?_|refine Cl ?_|apply Cb|refine Cx ?_)
  all_goals first|(exfalso;omega)|exact Cr (Ct (Cv rfl rfl rfl rfl) (B7 rfl)) rfl
theorem JL(own:List B6)(b:Option Addr)(n c:Nat)(xs:List Value)(i:Int)(v0 v1 v2 v3:Value) [C0 own b xs](h1:xs.length=n*4)(DE:n≤4000000)(h:0≤i/\i<n)
    (hv:xs[i.toNat*4]?=some v0/\xs[i.toNat*4+1]?=some v1/\xs[i.toNat*4+2]?=some v2/\xs[i.toNat*4+3]?=some v3) (ho: [v0,v1,v2,v3].all (·.oneCell')=true):
    C7 Tryz.prog 44 [.slice b n c,i64 i] own (.tuple #[.agg ⟨[v0,v1,v2,v3]⟩,.bool true]):=by
  obtain⟨h2,h3⟩:=h;obtain⟨P5,LD,dU,mh⟩:=hv;have hl:i.toNat*4<xs.length:=by omega
  refine Ci Tryz.func44 rfl (Nat.le_of_ble_eq_true rfl) fun F=> ?_
  repeat' (first|refine NG rfl rfl rfl rfl rfl rfl Aa ho Aa ?_|apply B4|refine B3 0 BY AO ?_|refine CE 2 BY AG Ab ?_|refine B3 3 BY Bh ?_|refine B3 4 BY Ag ?_|refine Cn (fun β=> ?_)|refine B0 ?_|apply B5|refine B8 ?_|refine Cg ?_|apply Cb|apply Cc)
  exact Cr (Ct (Cv rfl rfl rfl rfl) (B7 rfl)) rfl
theorem VE(own:List B6)(b:Option Addr)(n c:Nat)(i:Int)(DE:n≤4000000)(h:¬(0≤i/\i<n)):
    C7 Tryz.prog 44 [.slice b n c,i64 i] own (.tuple #[.agg ⟨[.slice none 0 0,i64 0,i64 0,.slice none 0 0]⟩,.bool false]):=by
  refine Ci Tryz.func44 rfl (Nat.le_of_ble_eq_true rfl) fun F=> ?_
  repeat' (first|apply B4|refine B3 0 BY AP ?_|refine Cw 0 BZ ?_|refine Cw 2 BZ ?_|refine Cs 2 BY AG Ab ?_|refine IC 2 BY Aj (fun h=> ?_) (fun h=> ?_)|refine B3 3 BY Az ?_|refine Cw 4 BZ ?_|refine B3 4 BY Ag ?_|refine Cn (fun β=> ?_)|refine Ck ?_|refine B0 ?_|apply B5|refine B8 ?_|refine Cl ?_|apply Cb|refine Cx ?_)
  all_goals first|(exfalso;omega)|exact Cr (Ct (Cv rfl rfl rfl rfl) (B7 rfl)) rfl
theorem Ep(own:List B6)(v:Value):C7 Tryz.prog 46 [v] own v:=by
  refine Ci Tryz.func46 rfl (Nat.le_of_ble_eq_true rfl) fun F=> ?_
  repeat' (first|apply B4|refine B3 0 BY Af ?_|refine B0 ?_|apply B5|refine B8 ?_|apply Cb)
  refine Cr (Ce (B7 rfl)) ?_
  rfl
def LI(a b:Int):Prop:=a=b∨b= -2∨b= -3/\0<a
instance (a b:Int):Decidable (LI a b):=by unfold LI;infer_instance
theorem KT(own:List B6)(a b:Int):C7 Tryz.prog 50 [i64 a,i64 b] own (.bool (decide (LI a b))):=by
  refine Ci Tryz.func50 rfl (Nat.le_of_ble_eq_true rfl) fun F=> ?_
  repeat' (first|apply B4|refine B3 0 BY AP ?_|refine Cw 0 BZ ?_|refine Cw 2 BZ ?_|refine IC 2 BY By (fun h=> ?_) (fun h=> ?_)|refine B0 ?_|apply B5|refine B8 ?_|apply Cb)
  all_goals
    refine Cr (Ce (B7 rfl)) ?_;refine congrArg Value.bool ?_
    symm
    first|exact decide_eq_true (by unfold LI;omega)|exact decide_eq_false (by unfold LI;omega)
end Go.Proofs.YtcnmnmjmpocepaaGreatDoor.Kd
end
