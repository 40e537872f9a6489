
import Derived.Test.YtcnmnmjmpocepaaGreatDoorU00
import Derived.Test.YtcnmnmjmpocepaaGreatDoorU11
import Derived.Test.YtcnmnmjmpocepaaGreatDoorU07
import Derived.Test.YtcnmnmjmpocepaaGreatDoorU13
import Derived.Test.YtcnmnmjmpocepaaGreatDoorU12
import Derived.Test.YtcnmnmjmpocepaaGreatDoorU08
set_option linter.unusedVariables false
set_option linter.unusedSimpArgs false
set_option linter.unusedSectionVars false
set_option maxRecDepth 100000
set_option maxHeartbeats 16000000
section
namespace Go.Proofs.YtcnmnmjmpocepaaGreatDoor.Nd
open Go.SL
attribute [local irreducible] T C7 Dc C6 Db DS Du
abbrev i64(a:Int):Value:= .int .i64 a
theorem Oe(l:List Int):(l.map i64).all (·.oneCell')=true:=by
  rw [List.all_map,List.all_eq_true];intro x _;rfl
abbrev Ins:=Int×Int×Int
def Cp:List Ins->List Value
  | []=> []
  |x::l=>i64 x.1::i64 x.2.1::i64 x.2.2::Cp l
theorem CW:∀l:List Ins,(Cp l).length=l.length*3
  | []=>rfl
  |x::l=>by simp only [Cp,List.length_cons,CW l];omega
theorem E3:∀ {l:List Ins} {k:Nat} {x:Ins},l[k]?=some x->(Cp l)[k*3]?=some (i64 x.1)/\(Cp l)[k*3+1]?=some (i64 x.2.1)/\(Cp l)[k*3+2]?=some (i64 x.2.2)
  | [],k,x,h=>by simp at h
  |y::l,0,x,h=>by simp at h;subst h;exact⟨rfl,rfl,rfl⟩
  | y::l,k+1,x,h=>by
    have:=E3 (l:=l) (k:=k) (by simpa using h);have e:(k+1)*3=k*3+3:=by omega
    simp only [e,Cp];simpa using this
abbrev Ua(p:Value)(lo st:Int)(cb:Option Addr)(cl cc:Nat):Value:= .agg ⟨[p,i64 lo,i64 st,.slice cb cl cc]⟩
theorem G8(own:List B6)(b:Option Addr)(n c:Nat)(xs:List Int)(v:Int) [C0 own b (xs.map i64)](h1:xs.length=n)(DE:n≤9223372036854775807):
    C7 Tryz.prog 135 [.slice b n c,i64 v] own (i64 (if v∈xs then(xs.idxOf v:Int) else -1)):=by
  refine Ci Tryz.func135 rfl (Nat.le_of_ble_eq_true rfl) fun F=> ?_
  repeat' (first|apply B4|refine B3 0 BY Af ?_|refine B3 4 BY Ag ?_|refine B0 ?_|apply B5|refine B8 ?_|refine Cf ?_)
  refine CH (fun j:Nat=> [(0,.slice b n c),(1,i64 v),(7,i64 (n:Int)),(8,i64 (j:Int))])
    (fun _=>own) (fun j=>j≤n/\v∉xs.take j) (fun j=>n - j) 0 (by repeat first|exact Sub.nil _|refine Sub.cons rfl ?_) ⟨Nat.zero_le _,by simp⟩ ?_
  rintro j ⟨Pm,Gs⟩;by_cases hj:j<n
  · obtain⟨x,hx⟩:∃z,xs[j]?=some z:=⟨_,List.getElem?_eq_getElem Ab⟩;have hcx:(xs.map i64)[((j:Nat):Int).toNat*1]?=some (i64 x):=by simp [hx]
    by_cases Ju:v=x
    · subst Ju
      repeat' (first|apply B4|refine B3 0 BY Af ?_|refine Cs 2 BY AN Ab ?_|refine B3 3 BY AE ?_|refine B0 ?_|apply B5|refine B8 ?_|refine Cl ?_|refine Cf ?_|apply Cb|apply Cc|refine Cx ?_|refine Dd ?_)
      refine Cr (Ce (B7 rfl)) ?_;have hi:xs.idxOf v=j:=by
        obtain⟨hl,he⟩:=List.getElem?_eq_some_iff.1 hx;rw [<-List.take_append_drop j xs,List.idxOf_append,if_neg Gs,List.length_take,List.drop_eq_getElem_cons hl,he,List.idxOf_cons_self];omega
      rw [if_pos (List.mem_of_getElem? hx),hi]
    · repeat' (first|apply B4|refine B3 0 BY Af ?_|refine B3 1 BY Ap ?_|refine Cs 2 BY AN Ab ?_|refine CE 2 BY Ao Ab ?_|refine B3 3 BY AE ?_|refine B0 ?_|apply B5|refine B8 ?_|refine Cl ?_|refine Cg ?_|refine Cf ?_|apply Cc)
      refine⟨rfl,j+1,CA (by repeat first|exact Sub.nil _|refine Sub.cons rfl ?_),⟨by omega,?_⟩,by omega⟩;rw [List.take_add_one,hx];simp [Gs,Ju]
  · repeat' (first|apply B4|refine B3 0 BY Au ?_|refine CE 2 BY Aj Ab ?_|refine B0 ?_|apply B5|refine B8 ?_|refine Cg ?_|apply Cb|refine CC ?_)
    refine Cr (Ce (B7 rfl)) ?_;rw [List.take_of_length_le Ab] at Gs
    rw [if_neg Gs]
theorem EF(own:List B6)(b:Option Addr)(n c:Nat)(xs:List Int)(v:Int) [C0 own b (xs.map i64)](h1:xs.length=n)(DE:n≤9223372036854775807):
    C7 Tryz.prog 89 [.slice b n c,i64 v] own (.bool (decide (v∈xs))):=by
  refine Ci Tryz.func89 rfl (Nat.le_of_ble_eq_true rfl) fun F=> ?_
  by_cases hv:v∈xs
  · have hc:=G8 own b n c xs v h1 DE;rw [if_pos hv] at hc
    repeat' (first|apply B4|refine B3 0 BY Af ?_|refine Cs 2 BY AC Ab ?_|refine B3 4 BY (Ca rfl rfl rfl rfl rfl (hc)) ?_|refine B0 ?_|apply B5|refine B8 ?_|apply Cb)
    refine Cr (Ce (B7 rfl)) ?_;rw [decide_eq_true hv]
  · have hc:=G8 own b n c xs v h1 DE;rw [if_neg hv] at hc
    repeat' (first|apply B4|refine B3 0 BY Af ?_|refine CE 2 BY AC Ab ?_|refine B3 4 BY (Ca rfl rfl rfl rfl rfl (hc)) ?_|refine B0 ?_|apply B5|refine B8 ?_|apply Cb)
    refine Cr (Ce (B7 rfl)) ?_;rw [decide_eq_false hv]
def jmp(op:Int):Prop:=op∈ [6,7,(8:Int)]
instance (op:Int):Decidable (jmp op):=inferInstanceAs (Decidable (op∈ [6,7,(8:Int)]))
theorem Gm(op a b:Int):C7 Tryz.prog 54 [.agg ⟨[i64 op,i64 a,i64 b]⟩] [] (.bool (decide (jmp op))):=by
  refine Ci Tryz.func54 rfl (Nat.le_of_ble_eq_true rfl) fun F=> ?_
  repeat' (first|apply B4|refine B3 0 BY Au ?_|refine B3 3 BY Ah ?_|refine B3 4 BY (EI rfl rfl rfl rfl rfl (EF _ _ _ _ [6,7,8] op rfl Ae)) ?_|refine Cm (fun b=> ?_)|refine CF (fun β=> ?_)|refine B0 ?_|apply B5|refine B8 ?_|apply Cb)
  exact Cj [] (Ce (B7 rfl)) ⟨rfl,rfl⟩
theorem Jl(p:Value)(lo st:Int)(cb:Option Addr)(cl cc:Nat)(at_:Int):C7 Tryz.prog 53 [Ua p lo st cb cl cc,i64 at_] [] (.bool (decide (0≤at_/\at_<cl))):=by
  refine Ci Tryz.func53 rfl (Nat.le_of_ble_eq_true rfl) fun F=> ?_
  repeat' (first|apply B4|refine B3 0 BY AP ?_|refine Cw 0 BZ ?_|refine Cw 2 BZ ?_|refine IC 2 BY AG (fun h=> ?_) (fun h=> ?_)|refine B3 3 BY Ah ?_|refine Cw 3 BZ ?_|refine Cw 4 BZ ?_|refine B3 4 BY Ag ?_|refine CF (fun β=> ?_)|refine B0 ?_|apply B5|refine B8 ?_|apply Cb)
  all_goals
    refine Cj [] (Ce (B7 rfl)) ⟨?_,rfl⟩;refine congrArg _ (congrArg Value.bool ?_)
    symm
    first|exact decide_eq_true Ab|exact decide_eq_false Ab
end Go.Proofs.YtcnmnmjmpocepaaGreatDoor.Nd
end
section
namespace Go.Proofs.YtcnmnmjmpocepaaGreatDoor.Nd
open Go.SL
theorem aP{h:B6}{b:Option Addr}{n c:Nat}{T:TypeId}{A B:List Value}(os:OS h b n c T 1 (A++B)):OS h b A.length c T 1 A:=by
  have hl:=os.hlen;rw [List.length_append] at hl
  refine⟨by omega,by have:=os.hle;omega,?_⟩;rcases os.shape with ⟨h1,h2,h3,h4⟩|⟨bb,off,arr,h1,h2,h3,h4⟩
  · exact .inl ⟨h1,by omega,h3,h4⟩
  · exact .inr ⟨bb,off,arr,h1,h2,h3,fun k v hk=>h4 k v (by rw [List.getElem?_append_left (List.getElem?_eq_some_iff.1 hk).1];exact hk)⟩
theorem OO(h:B6)(b:Option Addr)(n c:Nat)(xs:List Int)(os:OS h b n c 3 1 (xs.map i64))(DE:n≤4000000):
    SL.T Tryz.prog 90 [.slice b n c] [h] fun e o=>∃h',e= .returned (.tuple #[])/\o= [h']/\OS h' b n c 3 1 ((xs.mergeSort fun x y=>decide (x≤y)).map i64):=by
  intro w X s;have s:Sat (h::X) w:=s;have hl:=os.len;rcases Nat.eq_zero_or_pos n with h0|hp
  · subst h0;obtain rfl:xs= []:=List.length_eq_zero_iff.1 hl;refine(Tryz.slices_Sort_int_none b c w).mono ?_;rintro e w' ⟨h1,h2⟩;subst h2;exact⟨[h],s,h,h1,rfl,by simpa using os⟩
  · obtain⟨bb,off,rfl,hb,hH,hw⟩:=os.row hp s;have:=Tryz.slices_Sort_int bb off c xs w hH hb Ab;rw [hl] at this
    refine this.mono ?_;rintro e w' ⟨h1,q,gs,rfl⟩;obtain⟨h',HT,s'⟩:=hw _ q gs (List.length_mergeSort xs);exact⟨[h'],s',h',h1,rfl,HT⟩
theorem compact_length_le(zs:List Int):(Lib.compact zs).length≤zs.length:=by
  unfold Lib.compact Lib.compactUpTo;rw [List.length_map];exact Nat.le_trans (List.length_filter_le _ _) Ak
theorem Ku(h:B6)(b:Option Addr)(n c:Nat)(xs:List Int)(os:OS h b n c 3 1 (xs.map i64))(DE:n≤4000000):
    SL.T Tryz.prog 91 [.slice b n c] [h] fun e o=>∃h',e= .returned (.slice b (Lib.compact xs).length c)/\o= [h']/\OS h' b (Lib.compact xs).length c 3 1 ((Lib.compact xs).map i64):=by
  intro w X s;have s:Sat (h::X) w:=s;have hl:=os.len;rcases Nat.eq_zero_or_pos n with h0|hp
  · subst h0;obtain rfl:xs= []:=List.length_eq_zero_iff.1 hl;refine(Tryz.slices_Compact_int_empty b c w).mono ?_;rintro e w' ⟨h1,h2⟩;subst h2;exact⟨[h],s,h,h1,rfl,os⟩
  · obtain⟨bb,off,rfl,hb,hH,hw⟩:=os.row hp s;have:=Tryz.slices_Compact_int bb off c xs w hH Ab (by have:=os.hle;omega);rw [hl] at this
    refine this.mono ?_;rintro e w' ⟨h1,q,rfl⟩;have hle:=compact_length_le xs;obtain⟨h',HT,s'⟩:=hw (Lib.compact xs++List.replicate (n - (Lib.compact xs).length) 0) q #[] Aq;rw [Sort.grow_empty] at s'
    rw [List.map_append] at HT
    have:=aP HT;rw [List.length_map] at this
    exact⟨[h'],s',h',h1,rfl,this⟩
def Jc(xs:List Int):List Int:=Lib.compact (xs.mergeSort fun x y=>decide (x≤y))
attribute [local irreducible] SL.T C7 Dc C6 Db DS Du
theorem Gw(h:B6)(b:Option Addr)(n c:Nat)(xs:List Int)(os:OS h b n c 3 1 (xs.map i64))(DE:n≤4000000):
    SL.T Tryz.prog 55 [.slice b n c] [h] fun e o=>∃h',e= .returned (.slice b (Jc xs).length c)/\o= [h']/\OS h' b (Jc xs).length c 3 1 ((Jc xs).map i64):=by
  refine Ch Tryz.func55 rfl (Nat.le_of_ble_eq_true rfl) fun F=> ?_
  repeat' (first|apply B4|refine B3 0 BY Bj ?_|refine Mo 0 BY Bj (fun h=> ?_) (fun h=> ?_)|refine Cw 0 BZ ?_|refine B3 1 BY (by first|exact GN rfl rfl rfl Ab Ab|exact JS rfl rfl rfl Ab Ab|exact QH rfl rfl rfl|exact ZR rfl rfl rfl|exact EM rfl rfl rfl|exact Ho rfl rfl rfl Ab|exact QG rfl rfl rfl Ab|exact Nf rfl rfl rfl Ab|exact QF rfl rfl rfl Ab|exact Ls rfl rfl rfl Ae) ?_|refine Cw 1 BZ ?_|refine Cw 2 BZ ?_|refine Cs 2 BY A6 (by first|omega|decide +kernel) ?_|refine CE 2 BY A6 (by first|omega|decide +kernel) ?_|refine IC 2 BY A6 (fun h=> ?_) (fun h=> ?_)|refine B3 2 BY (JT rfl rfl) ?_|refine gk 2 rfl (Ki rfl rfl rfl (by first|exact G1 Tryz.underlying4 rfl rfl rfl|exact Jq Tryz.underlying4 rfl rfl rfl|exact Ga rfl rfl rfl rfl|exact Jp rfl rfl rfl rfl) Bk ?_)|refine gk 2 rfl (XH rfl rfl rfl (by first|exact G1 Tryz.underlying4 rfl rfl rfl|exact Jq Tryz.underlying4 rfl rfl rfl|exact Ga rfl rfl rfl rfl|exact Jp rfl rfl rfl rfl) Bk ?_)|refine Mo 2 BY (by first|exact G1 Tryz.underlying4 rfl rfl rfl|exact Jq Tryz.underlying4 rfl rfl rfl|exact Ga rfl rfl rfl rfl|exact Jp rfl rfl rfl rfl) (fun h=> ?_) (fun h=> ?_)|refine B3 3 BY (by first|exact DI rfl Aa rfl Aa|exact CV rfl rfl|exact D5 rfl Aa rfl Aa Aa|exact CD rfl rfl rfl Ab Ab BO|exact Ix rfl rfl rfl Ab Ab A7|exact T5 rfl rfl rfl Ab Ab A7|exact NX rfl rfl rfl Ab Ab|exact EX rfl rfl (by first|assumption|omega)|exact RZ rfl Aa Ai rfl rfl rfl|exact D2 rfl Aa Ai A7|exact Iw rfl Aa Ai Ad Ad|exact Iv rfl Aa Ai Ad Ad Ad) ?_|refine Cw 3 BZ ?_|refine Cw 4 BZ ?_|refine B3 4 BY BP ?_|(refine gk 4 rfl ?_;(refine B9 rfl rfl rfl rfl rfl rfl rfl rfl (OO h b n c xs os DE) ?_;rintro _ _ ⟨hS,rfl,rfl,osS⟩;refine⟨_,_,rfl,rfl,?_⟩))|(refine gk 4 rfl ?_;(refine B9 rfl rfl rfl rfl rfl rfl rfl rfl (Ku hS b n c _ osS DE) ?_;rintro _ _ ⟨hC,rfl,rfl,FK⟩;refine⟨_,_,rfl,rfl,?_⟩))|refine B3 5 BY (by first|exact GM rfl rfl Aa|exact KG rfl rfl rfl rfl Ab Ab Ab|exact G0 rfl rfl rfl Ab Ab|exact CO rfl rfl|exact Gl rfl rfl rfl Ab Ab|exact R0 rfl rfl rfl rfl) ?_|refine Cw 5 BZ ?_|refine Cm (fun b=> ?_)|refine CF (fun β=> ?_)|refine Cn (fun β=> ?_)|refine Ck ?_|refine B0 ?_|refine C5 Ac Ac rfl ?_|refine Cz ?_|refine CQ rfl ?_|refine FD rfl ?_|refine MV rfl ?_|refine Dg rfl rfl (by first|exact JU rfl Aa|exact ZU rfl rfl rfl|exact EY rfl rfl Aa Aa Aa Aa Aa) ?_|refine DL rfl rfl rfl (fun β=> ?_)|refine YW rfl rfl rfl rfl ?_|refine C2 rfl rfl rfl rfl rfl rfl Aa rfl Aa Aa ?_|(refine D0 rfl rfl rfl rfl rfl rfl rfl rfl (OO h b n c xs os DE) (by rintro _ _ ⟨hS,rfl,rfl,osS⟩;exact⟨_,rfl⟩) ?_;rintro _ _ ⟨hS,rfl,rfl,osS⟩;refine⟨_,_,rfl,rfl,?_⟩)|(refine D0 rfl rfl rfl rfl rfl rfl rfl rfl (Ku hS b n c _ osS DE) (by rintro _ _ ⟨hC,rfl,rfl,FK⟩;exact⟨_,rfl⟩) ?_;rintro _ _ ⟨hC,rfl,rfl,FK⟩;refine⟨_,_,rfl,rfl,?_⟩)|apply B5|refine B8 ?_|refine Cl ?_|refine Cg ?_|refine Cf ?_|apply Cb|refine CC ?_|apply Cc|refine Cx ?_|refine Dd ?_|refine H4 ?_|refine Fl ?_|refine Fp ?_)
  exact Cj [hC] (Ce (B7 rfl)) ⟨hC,rfl,rfl,FK⟩
theorem Lw{zs:List Int}(hs:zs.Pairwise (· ≤ ·)){i j:Nat}(fg:i≤j)(hj:j<zs.length):zs[i]'Ab≤zs[j]:=by
  rcases Nat.eq_or_lt_of_le fg with rfl|h
  · exact Int.le_refl _
  · exact List.pairwise_iff_getElem.1 hs i j Ab hj h
theorem Qp(xs:List Int):(xs.mergeSort fun x y=>decide (x≤y)).Pairwise (· ≤ ·):=by
  have:=List.pairwise_mergeSort (le:=fun x y:Int=>decide (x≤y)) (fun a b c h1 h2=>by simp at *;omega) (fun a b=>by simp;omega) xs;exact this.imp fun h=>by simpa using h
theorem OC{zs:List Int}(hs:zs.Pairwise (· ≤ ·)):(Lib.compact zs).Pairwise (· < ·):=by
  unfold Lib.compact Lib.compactUpTo;rw [List.pairwise_map];have hr:((List.range zs.length).filter (Lib.keeps zs.toArray)).Pairwise (· < ·):=(List.pairwise_lt_range).filter _;refine hr.imp_of_mem ?_;intro i j hi hj fg;rw [List.mem_filter,List.mem_range] at hi hj
  obtain⟨Pm,Gs⟩:=hj;have hk:zs.toArray[j]! ≠zs.toArray[j - 1]! :=fun e=>by
    rw [Lib.keeps_neg Ab e] at Gs;cases Gs
  have a1:=Lw hs (show j - 1≤j by omega) Pm;have a2:=Lw hs (show i≤j - 1 by omega) Ab;have e1:zs.toArray[j]! =zs[j]:=by simp [Pm]
  have e2:zs.toArray[j - 1]! =zs[j - 1]'Ab:=by simp [show j - 1<zs.length by omega]
  have e3:zs.toArray[i]! =zs[i]'Ab:=by simp [show i<zs.length by omega]
  rw [e1,e2] at hk
  rw [e1,e3];omega
theorem Se{zs:List Int}{x:Int}:x∈Lib.compact zs↔x∈zs:=by
  unfold Lib.compact Lib.compactUpTo;rw [List.mem_map];constructor
  · rintro⟨j,hj,rfl⟩;rw [List.mem_filter,List.mem_range] at hj
    have:zs.toArray[j]! =zs[j]'hj.1:=by simp [hj.1]
    rw [this];exact List.getElem_mem _
  · intro hx;obtain⟨j,hj,rfl⟩:=List.mem_iff_getElem.1 hx;have key:∀j (hj:j<zs.length),∃i,i<zs.length/\Lib.keeps zs.toArray i=true/\zs.toArray[i]! =zs[j]:=by
      intro j;induction j with
      |zero=>intro hj;exact⟨0,hj,Lib.keeps_lt_one _ 0 Ab,by simp [hj]⟩
      | succ j ih=>
        intro hj;by_cases e:zs.toArray[j+1]! =zs.toArray[j+1 - 1]!
        · obtain⟨i,h1,h2,h3⟩:=ih Ab;refine⟨i,h1,h2,?_⟩;rw [h3];have a:zs.toArray[j+1]! =zs[j+1]:=by simp [hj]
          have b:zs.toArray[j+1 - 1]! =zs[j]'Ab:=by simp [show j<zs.length by omega]
          rw [a,b] at e;exact e.symm
        · exact⟨j+1,hj,Lib.keeps_pos e,by simp [hj]⟩
    obtain⟨i,h1,h2,h3⟩:=key j hj;exact⟨i,by rw [List.mem_filter,List.mem_range];exact⟨h1,h2⟩,h3⟩
theorem MF(xs:List Int):(Jc xs).Pairwise (· < ·):=OC (Qp xs)
theorem N3{xs:List Int}{x:Int}:x∈Jc xs↔x∈xs:=by
  unfold Jc;rw [Se];exact List.mem_mergeSort
theorem Kh:∀ {a b:List Int},a.Pairwise (· < ·)->b.Pairwise (· < ·)->(∀x,x∈a↔x∈b)->a=b
  | [],[],_,_,_=>rfl
  | [],y::b,_,_,h=>absurd ((h y).2 (List.mem_cons_self ..)) Ak
  |x::a,[],_,_,h=>absurd ((h x).1 (List.mem_cons_self ..)) Ak
  | x ::a,y::b,ha,hb,h=>by
    obtain⟨a1,a2⟩:=List.pairwise_cons.1 ha;obtain⟨b1,b2⟩:=List.pairwise_cons.1 hb;have hx:x=y:=by
      rcases List.mem_cons.1 ((h x).1 (List.mem_cons_self ..)) with e|e
      · exact e
      · rcases List.mem_cons.1 ((h y).2 (List.mem_cons_self ..)) with e2|e2
        · exact e2.symm
        · have:=a1 y e2;have:=b1 x e;omega
    subst hx;refine congrArg _ (Kh a2 b2 fun z=> ?_);have:=h z;simp only [List.mem_cons] at this
    constructor
    · intro hz;rcases this.1 (.inr hz) with e|e
      · subst e;have:=a1 z hz;omega
      · exact e
    · intro hz;rcases this.2 (.inr hz) with e|e
      · subst e;have:=b1 z hz;omega
      · exact e
theorem ZM{xs ys:List Int}(hs:ys.Pairwise (· < ·))(h:∀x,x∈xs↔x∈ys):Jc xs=ys:=
  Kh (MF xs) hs fun x=>by rw [N3];exact h x
end Go.Proofs.YtcnmnmjmpocepaaGreatDoor.Nd
end
section
namespace Go.Proofs.YtcnmnmjmpocepaaGreatDoor.Nd
open Go.SL
attribute [local irreducible] SL.T C7 Dc C6 Db DS Du
def G2(x:Ins)(k:Nat):List Int:=Jc ((if jmp x.1 then [x.2.1] else [])++(if x.1≠6/\x.1≠20 then [(k:Int)+1] else []))
def GG(cs:List Ins)(at_:Int):List Int:=if 0≤at_/\at_<cs.length then G2 (cs.getD at_.toNat (0,0,0)) at_.toNat else []
theorem X5{cs:List Ins}{at_:Int}(h:¬(0≤at_/\at_<cs.length)):GG cs at_= []:=if_neg h
theorem Lt{cs:List Ins}{k:Nat}{x:Ins}(h:cs[k]?=some x):GG cs (k:Int)=G2 x k:=by
  have hk:=(List.getElem?_eq_some_iff.1 h).1;rw [GG,if_pos Ab];simp [List.getD,h]
theorem UW(J:B6)(p:Value)(lo st:Int)(cb:Option Addr)(cl cc:Nat)(cs:List Ins)(at_:Int) [Sl J cb (Cp cs)](hl:cs.length=cl)(DE:cl≤4000000):
    SL.T Tryz.prog 21 [Ua p lo st cb cl cc,i64 at_] [J] fun e o=>∃N,o=J::N/\∃h b c,e= .returned (.slice b (GG cs at_).length c)/\N= [h]/\OS h b (GG cs at_).length c 3 1 ((GG cs at_).map i64):=by
  have ht:=Jl p lo st cb cl cc at_;by_cases E5:0≤at_/\at_<cl
  · rw [decide_eq_true E5] at ht
    obtain⟨k,rfl⟩:=Int.eq_ofNat_of_zero_le E5.1;have hk:k<cl:=by omega
    obtain⟨x,hx⟩:∃x,cs[k]?=some x:=⟨_,List.getElem?_eq_getElem Ab⟩;rw [Lt hx];obtain⟨op,a,b⟩:=x;obtain⟨c0,c1,c2⟩:=E3 hx;have c0:(Cp cs)[((k:Nat):Int).toNat*3]?=some (i64 op):=c0;have c1:(Cp cs)[((k:Nat):Int).toNat*3+1]?=some (i64 a):=c1;have c2:(Cp cs)[((k:Nat):Int).toNat*3+2]?=some (i64 b):=c2;have hfl:=CW cs;have hq:((k:Nat):Int).toNat*3<(Cp cs).length:=by simp;omega
    have hj:=Gm op a b;by_cases hjm:jmp op
    · rw [decide_eq_true hjm] at hj
      have Q1:op≠20:=by simp [jmp] at hjm;omega
      by_cases h6:op=6
      · have e:G2 (op,a,b) k=Jc [a]:=by simp only [G2];rw [if_pos hjm,if_neg Ab];rfl
        rw [e];refine Ch Tryz.func21 rfl (Nat.le_of_ble_eq_true rfl) fun F=> ?_
        refine DY ?_
        repeat' (first|apply B4|refine B3 0 BY AY ?_|refine Cw 2 BZ ?_|refine CE 2 BY Av Ab ?_|refine B3 3 BY AI ?_|refine Cw 3 BZ ?_|refine B3 4 BY (Ca rfl rfl rfl rfl rfl (ht)) ?_|refine B3 4 BY (Ca rfl rfl rfl rfl rfl (hj)) ?_|(refine gk 4 rfl ?_;(refine EV rfl rfl rfl rfl rfl rfl rfl rfl rfl OS.nil Ae rfl Ae rfl Ab Ab (fun h1 b1 c1 EH=> ?_);have GC:OS h1 b1 1 c1 3 1 ([a].map i64):=EH))|(refine gk 4 rfl ?_;(refine B9 rfl rfl rfl rfl rfl rfl rfl rfl (Gw _ _ _ _ _ GC Ab) ?_;rintro _ _ ⟨hR,rfl,rfl,osR⟩;refine⟨_,_,rfl,rfl,?_⟩))|refine Cm (fun b=> ?_)|refine CF (fun β=> ?_)|refine Cn (fun β=> ?_)|refine Ck ?_|refine B0 ?_|apply B5|refine B8 ?_|refine Cl ?_|refine Cg ?_|apply Cb|apply Cc)
        exact Cj [J,hR] (Ce (B7 rfl)) ⟨[hR],rfl,hR,_,_,rfl,rfl,osR⟩
      · have e:G2 (op,a,b) k=Jc [a,(k:Int)+1]:=by simp [G2,hjm,h6,Q1]
        rw [e];refine Ch Tryz.func21 rfl (Nat.le_of_ble_eq_true rfl) fun F=> ?_
        refine DY ?_
        repeat' (first|apply B4|refine B3 0 BY Bg ?_|refine B3 1 BY Ap ?_|refine Cs 2 BY Av Ab ?_|refine B3 3 BY AI ?_|refine B3 4 BY (Ca rfl rfl rfl rfl rfl (ht)) ?_|refine B3 4 BY (Ca rfl rfl rfl rfl rfl (hj)) ?_|(refine gk 4 rfl ?_;(refine EV rfl rfl rfl rfl rfl rfl rfl rfl rfl OS.nil Ae rfl Ae rfl Ab Ab (fun h1 b1 c1 EH=> ?_)))|(refine gk 4 rfl ?_;(refine EV rfl rfl rfl rfl rfl rfl rfl rfl rfl EH Ae rfl Ae rfl Ab Ab (fun h3 b3 c3 RX=> ?_);have GC:OS h3 b3 2 c3 3 1 ([a,(k:Int)+1].map i64):=RX))|(refine gk 4 rfl ?_;(refine B9 rfl rfl rfl rfl rfl rfl rfl rfl (Gw _ _ _ _ _ GC Ab) ?_;rintro _ _ ⟨hR,rfl,rfl,osR⟩;refine⟨_,_,rfl,rfl,?_⟩))|refine Cm (fun b=> ?_)|refine CF (fun β=> ?_)|refine Cn (fun β=> ?_)|refine Ck ?_|refine B0 ?_|apply B5|refine B8 ?_|refine Cl ?_|refine Cg ?_|apply Cb|apply Cc)
        exact Cj [J,hR] (Ce (B7 rfl)) ⟨[hR],rfl,hR,_,_,rfl,rfl,osR⟩
    · rw [decide_eq_false hjm] at hj
      have h6:op≠6:=by simp [jmp] at hjm;omega
      by_cases Q1:op=20
      · have e:G2 (op,a,b) k=Jc []:=by simp only [G2];rw [if_neg hjm,if_neg Ab];rfl
        rw [e];refine Ch Tryz.func21 rfl (Nat.le_of_ble_eq_true rfl) fun F=> ?_
        refine DY ?_;have GC:OS emp none 0 0 3 1 (([]:List Int).map i64):=OS.nil
        repeat' (first|apply B4|refine B3 0 BY Bg ?_|refine Cs 2 BY Av Ab ?_|refine CE 2 BY Av Ab ?_|refine B3 3 BY AI ?_|refine B3 4 BY (Ca rfl rfl rfl rfl rfl (ht)) ?_|refine B3 4 BY (Ca rfl rfl rfl rfl rfl (hj)) ?_|(refine gk 4 rfl ?_;(refine B9 rfl rfl rfl rfl rfl rfl rfl rfl (Gw _ _ _ _ _ GC Ab) ?_;rintro _ _ ⟨hR,rfl,rfl,osR⟩;refine⟨_,_,rfl,rfl,?_⟩))|refine CF (fun β=> ?_)|refine Cn (fun β=> ?_)|refine Ck ?_|refine B0 ?_|apply B5|refine B8 ?_|refine Cg ?_|apply Cb|apply Cc)
        exact Cj [J,hR] (Ce (B7 rfl)) ⟨[hR],rfl,hR,_,_,rfl,rfl,osR⟩
      · have e:G2 (op,a,b) k=Jc [(k:Int)+1]:=by simp [G2,hjm,h6,Q1]
        rw [e];refine Ch Tryz.func21 rfl (Nat.le_of_ble_eq_true rfl) fun F=> ?_
        refine DY ?_
        repeat' (first|apply B4|refine B3 0 BY Bg ?_|refine B3 1 BY Ap ?_|refine Cs 2 BY Av Ab ?_|refine B3 3 BY AI ?_|refine B3 4 BY (Ca rfl rfl rfl rfl rfl (ht)) ?_|refine B3 4 BY (Ca rfl rfl rfl rfl rfl (hj)) ?_|(refine gk 4 rfl ?_;(refine EV rfl rfl rfl rfl rfl rfl rfl rfl rfl OS.nil Ae rfl Ae rfl Ab Ab (fun h1 b1 c1 EH=> ?_);have GC:OS h1 b1 1 c1 3 1 ([(k:Int)+1].map i64):=EH))|(refine gk 4 rfl ?_;(refine B9 rfl rfl rfl rfl rfl rfl rfl rfl (Gw _ _ _ _ _ GC Ab) ?_;rintro _ _ ⟨hR,rfl,rfl,osR⟩;refine⟨_,_,rfl,rfl,?_⟩))|refine Cm (fun b=> ?_)|refine CF (fun β=> ?_)|refine Cn (fun β=> ?_)|refine Ck ?_|refine B0 ?_|apply B5|refine B8 ?_|refine Cl ?_|refine Cg ?_|apply Cb|apply Cc)
        exact Cj [J,hR] (Ce (B7 rfl)) ⟨[hR],rfl,hR,_,_,rfl,rfl,osR⟩
  · rw [decide_eq_false E5] at ht
    rw [X5 (by rw [hl];exact E5)];refine Ch Tryz.func21 rfl (Nat.le_of_ble_eq_true rfl) fun F=> ?_
    refine DY ?_
    repeat' (first|apply B4|refine B3 0 BY AW ?_|refine B3 3 BY Az ?_|refine B3 4 BY (Ca rfl rfl rfl rfl rfl (ht)) ?_|refine CF (fun β=> ?_)|refine B0 ?_|apply B5|refine B8 ?_|refine Cl ?_|apply Cb|refine Cx ?_)
    exact Cj [J,emp] (Ce (B7 rfl)) ⟨[emp],rfl,emp,_,_,rfl,rfl,OS.nil⟩
theorem OP(own:List B6)(p:Value)(lo st:Int)(cb:Option Addr)(cl cc:Nat)(cs:List Ins)(at_:Int) [s:C0 own cb (Cp cs)](hl:cs.length=cl)(DE:cl≤4000000):
    SL.T Tryz.prog 21 [Ua p lo st cb cl cc,i64 at_] own fun e o=>∃N,o=own++N/\∃h b c,e= .returned (.slice b (GG cs at_).length c)/\N= [h]/\OS h b (GG cs at_).length c 3 1 ((GG cs at_).map i64):=
  J7 fun J hJ=>by
    haveI:=s.all hJ;exact UW J p lo st cb cl cc cs at_ hl DE
end Go.Proofs.YtcnmnmjmpocepaaGreatDoor.Nd
end
section
namespace Go.Proofs.YtcnmnmjmpocepaaGreatDoor.Nd
theorem Wn{V:List Int}{n:Nat}(hn:V.Nodup)(hr:∀v∈V,0≤v/\v<(n:Int)):V.length≤n:=by
  have h1:(V.map Int.toNat).Nodup:=by
    unfold List.Nodup;rw [List.pairwise_map];refine List.Pairwise.imp_of_mem ?_ hn;intro x y hx hy Ju e;have:=hr x hx;have:=hr y hy;omega
  have h2:(V.map Int.toNat)⊆List.range n:=fun z hz=>by
    obtain⟨x,hx,rfl⟩:=List.mem_map.1 hz;have:=hr x hx;rw [List.mem_range];omega
  have:=h1.length_le_of_subset h2;simpa using this
end Go.Proofs.YtcnmnmjmpocepaaGreatDoor.Nd
end
section
namespace Go.Proofs.YtcnmnmjmpocepaaGreatDoor.Nd
open Go.SL
attribute [local irreducible] SL.T C7 Dc C6 Db DS Du
theorem HJ(cs:List Ins)(x:Int):(GG cs x).length≤2:=by
  unfold GG
  split
  · unfold G2 Jc;refine Nat.le_trans (compact_length_le _) ?_;rw [List.length_mergeSort,List.length_append]
    split <;>split <;>simp
  · simp
end Go.Proofs.YtcnmnmjmpocepaaGreatDoor.Nd
end
section
namespace Go.Proofs.YtcnmnmjmpocepaaGreatDoor.Nd
open Go.SL
attribute [local irreducible] SL.T C7 Dc C6 Db DS Du
theorem L7{gs:List Int}{k j:Nat}{z:Int}(e:k=j)(hk:j<gs.length):(gs.map i64).take k++ [i64 z]++(gs.map i64).drop (k+1)=(gs.set j z).map i64:=by
  subst e;rw [List.map_set,List.set_eq_take_append_cons_drop,if_pos (by simpa using hk)];simp
end Go.Proofs.YtcnmnmjmpocepaaGreatDoor.Nd
end
section
namespace Go.Proofs.YtcnmnmjmpocepaaGreatDoor.Nd
open Go.SL
attribute [local irreducible] SL.T C7 Dc C6 Db DS Du
def L1(cl:Nat)(z:Int):Bool:=decide (0≤z/\z<cl)
abbrev aE(β:Nat):Value:= .func (.func 200) #[] #[.pointer (some ⟨β,0,none⟩)]
abbrev FX(β:Nat)(p:Value)(lo st:Int)(cb:Option Addr)(cl cc:Nat):B6:=Co β (.cells ⟨[p,i64 lo,i64 st,.slice cb cl cc]⟩ 66 (0,0))
theorem Qd(β:Nat)(p:Value)(lo st:Int)(cb:Option Addr)(cl cc:Nat)(z:Int):C7 Tryz.prog 200 [i64 z,.pointer (some ⟨β,0,none⟩)] [FX β p lo st cb cl cc] (.bool (!L1 cl z)):=by
  have ht:=Jl p lo st cb cl cc z;have e:decide (0≤z/\z<cl)=L1 cl z:=rfl;rw [e] at ht
  refine Ci Tryz.func200 rfl (Nat.le_of_ble_eq_true rfl) fun F=> ?_
  repeat' (first|apply B4|refine B3 0 BY Bf ?_|refine B3 3 BY Az ?_|refine B3 4 BY (Ca rfl rfl rfl rfl rfl (ht)) ?_|refine B0 ?_|apply B5|refine B8 ?_|apply Cb)
  all_goals
    refine Cj [FX β p lo st cb cl cc] (Ce (B7 rfl)) ⟨?_,rfl⟩;simp [*]
theorem M5(h:B6)(b:Option Addr)(n c:Nat)(xs:List Int) [Sl h b (xs.map i64)](hl:xs.length=n)(DE:n≤4000000)(β:Nat)(p:Value)(lo st:Int)(cb:Option Addr)(cl cc:Nat):
    SL.T Tryz.prog 203 [.slice b n c,aE β] [h,FX β p lo st cb cl cc] fun e o=>o= [h,FX β p lo st cb cl cc]/\
      ((∀z∈xs,L1 cl z=true)/\e= .returned (i64 (-1))∨∃j:Nat,j<n/\(∀z∈xs.take j,L1 cl z=true)/\(∀z,xs[j]?=some z->L1 cl z=false)/\e= .returned (i64 (j:Int))):=by
  refine Ch Tryz.func203 rfl (Nat.le_of_ble_eq_true rfl) fun F=> ?_
  repeat' (first|apply B4|refine B3 0 BY Af ?_|refine B3 4 BY Ag ?_|refine B0 ?_|apply B5|refine B8 ?_|refine Cf ?_)
  refine CH (fun j:Nat=> [(0,.slice b n c),(1,aE β),(7,i64 (n:Int)),(8,i64 (j:Int))])
    (fun _=> [h,FX β p lo st cb cl cc]) (fun j=>j≤n/\∀z∈xs.take j,L1 cl z=true) (fun j=>n - j) 0 (by repeat first|exact Sub.nil _|refine Sub.cons rfl ?_) ⟨Nat.zero_le _,by simp⟩ ?_
  rintro j ⟨Pm,Gs⟩;by_cases hj:j<n
  · obtain⟨x,hx⟩:∃z,xs[j]?=some z:=⟨_,List.getElem?_eq_getElem Ab⟩;have hcx:(xs.map i64)[((j:Nat):Int).toNat*1]?=some (i64 x):=by simp [hx]
    have hc:=Qd β p lo st cb cl cc x;by_cases Ju:L1 cl x=true
    · rw [Ju] at hc
      repeat' (first|apply B4|refine B3 0 BY Af ?_|refine B3 1 BY Ap ?_|refine Cs 2 BY Aj Ab ?_|refine B3 3 BY AE ?_|refine B3 4 BY (Ca rfl rfl rfl rfl rfl (hc)) ?_|refine B0 ?_|apply B5|refine B8 ?_|refine Cl ?_|refine Cg ?_|refine Cf ?_|apply Cc)
      refine⟨rfl,j+1,CA (by repeat first|exact Sub.nil _|refine Sub.cons rfl ?_),⟨by omega,?_⟩,by omega⟩;rw [List.take_add_one,hx];intro z hz;rcases List.mem_append.1 hz with hz|hz
      · exact Gs z hz
      · simp at hz;rw [hz];exact Ju
    · rw [Bool.not_eq_true] at Ju
      rw [Ju] at hc
      repeat' (first|apply B4|refine B3 0 BY Af ?_|refine Cs 2 BY Aj Ab ?_|refine B3 3 BY AE ?_|refine B3 4 BY (Ca rfl rfl rfl rfl rfl (hc)) ?_|refine B0 ?_|apply B5|refine B8 ?_|refine Cl ?_|refine Cf ?_|apply Cb|apply Cc|refine Cx ?_|refine Dd ?_)
      exact Cj [h,FX β p lo st cb cl cc] (Ce (B7 rfl)) ⟨rfl,.inr ⟨j,hj,Gs,fun z hz=>by rw [hx] at hz;cases hz;exact Ju,rfl⟩⟩
  · repeat' (first|apply B4|refine B3 0 BY Au ?_|refine CE 2 BY Aj Ab ?_|refine B0 ?_|apply B5|refine B8 ?_|refine Cg ?_|apply Cb|refine CC ?_)
    rw [List.take_of_length_le Ab] at Gs
    exact Cj [h,FX β p lo st cb cl cc] (Ce (B7 rfl)) ⟨rfl,.inl ⟨Gs,rfl⟩⟩
structure SD where
  i:Nat
  j:Nat
  h:B6
  ys:List Int
theorem MA(h:B6)(b:Option Addr)(n c:Nat)(xs:List Int)(os:OS h b n c 3 1 (xs.map i64))(DE:n≤4000000)(β:Nat)(p:Value)(lo st:Int)(cb:Option Addr)(cl cc:Nat):
    SL.T Tryz.prog 199 [.slice b n c,aE β] [h,FX β p lo st cb cl cc] fun e o=>∃h',e= .returned (.slice b (xs.filter (L1 cl)).length c)/\o= [h',FX β p lo st cb cl cc]/\OS h' b (xs.filter (L1 cl)).length c 3 1 ((xs.filter (L1 cl)).map i64):=by
  have hl:=os.len;haveI sl:=os.sl;refine Ch Tryz.func199 rfl (Nat.le_of_ble_eq_true rfl) fun F=> ?_
  repeat' (first|apply B4|refine B3 0 BY Af ?_|refine Cs 2 BY Ao Ab ?_|(refine gk 4 rfl ?_;(refine B9 rfl rfl rfl rfl rfl rfl rfl rfl (M5 h b n c xs hl DE β p lo st cb cl cc) ?_;rintro _ _ ⟨rfl,⟨Et,rfl⟩|⟨i0,hi0,Pn,TC,rfl⟩⟩;refine⟨_,_,rfl,rfl,?_⟩))|refine B0 ?_|apply B5|refine B8 ?_|refine Cl ?_|apply Cb|refine Cx ?_)
  · have hf:xs.filter (L1 cl)=xs:=List.filter_eq_self.2 Et;rw [hf,hl];exact Cj [h,FX β p lo st cb cl cc] (Ce (B7 rfl)) ⟨h,rfl,rfl,os⟩
  · refine⟨_,_,rfl,rfl,?_⟩
    repeat' (first|apply B4|refine B3 0 BY Af ?_|refine B3 1 BY Ap ?_|refine CE 2 BY Ao Ab ?_|refine B0 ?_|apply B5|refine B8 ?_|refine Cg ?_|refine Cf ?_|apply Cc)
    obtain⟨x0,Rp⟩:∃z,xs[i0]?=some z:=⟨_,List.getElem?_eq_getElem Ab⟩;refine CH (fun s:SD=> [(0,.slice b n c),(1,aE β),(5,i64 (s.i:Int)),(6,i64 (s.j:Int))])
      (fun s=> [s.h,FX β p lo st cb cl cc]) (fun s=>s.i<s.j/\s.j≤n/\OS s.h b n c 3 1 (s.ys.map i64)/\s.ys.take s.i=(xs.take s.j).filter (L1 cl)/\s.ys.drop s.j=xs.drop s.j)
      (fun s=>n - s.j) ⟨i0,i0+1,h,xs⟩ (by repeat first|exact Sub.nil _|refine Sub.cons rfl ?_) ⟨Nat.lt_succ_self _,hi0,os,?_,rfl⟩ ?_
    · dsimp only;rw [List.take_add_one,Rp,List.filter_append,List.filter_eq_self.2 Pn];simp [TC x0 Rp]
    clear os sl;rintro⟨i,j,H,ys⟩ ⟨fg,Pm,os,ht,hd⟩;dsimp only at fg Pm os ht hd ⊢
    have hyl:=os.len;have hle:=os.hle;haveI sl:=os.sl;by_cases hj:j<n
    · obtain⟨x,hx⟩:∃z,xs[j]?=some z:=⟨_,List.getElem?_eq_getElem Ab⟩;have hy:ys[j]?=some x:=by
        have:=congrArg (·[0]?) hd;simp only [List.getElem?_drop,Nat.add_zero] at this
        rw [this,hx]
      have hcy:(ys.map i64)[((j:Nat):Int).toNat*1]?=some (i64 x):=by simp [hy]
      have SN:∀zs:List Int,zs.drop j=xs.drop j->zs.drop (j+1)=xs.drop (j+1):=fun zs e=>by
        have:=congrArg (List.drop 1) e;simpa [List.drop_drop,Nat.add_comm] using this
      have hc:=Qd β p lo st cb cl cc x;by_cases Ju:L1 cl x=true
      · rw [Ju] at hc
        repeat' (first|refine Hw rfl rfl rfl rfl rfl os rfl rfl rfl (by exact Nat.succ_pos _) Aq (L7 (j:=i) Ak Ab) (fun h1 EH=> ?_)|apply B4|refine B3 0 BY AW ?_|refine B3 1 BY Ap ?_|refine Cs 2 BY Aj Ab ?_|refine B3 3 BY AE ?_|refine B3 4 BY Ag ?_|refine B3 4 BY (Ca rfl rfl rfl rfl rfl (hc)) ?_|refine B0 ?_|apply B5|refine B8 ?_|refine Cl ?_|refine Cf ?_|apply Cc)
        refine⟨rfl,⟨i+1,j+1,h1,ys.set i x⟩,CA (by repeat first|exact Sub.nil _|refine Sub.cons rfl ?_),⟨by dsimp only;omega,by dsimp only;omega,EH,?_,?_⟩,by dsimp only;omega⟩
        · dsimp only;rw [List.take_add_one (l:=xs),hx,List.filter_append,<-ht,List.take_add_one,List.getElem?_set,if_pos rfl,if_pos Ab,List.take_set_of_le (Nat.le_refl _)];simp [Ju]
        · refine SN _ ?_;rw [List.drop_set_of_lt fg];exact hd
      · rw [Bool.not_eq_true] at Ju
        rw [Ju] at hc
        repeat' (first|apply B4|refine B3 0 BY AH ?_|refine B3 1 BY Ap ?_|refine Cs 2 BY Aj Ab ?_|refine B3 3 BY AE ?_|refine B3 4 BY Ag ?_|refine B3 4 BY (Ca rfl rfl rfl rfl rfl (hc)) ?_|refine B0 ?_|apply B5|refine B8 ?_|refine Cl ?_|refine Cg ?_|refine Cf ?_|apply Cc)
        refine⟨rfl,⟨i,j+1,H,ys⟩,CA (by repeat first|exact Sub.nil _|refine Sub.cons rfl ?_),⟨by dsimp only;omega,by dsimp only;omega,os,?_,SN _ hd⟩,by dsimp only;omega⟩;dsimp only;rw [List.take_add_one,hx,List.filter_append,<-ht];simp [Ju]
    · obtain rfl:j=n:=by omega
      have hxt:xs.take j=xs:=List.take_of_length_le Ab;rw [hxt] at ht
      have hfl:(xs.filter (L1 cl)).length=i:=by rw [<-ht,List.length_take];omega
      repeat' (first|apply B4|refine B3 0 BY Am ?_|refine CE 2 BY Aj Ab ?_|refine B3 4 BY Ag ?_|refine B3 5 BY BW ?_|refine B0 ?_|apply B5|refine B8 ?_|refine Cg ?_|refine CC ?_)
      refine XJ rfl rfl rfl rfl rfl rfl os (i:=i) rfl rfl rfl Ab (fun h1 EH=> ?_)
      repeat' (first|apply B4|refine B3 0 BY Af ?_|refine B3 5 BY Bt ?_|refine B0 ?_|apply B5|refine B8 ?_|apply Cb)
      rw [hfl];rw [<-List.map_take,ht] at EH
      exact Cj [h1,FX β p lo st cb cl cc] (Ce (B7 rfl)) ⟨h1,rfl,rfl,EH⟩
end Go.Proofs.YtcnmnmjmpocepaaGreatDoor.Nd
end
section
namespace Go.Proofs.YtcnmnmjmpocepaaGreatDoor.Nd
open Go.SL
attribute [local irreducible] SL.T C7 Dc C6 Db DS Du
def H0(k:Nat)(x:Ins):List Int:=(if jmp x.1 then [x.2.1] else [])++(if jmp x.1∨x.1=20 then [(k:Int)+1] else [])
def Hg(cs:List Ins)(j:Nat):List Int:=0::(List.range j).flatMap fun k=>H0 k (cs.getD k (0,0,0))
theorem Uj{cs:List Ins}{j:Nat}{x:Ins}(h:cs[j]?=some x):Hg cs (j+1)=Hg cs j++H0 j x:=by
  simp [Hg,List.range_succ,List.getD,h]
theorem QO(k:Nat)(x:Ins):(H0 k x).length≤2:=by
  unfold H0;rw [List.length_append];split <;>split <;>simp
theorem IQ(cs:List Ins):∀j,(Hg cs j).length≤1+2*j
  |0=>by simp [Hg]
  | j+1=>by
    have ih:=IQ cs j;have e:Hg cs (j+1)=Hg cs j++H0 j (cs.getD j (0,0,0)):=by simp [Hg,List.range_succ]
    rw [e,List.length_append];have:=QO j (cs.getD j (0,0,0));omega
def leads(cs:List Ins):List Int:=(Jc (Hg cs cs.length)).filter (L1 cs.length)
theorem MG(xs:List Int):(Jc xs).length≤xs.length:=by
  unfold Jc;refine Nat.le_trans (compact_length_le _) ?_;rw [List.length_mergeSort];exact Nat.le_refl _
structure SE where
  j:Nat
  h:B6
  b:Option Addr
  m:Nat
  c:Nat
theorem Pu(J:B6)(p:Value)(lo st:Int)(cb:Option Addr)(cl cc:Nat)(cs:List Ins) [Sl J cb (Cp cs)](hl:cs.length=cl)(DE:cl≤1000000):
    SL.T Tryz.prog 178 [Ua p lo st cb cl cc] [J] fun e o=>∃N,o=J::N/\∃h b c,e= .returned (.slice b (leads cs).length c)/\N= [h]/\OS h b (leads cs).length c 3 1 ((leads cs).map i64):=by
  refine Ch Tryz.func178 rfl (Nat.le_of_ble_eq_true rfl) fun F=> ?_
  repeat' (first|apply B4|refine B3 0 BY Af ?_|refine B3 3 BY Ah ?_|refine B3 4 BY Ag ?_|refine Cm (fun b=> ?_)|refine CF (fun β=> ?_)|refine B0 ?_|apply B5|refine B8 ?_|refine Cf ?_)
  obtain⟨Eu,rfl⟩:∃x,x=β:=⟨_,rfl⟩;refine CH (fun s:SE=> [(1,.pointer (some ⟨Eu,0,none⟩)),(3,.slice s.b s.m s.c),(8,.slice cb cl cc),(9,i64 (cl:Int)),(10,i64 (s.j:Int))])
    (fun s=> [s.h,J,FX Eu p lo st cb cl cc]) (fun s=>s.j≤cl/\OS s.h s.b s.m s.c 3 1 ((Hg cs s.j).map i64)) (fun s=>cl - s.j) ⟨0,Co b (.cells ⟨[.int .i64 0]⟩ 3 (0,0)),some ⟨b,0,none⟩,1,1⟩ (by repeat first|exact Sub.nil _|refine Sub.cons rfl ?_) ⟨Nat.zero_le _,OS.Co rfl⟩ ?_
  rintro⟨j,H,bL,m,cL⟩ ⟨Pm,os⟩;dsimp only at Pm os ⊢
  have SF:=os.len;have bq:=IQ cs j;by_cases hj:j<cl
  · obtain⟨⟨op,a,b⟩,hx⟩:∃x,cs[j]?=some x:=⟨_,List.getElem?_eq_getElem Ab⟩;obtain⟨c0,c1,c2⟩:=E3 hx;have c0:(Cp cs)[((j:Nat):Int).toNat*3]?=some (i64 op):=c0;have c1:(Cp cs)[((j:Nat):Int).toNat*3+1]?=some (i64 a):=c1;have c2:(Cp cs)[((j:Nat):Int).toNat*3+2]?=some (i64 b):=c2;have hfl:=CW cs;have hq:((j:Nat):Int).toNat*3<(Cp cs).length:=by simp;omega
    have hjc:=Gm op a b;have hs:=Uj hx;by_cases hjm:jmp op
    · rw [decide_eq_true hjm] at hjc
      have e:H0 j (op,a,b)= [a,(j:Int)+1]:=by simp only [H0];rw [if_pos hjm,if_pos (.inl hjm)];rfl
      rw [e] at hs
      repeat' (first|apply B4|refine B3 0 BY AJ ?_|refine B3 1 BY Ap ?_|refine Cw 2 BZ ?_|refine Cs 2 BY Aj Ab ?_|refine B3 3 BY AI ?_|refine Cw 3 BZ ?_|refine B3 4 BY (Ca rfl rfl rfl rfl rfl (hjc)) ?_|(refine gk 4 rfl ?_;(refine EV rfl rfl rfl rfl rfl rfl rfl rfl rfl os Ae rfl Ae rfl Ab Ab (fun h1 b1 c1 EH=> ?_)))|(refine gk 4 rfl ?_;(refine EV rfl rfl rfl rfl rfl rfl rfl rfl rfl EH Ae rfl Ae rfl Ab Ab (fun h3 b3 c3 RX=> ?_)))|refine Cm (fun b=> ?_)|refine Cn (fun β=> ?_)|refine Ck ?_|refine B0 ?_|apply B5|refine B8 ?_|refine Cl ?_|refine Cf ?_|apply Cc)
      refine⟨rfl,⟨j+1,h3,b3,m+1+1,c3⟩,CA (by repeat first|exact Sub.nil _|refine Sub.cons rfl ?_),⟨hj,?_⟩,by dsimp only;omega⟩;dsimp only;rw [hs,List.map_append];simpa using RX
    · rw [decide_eq_false hjm] at hjc
      by_cases Q1:op=20
      · have e:H0 j (op,a,b)= [(j:Int)+1]:=by simp only [H0];rw [if_neg hjm,if_pos (.inr Q1)];rfl
        rw [e] at hs
        repeat' (first|apply B4|refine B3 0 BY AO ?_|refine B3 1 BY Ap ?_|refine Cs 2 BY AN Ab ?_|refine B3 3 BY AI ?_|refine B3 4 BY (Ca rfl rfl rfl rfl rfl (hjc)) ?_|(refine gk 4 rfl ?_;(refine EV rfl rfl rfl rfl rfl rfl rfl rfl rfl os Ae rfl Ae rfl Ab Ab (fun h1 b1 c1 EH=> ?_)))|refine Cm (fun b=> ?_)|refine Cn (fun β=> ?_)|refine Ck ?_|refine B0 ?_|apply B5|refine B8 ?_|refine Cl ?_|refine Cg ?_|refine Cf ?_|apply Cc)
        refine⟨rfl,⟨j+1,h1,b1,m+1,c1⟩,CA (by repeat first|exact Sub.nil _|refine Sub.cons rfl ?_),⟨hj,?_⟩,by dsimp only;omega⟩;dsimp only;rw [hs,List.map_append];exact EH
      · have e:H0 j (op,a,b)= []:=by simp only [H0];rw [if_neg hjm,if_neg (by rintro(h|h) <;>contradiction)];rfl
        rw [e,List.append_nil] at hs
        repeat' (first|apply B4|refine B3 0 BY AO ?_|refine B3 1 BY Ap ?_|refine Cs 2 BY AN Ab ?_|refine CE 2 BY Ao Ab ?_|refine B3 3 BY AI ?_|refine B3 4 BY (Ca rfl rfl rfl rfl rfl (hjc)) ?_|refine Cn (fun β=> ?_)|refine Ck ?_|refine B0 ?_|apply B5|refine B8 ?_|refine Cl ?_|refine Cg ?_|refine Cf ?_|apply Cc)
        refine⟨rfl,⟨j+1,H,bL,m,cL⟩,CA (by repeat first|exact Sub.nil _|refine Sub.cons rfl ?_),⟨hj,?_⟩,by dsimp only;omega⟩;dsimp only;rw [hs];exact os
  · obtain rfl:j=cl:=by omega
    have hr:=MG (Hg cs j)
    repeat' (first|apply B4|refine B3 0 BY A1 ?_|refine CE 2 BY Aj Ab ?_|(refine gk 4 rfl ?_;(refine B9 rfl rfl rfl rfl rfl rfl rfl rfl (Gw H bL m cL _ os Ab) ?_;rintro _ _ ⟨hR,rfl,rfl,osR⟩;refine⟨_,_,rfl,rfl,?_⟩))|(refine gk 4 rfl ?_;(refine B9 rfl rfl rfl rfl rfl rfl rfl rfl (MA hR bL _ cL _ osR Ab Eu p lo st cb j cc) ?_;rintro _ _ ⟨hD,rfl,rfl,osD⟩;refine⟨_,_,rfl,rfl,?_⟩))|refine B0 ?_|apply B5|refine B8 ?_|refine Cg ?_|apply Cb|refine CC ?_)
    have e:(Jc (Hg cs j)).filter (L1 j)=leads cs:=by rw [leads,hl]
    rw [e] at osD ⊢
    exact Cj [J,hD] (Ce (B7 rfl)) ⟨[hD],rfl,hD,_,_,rfl,rfl,osD⟩
theorem Qm(own:List B6)(p:Value)(lo st:Int)(cb:Option Addr)(cl cc:Nat)(cs:List Ins) [s:C0 own cb (Cp cs)](hl:cs.length=cl)(DE:cl≤1000000):
    SL.T Tryz.prog 178 [Ua p lo st cb cl cc] own fun e o=>∃N,o=own++N/\∃h b c,e= .returned (.slice b (leads cs).length c)/\N= [h]/\OS h b (leads cs).length c 3 1 ((leads cs).map i64):=
  J7 fun J hJ=>by
    haveI:=s.all hJ;exact Pu J p lo st cb cl cc cs hl DE
theorem Wt{cs:List Ins}{n:Nat}{z:Int}:z∈Hg cs n↔z=0∨∃k:Nat,k<n/\z∈H0 k (cs.getD k (0,0,0)):=by
  simp [Hg,List.mem_flatMap]
theorem Wq{cs:List Ins}{z:Int}:z∈leads cs↔(0≤z/\z<cs.length)/\z∈Hg cs cs.length:=by
  unfold leads;rw [List.mem_filter,N3];simp [L1,and_comm]
theorem QM(cs:List Ins):(leads cs).Pairwise (· < ·):=(MF _).filter _
theorem QN(cs:List Ins):(leads cs).length≤1+2*cs.length:=
  Nat.le_trans (List.length_filter_le _ _) (Nat.le_trans (MG _) (IQ _ _))
theorem Iy{x:Ins}{k:Nat}{z:Int}:z∈G2 x k↔(jmp x.1/\z=x.2.1)∨((x.1≠6/\x.1≠20)/\z=(k:Int)+1):=by
  unfold G2;rw [N3,List.mem_append];constructor
  · rintro(h|h)
    · split at h
      · rename_i hj;exact .inl ⟨hj,by simpa using h⟩
      · cases h
    · split at h
      · rename_i hj;exact .inr ⟨hj,by simpa using h⟩
      · cases h
  · rintro(⟨h1,h2⟩|⟨h1,h2⟩)
    · left;rw [if_pos h1,h2];exact List.mem_singleton.2 rfl
    · right;rw [if_pos h1,h2];exact List.mem_singleton.2 rfl
end Go.Proofs.YtcnmnmjmpocepaaGreatDoor.Nd
end
section
namespace Go.Proofs.YtcnmnmjmpocepaaGreatDoor.Nd
open Go.SL
attribute [local irreducible] SL.T C7 Dc C6 Db DS Du
end Go.Proofs.YtcnmnmjmpocepaaGreatDoor.Nd
end
section
namespace Go.Proofs.YtcnmnmjmpocepaaGreatDoor.Nd
open Go.SL
attribute [local irreducible] SL.T C7 Dc C6 Db DS Du
theorem Wr{k:Nat}{x:Ins}{z:Int}:z∈H0 k x↔(jmp x.1/\z=x.2.1)∨((jmp x.1∨x.1=20)/\z=(k:Int)+1):=by
  unfold H0;rw [List.mem_append];constructor
  · rintro(h|h)
    · split at h
      · rename_i hj;exact .inl ⟨hj,by simpa using h⟩
      · cases h
    · split at h
      · rename_i hj;exact .inr ⟨hj,by simpa using h⟩
      · cases h
  · rintro(⟨h1,h2⟩|⟨h1,h2⟩)
    · left;rw [if_pos h1,h2];exact List.mem_singleton.2 rfl
    · right;rw [if_pos h1,h2];exact List.mem_singleton.2 rfl
end Go.Proofs.YtcnmnmjmpocepaaGreatDoor.Nd
end
section
namespace Go.Proofs.YtcnmnmjmpocepaaGreatDoor.Nd
open Go.SL
attribute [local irreducible] SL.T C7 Dc C6 Db DS Du
def bad(cs:List Ins)(k:Nat):Bool:=(GG cs (k:Int)).any fun t=> !L1 cs.length t
def off(cs:List Ins):Int:=match(List.range cs.length).find? (bad cs) with
  |some k=>(k:Int)
  |none=>if cs.length=0 then 0 else -1
theorem cw{cs:List Ins}{k:Nat}(hk:k<cs.length)(h1:∀j<k,bad cs j=false)(h2:bad cs k=true):off cs=k:=by
  have:(List.range cs.length).find? (bad cs)=some k:=by
    rw [List.find?_range_eq_some];exact⟨h2,by simpa using hk,fun j hj=>by simpa using h1 j hj⟩
  rw [off,this]
theorem R4{cs:List Ins}(h1:∀j<cs.length,bad cs j=false):off cs=if cs.length=0 then 0 else -1:=by
  have:(List.range cs.length).find? (bad cs)=none:=by
    rw [List.find?_range_eq_none];exact fun j hj=>by simpa using h1 j hj
  rw [off,this]
end Go.Proofs.YtcnmnmjmpocepaaGreatDoor.Nd
end
