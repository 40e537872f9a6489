
import Derived.Test.YtcnmnmjmpocepaaGreatDoorV00
import Derived.Test.YtcnmnmjmpocepaaGreatDoorV09
import Derived.Test.YtcnmnmjmpocepaaGreatDoorV06
import Derived.Test.YtcnmnmjmpocepaaGreatDoorV11
import Derived.Test.YtcnmnmjmpocepaaGreatDoorV10
import Derived.Test.YtcnmnmjmpocepaaGreatDoorV07
set_option linter.unusedVariables false
set_option linter.unusedSimpArgs false
set_option linter.unusedSectionVars false
set_option maxRecDepth 100000
set_option maxHeartbeats 16000000
section
namespace Go.Proofs.YtcnmnmjmpocepaaGreatDoor.Nd
open Go.SL
attribute [local irreducible] T Dw DG DE DI Et D0
abbrev i64(a:Int):Value:= .int .i64 a
theorem Nr(l:List Int):(l.map i64).all (·.oneCell')=true:=by
  rw [List.all_map,List.all_eq_true];intro x _;rfl
abbrev Ins:=Int×Int×Int
def CZ:List Ins->List Value
  | []=> []
  |x::l=>i64 x.1::i64 x.2.1::i64 x.2.2::CZ l
theorem Dc:∀l:List Ins,(CZ l).length=l.length*3
  | []=>rfl
  |x::l=>by simp only [CZ,List.length_cons,Dc l];omega
theorem D9:∀ {l:List Ins} {k:Nat} {x:Ins},l[k]?=some x->(CZ l)[k*3]?=some (i64 x.1)/\(CZ l)[k*3+1]?=some (i64 x.2.1)/\(CZ l)[k*3+2]?=some (i64 x.2.2)
  | [],k,x,h=>by simp at h
  |y::l,0,x,h=>by simp at h;subst h;exact⟨rfl,rfl,rfl⟩
  | y::l,k+1,x,h=>by
    have:=D9 (l:=l) (k:=k) (by simpa using h);have e:(k+1)*3=k*3+3:=by omega
    simp only [e,CZ];simpa using this
abbrev MR(p:Value)(lo st:Int)(cb:Option Addr)(cl cc:Nat):Value:= .agg ⟨[p,i64 lo,i64 st,.slice cb cl cc]⟩
theorem Iz(own:List CA)(b:Option Addr)(n c:Nat)(xs:List Int)(v:Int) [Ds own b (xs.map i64)](h1:xs.length=n)(DO:n≤9223372036854775807):
    Dw Tryz.prog 135 [.slice b n c,i64 v] own (i64 (if v∈xs then(xs.idxOf v:Int) else -1)):=by
  refine CL Tryz.func135 rfl (Nat.le_of_ble_eq_true rfl) fun F=> ?_
  repeat' (first|apply Cv|refine Ct 0 Cr Ag ?_|refine Ct 4 Cr Ae ?_|refine Cu ?_|apply Cw|refine Cy ?_|refine CC ?_)
  refine C4 (fun j:Nat=> [(0,.slice b n c),(1,i64 v),(7,i64 (n:Int)),(8,i64 (j:Int))])
    (fun _=>own) (fun j=>j≤n/\v∉xs.take j) (fun j=>n - j) 0 (by repeat first|exact Sub.nil _|refine Sub.cons rfl ?_) ⟨Nat.zero_le _,by simp⟩ ?_
  rintro j ⟨LV,FF⟩;by_cases hj:j<n
  · obtain⟨x,hx⟩:∃z,xs[j]?=some z:=⟨_,List.getElem?_eq_getElem Ab⟩;have hcx:(xs.map i64)[((j:Nat):Int).toNat*1]?=some (i64 x):=by simp [hx]
    by_cases Jb:v=x
    · subst Jb
      repeat' (first|apply Cv|refine Ct 0 Cr Ag ?_|refine CO 2 Cr AP Ab ?_|refine Ct 3 Cr AK ?_|refine Cu ?_|apply Cw|refine Cy ?_|refine CH ?_|refine CC ?_|apply Cz|apply CB|refine CQ ?_|refine C3 ?_)
      refine CS (CD (Cx rfl)) ?_;have hi:xs.idxOf v=j:=by
        obtain⟨hl,he⟩:=List.getElem?_eq_some_iff.1 hx;rw [<-List.take_append_drop j xs,List.idxOf_append,if_neg FF,List.length_take,List.drop_eq_getElem_cons hl,he,List.idxOf_cons_self];omega
      rw [if_pos (List.mem_of_getElem? hx),hi]
    · repeat' (first|apply Cv|refine Ct 0 Cr Ag ?_|refine Ct 1 Cr Ao ?_|refine CO 2 Cr AP Ab ?_|refine CY 2 Cr Al Ab ?_|refine Ct 3 Cr AK ?_|refine Cu ?_|apply Cw|refine Cy ?_|refine CH ?_|refine CF ?_|refine CC ?_|apply CB)
      refine⟨rfl,j+1,CX (by repeat first|exact Sub.nil _|refine Sub.cons rfl ?_),⟨by omega,?_⟩,by omega⟩;rw [List.take_add_one,hx];simp [FF,Jb]
  · repeat' (first|apply Cv|refine Ct 0 Cr Au ?_|refine CY 2 Cr Aj Ab ?_|refine Cu ?_|apply Cw|refine Cy ?_|refine CF ?_|apply Cz|refine C1 ?_)
    refine CS (CD (Cx rfl)) ?_;rw [List.take_of_length_le Ab] at FF
    rw [if_neg FF]
theorem FB(own:List CA)(b:Option Addr)(n c:Nat)(xs:List Int)(v:Int) [Ds own b (xs.map i64)](h1:xs.length=n)(DO:n≤9223372036854775807):
    Dw Tryz.prog 89 [.slice b n c,i64 v] own (.bool (decide (v∈xs))):=by
  refine CL Tryz.func89 rfl (Nat.le_of_ble_eq_true rfl) fun F=> ?_
  by_cases hv:v∈xs
  · have hc:=Iz own b n c xs v h1 DO;rw [if_pos hv] at hc
    repeat' (first|apply Cv|refine Ct 0 Cr Ag ?_|refine CO 2 Cr AB Ab ?_|refine Ct 4 Cr (CE rfl rfl rfl rfl rfl (hc)) ?_|refine Cu ?_|apply Cw|refine Cy ?_|apply Cz)
    refine CS (CD (Cx rfl)) ?_;rw [decide_eq_true hv]
  · have hc:=Iz own b n c xs v h1 DO;rw [if_neg hv] at hc
    repeat' (first|apply Cv|refine Ct 0 Cr Ag ?_|refine CY 2 Cr AB Ab ?_|refine Ct 4 Cr (CE rfl rfl rfl rfl rfl (hc)) ?_|refine Cu ?_|apply Cw|refine Cy ?_|apply Cz)
    refine CS (CD (Cx rfl)) ?_;rw [decide_eq_false hv]
def jmp(op:Int):Prop:=op∈ [6,7,(8:Int)]
instance (op:Int):Decidable (jmp op):=inferInstanceAs (Decidable (op∈ [6,7,(8:Int)]))
theorem Hq(op a b:Int):Dw Tryz.prog 54 [.agg ⟨[i64 op,i64 a,i64 b]⟩] [] (.bool (decide (jmp op))):=by
  refine CL Tryz.func54 rfl (Nat.le_of_ble_eq_true rfl) fun F=> ?_
  repeat' (first|apply Cv|refine Ct 0 Cr Au ?_|refine Ct 3 Cr Af ?_|refine Ct 4 Cr (Eh rfl rfl rfl rfl rfl (FB _ _ _ _ [6,7,8] op rfl Ah)) ?_|refine CP (fun b=> ?_)|refine C2 (fun β=> ?_)|refine Cu ?_|apply Cw|refine Cy ?_|apply Cz)
  exact CJ [] (CD (Cx rfl)) ⟨rfl,rfl⟩
theorem KT(p:Value)(lo st:Int)(cb:Option Addr)(cl cc:Nat)(at_:Int):Dw Tryz.prog 53 [MR p lo st cb cl cc,i64 at_] [] (.bool (decide (0≤at_/\at_<cl))):=by
  refine CL Tryz.func53 rfl (Nat.le_of_ble_eq_true rfl) fun F=> ?_
  repeat' (first|apply Cv|refine Ct 0 Cr Ay ?_|refine CG 0 Cs ?_|refine CG 2 Cs ?_|refine G5 2 Cr Ar (fun h=> ?_) (fun h=> ?_)|refine Ct 3 Cr Af ?_|refine CG 3 Cs ?_|refine CG 4 Cs ?_|refine Ct 4 Cr Ae ?_|refine C2 (fun β=> ?_)|refine Cu ?_|apply Cw|refine Cy ?_|apply Cz)
  all_goals
    refine CJ [] (CD (Cx rfl)) ⟨?_,rfl⟩;refine congrArg _ (congrArg Value.bool ?_)
    symm
    first|exact decide_eq_true Ab|exact decide_eq_false Ab
end Go.Proofs.YtcnmnmjmpocepaaGreatDoor.Nd
end
section
namespace Go.Proofs.YtcnmnmjmpocepaaGreatDoor.Nd
open Go.SL
theorem gZ{h:CA}{b:Option Addr}{n c:Nat}{T:TypeId}{A B:List Value}(os:OS h b n c T 1 (A++B)):OS h b A.length c T 1 A:=by
  have hl:=os.hlen;rw [List.length_append] at hl
  refine⟨by omega,by have:=os.hle;omega,?_⟩;rcases os.shape with ⟨h1,h2,h3,h4⟩|⟨bb,off,arr,h1,h2,h3,h4⟩
  · exact .inl ⟨h1,by omega,h3,h4⟩
  · exact .inr ⟨bb,off,arr,h1,h2,h3,fun k v hk=>h4 k v (by rw [List.getElem?_append_left (List.getElem?_eq_some_iff.1 hk).1];exact hk)⟩
theorem Q0(h:CA)(b:Option Addr)(n c:Nat)(xs:List Int)(os:OS h b n c 3 1 (xs.map i64))(DO:n≤4000000):
    SL.T Tryz.prog 90 [.slice b n c] [h] fun e o=>∃h',e= .returned (.tuple #[])/\o= [h']/\OS h' b n c 3 1 ((xs.mergeSort fun x y=>decide (x≤y)).map i64):=by
  intro w X s;have s:Sat (h::X) w:=s;have hl:=os.len;rcases Nat.eq_zero_or_pos n with h0|hp
  · subst h0;obtain rfl:xs= []:=List.length_eq_zero_iff.1 hl;refine(Tryz.slices_Sort_int_none b c w).mono ?_;rintro e w' ⟨h1,h2⟩;subst h2;exact⟨[h],s,h,h1,rfl,by simpa using os⟩
  · obtain⟨bb,off,rfl,hb,hH,hw⟩:=os.row hp s;have:=Tryz.slices_Sort_int bb off c xs w hH hb Ab;rw [hl] at this
    refine this.mono ?_;rintro e w' ⟨h1,q,gs,rfl⟩;obtain⟨h',HS,s'⟩:=hw _ q gs (List.length_mergeSort xs);exact⟨[h'],s',h',h1,rfl,HS⟩
theorem compact_length_le(zs:List Int):(Lib.compact zs).length≤zs.length:=by
  unfold Lib.compact Lib.compactUpTo;rw [List.length_map];exact Nat.le_trans (List.length_filter_le _ _) Am
theorem Mi(h:CA)(b:Option Addr)(n c:Nat)(xs:List Int)(os:OS h b n c 3 1 (xs.map i64))(DO:n≤4000000):
    SL.T Tryz.prog 91 [.slice b n c] [h] fun e o=>∃h',e= .returned (.slice b (Lib.compact xs).length c)/\o= [h']/\OS h' b (Lib.compact xs).length c 3 1 ((Lib.compact xs).map i64):=by
  intro w X s;have s:Sat (h::X) w:=s;have hl:=os.len;rcases Nat.eq_zero_or_pos n with h0|hp
  · subst h0;obtain rfl:xs= []:=List.length_eq_zero_iff.1 hl;refine(Tryz.slices_Compact_int_empty b c w).mono ?_;rintro e w' ⟨h1,h2⟩;subst h2;exact⟨[h],s,h,h1,rfl,os⟩
  · obtain⟨bb,off,rfl,hb,hH,hw⟩:=os.row hp s;have:=Tryz.slices_Compact_int bb off c xs w hH Ab (by have:=os.hle;omega);rw [hl] at this
    refine this.mono ?_;rintro e w' ⟨h1,q,rfl⟩;have hle:=compact_length_le xs;obtain⟨h',HS,s'⟩:=hw (Lib.compact xs++List.replicate (n - (Lib.compact xs).length) 0) q #[] As;rw [Sort.grow_empty] at s'
    rw [List.map_append] at HS
    have:=gZ HS;rw [List.length_map] at this
    exact⟨[h'],s',h',h1,rfl,this⟩
def KN(xs:List Int):List Int:=Lib.compact (xs.mergeSort fun x y=>decide (x≤y))
attribute [local irreducible] SL.T Dw DG DE DI Et D0
theorem HD(h:CA)(b:Option Addr)(n c:Nat)(xs:List Int)(os:OS h b n c 3 1 (xs.map i64))(DO:n≤4000000):
    SL.T Tryz.prog 55 [.slice b n c] [h] fun e o=>∃h',e= .returned (.slice b (KN xs).length c)/\o= [h']/\OS h' b (KN xs).length c 3 1 ((KN xs).map i64):=by
  refine CM Tryz.func55 rfl (Nat.le_of_ble_eq_true rfl) fun F=> ?_
  repeat' (first|apply Cv|refine Ct 0 Cr BE ?_|refine Ol 0 Cr BE (fun h=> ?_) (fun h=> ?_)|refine CG 0 Cs ?_|refine Ct 1 Cr (by first|exact H4 rfl rfl rfl Ab Ab|exact LD rfl rfl rfl Ab Ab|exact Ie rfl rfl rfl|exact fB rfl rfl rfl|exact Fu rfl rfl rfl|exact Jo rfl rfl rfl Ab|exact TI rfl rfl rfl Ab|exact Ng rfl rfl rfl Ab|exact TH rfl rfl rfl Ab|exact Ni rfl rfl rfl Ah) ?_|refine CG 1 Cs ?_|refine CG 2 Cs ?_|refine CO 2 Cr Bk (by first|omega|decide +kernel) ?_|refine CY 2 Cr Bk (by first|omega|decide +kernel) ?_|refine G5 2 Cr Bk (fun h=> ?_) (fun h=> ?_)|refine Ct 2 Cr (LH rfl rfl) ?_|refine gk 2 rfl (JU rfl rfl rfl (by first|exact HI Tryz.underlying4 rfl rfl rfl|exact G7 Tryz.underlying4 rfl rfl rfl|exact GD rfl rfl rfl rfl|exact Ip rfl rfl rfl rfl) BF ?_)|refine gk 2 rfl (M0 rfl rfl rfl (by first|exact HI Tryz.underlying4 rfl rfl rfl|exact G7 Tryz.underlying4 rfl rfl rfl|exact GD rfl rfl rfl rfl|exact Ip rfl rfl rfl rfl) BF ?_)|refine Ol 2 Cr (by first|exact HI Tryz.underlying4 rfl rfl rfl|exact G7 Tryz.underlying4 rfl rfl rfl|exact GD rfl rfl rfl rfl|exact Ip rfl rfl rfl rfl) (fun h=> ?_) (fun h=> ?_)|refine Ct 3 Cr (by first|exact DU rfl Aa rfl Aa|exact Dg rfl rfl|exact Fc rfl Aa rfl Aa Aa|exact C7 rfl rfl rfl Ab Ab Cb|exact JY rfl rfl rfl Ab Ab Bl|exact W8 rfl rfl rfl Ab Ab Bl|exact I7 rfl rfl rfl Ab Ab|exact Fx rfl rfl (by first|assumption|omega)|exact U3 rfl Aa Ai rfl rfl rfl|exact D7 rfl Aa Ai Bl|exact LG rfl Aa Ai Ad Ad|exact H0 rfl Aa Ai Ad Ad Ad) ?_|refine CG 3 Cs ?_|refine CG 4 Cs ?_|refine Ct 4 Cr Bm ?_|(refine gk 4 rfl ?_;(refine CK rfl rfl rfl rfl rfl rfl rfl rfl (Q0 h b n c xs os DO) ?_;rintro _ _ ⟨hS,rfl,rfl,osS⟩;refine⟨_,_,rfl,rfl,?_⟩))|(refine gk 4 rfl ?_;(refine CK rfl rfl rfl rfl rfl rfl rfl rfl (Mi hS b n c _ osS DO) ?_;rintro _ _ ⟨hC,rfl,rfl,Ge⟩;refine⟨_,_,rfl,rfl,?_⟩))|refine Ct 5 Cr (by first|exact H3 rfl rfl Aa|exact Ms rfl rfl rfl rfl Ab Ab Ab|exact Io rfl rfl rfl Ab Ab|exact C8 rfl rfl|exact Hp rfl rfl rfl Ab Ab|exact U4 rfl rfl rfl rfl) ?_|refine CG 5 Cs ?_|refine CP (fun b=> ?_)|refine C2 (fun β=> ?_)|refine CT (fun β=> ?_)|refine CN ?_|refine Cu ?_|refine De Ac Ac rfl ?_|refine C5 ?_|refine Dd rfl ?_|refine Fq rfl ?_|refine HW rfl ?_|refine Dn rfl rfl (by first|exact J1 rfl Aa|exact fI rfl rfl rfl|exact FU rfl rfl Aa Aa Aa Aa Aa) ?_|refine DN rfl rfl rfl (fun β=> ?_)|refine NC rfl rfl rfl rfl ?_|refine Df rfl rfl rfl rfl rfl rfl Aa rfl Aa Aa ?_|(refine Ev rfl rfl rfl rfl rfl rfl rfl rfl (Q0 h b n c xs os DO) (by rintro _ _ ⟨hS,rfl,rfl,osS⟩;exact⟨_,rfl⟩) ?_;rintro _ _ ⟨hS,rfl,rfl,osS⟩;refine⟨_,_,rfl,rfl,?_⟩)|(refine Ev rfl rfl rfl rfl rfl rfl rfl rfl (Mi hS b n c _ osS DO) (by rintro _ _ ⟨hC,rfl,rfl,Ge⟩;exact⟨_,rfl⟩) ?_;rintro _ _ ⟨hC,rfl,rfl,Ge⟩;refine⟨_,_,rfl,rfl,?_⟩)|apply Cw|refine Cy ?_|refine CH ?_|refine CF ?_|refine CC ?_|apply Cz|refine C1 ?_|apply CB|refine CQ ?_|refine C3 ?_|refine Ja ?_|refine Gf ?_|refine Gh ?_)
  exact CJ [hC] (CD (Cx rfl)) ⟨hC,rfl,rfl,Ge⟩
theorem No{zs:List Int}(hs:zs.Pairwise (· ≤ ·)){i j:Nat}(lX:i≤j)(hj:j<zs.length):zs[i]'Ab≤zs[j]:=by
  rcases Nat.eq_or_lt_of_le lX with rfl|h
  · exact Int.le_refl _
  · exact List.pairwise_iff_getElem.1 hs i j Ab hj h
theorem Tk(xs:List Int):(xs.mergeSort fun x y=>decide (x≤y)).Pairwise (· ≤ ·):=by
  have:=List.pairwise_mergeSort (le:=fun x y:Int=>decide (x≤y)) (fun a b c h1 h2=>by simp at *;omega) (fun a b=>by simp;omega) xs;exact this.imp fun h=>by simpa using h
theorem QM{zs:List Int}(hs:zs.Pairwise (· ≤ ·)):(Lib.compact zs).Pairwise (· < ·):=by
  unfold Lib.compact Lib.compactUpTo;rw [List.pairwise_map];have hr:((List.range zs.length).filter (Lib.keeps zs.toArray)).Pairwise (· < ·):=(List.pairwise_lt_range).filter _;refine hr.imp_of_mem ?_;intro i j hi hj lX;rw [List.mem_filter,List.mem_range] at hi hj
  obtain⟨LV,FF⟩:=hj;have hk:zs.toArray[j]! ≠zs.toArray[j - 1]! :=fun e=>by
    rw [Lib.keeps_neg Ab e] at FF;cases FF
  have a1:=No hs (show j - 1≤j by omega) LV;have a2:=No hs (show i≤j - 1 by omega) Ab;have e1:zs.toArray[j]! =zs[j]:=by simp [LV]
  have e2:zs.toArray[j - 1]! =zs[j - 1]'Ab:=by simp [show j - 1<zs.length by omega]
  have e3:zs.toArray[i]! =zs[i]'Ab:=by simp [show i<zs.length by omega]
  rw [e1,e2] at hk
  rw [e1,e3];omega
theorem Vh{zs:List Int}{x:Int}:x∈Lib.compact zs↔x∈zs:=by
  unfold Lib.compact Lib.compactUpTo;rw [List.mem_map];constructor
  · rintro⟨j,hj,rfl⟩;rw [List.mem_filter,List.mem_range] at hj
    have:zs.toArray[j]! =zs[j]'hj.1:=by simp [hj.1]
    rw [this];exact List.getElem_mem _
  · intro hx;obtain⟨j,hj,rfl⟩:=List.mem_iff_getElem.1 hx;have key:∀j (hj:j<zs.length),∃i,i<zs.length/\Lib.keeps zs.toArray i=true/\zs.toArray[i]! =zs[j]:=by
      intro j;induction j with
      |zero=>intro hj;exact⟨0,hj,Lib.keeps_lt_one _ 0 Ab,by simp [hj]⟩
      | succ j ih=>
        intro hj;by_cases e:zs.toArray[j+1]! =zs.toArray[j+1 - 1]!
        · obtain⟨i,h1,h2,h3⟩:=ih Ab;refine⟨i,h1,h2,?_⟩;rw [h3];have a:zs.toArray[j+1]! =zs[j+1]:=by simp [hj]
          have b:zs.toArray[j+1 - 1]! =zs[j]'Ab:=by simp [show j<zs.length by omega]
          rw [a,b] at e;exact e.symm
        · exact⟨j+1,hj,Lib.keeps_pos e,by simp [hj]⟩
    obtain⟨i,h1,h2,h3⟩:=key j hj;exact⟨i,by rw [List.mem_filter,List.mem_range];exact⟨h1,h2⟩,h3⟩
theorem KX(xs:List Int):(KN xs).Pairwise (· < ·):=QM (Tk xs)
theorem Qd{xs:List Int}{x:Int}:x∈KN xs↔x∈xs:=by
  unfold KN;rw [Vh];exact List.mem_mergeSort
theorem JG:∀ {a b:List Int},a.Pairwise (· < ·)->b.Pairwise (· < ·)->(∀x,x∈a↔x∈b)->a=b
  | [],[],_,_,_=>rfl
  | [],y::b,_,_,h=>absurd ((h y).2 (List.mem_cons_self ..)) Am
  |x::a,[],_,_,h=>absurd ((h x).1 (List.mem_cons_self ..)) Am
  | x ::a,y::b,ha,hb,h=>by
    obtain⟨a1,a2⟩:=List.pairwise_cons.1 ha;obtain⟨b1,b2⟩:=List.pairwise_cons.1 hb;have hx:x=y:=by
      rcases List.mem_cons.1 ((h x).1 (List.mem_cons_self ..)) with e|e
      · exact e
      · rcases List.mem_cons.1 ((h y).2 (List.mem_cons_self ..)) with e2|e2
        · exact e2.symm
        · have:=a1 y e2;have:=b1 x e;omega
    subst hx;refine congrArg _ (JG a2 b2 fun z=> ?_);have:=h z;simp only [List.mem_cons] at this
    constructor
    · intro hz;rcases this.1 (.inr hz) with e|e
      · subst e;have:=a1 z hz;omega
      · exact e
    · intro hz;rcases this.2 (.inr hz) with e|e
      · subst e;have:=b1 z hz;omega
      · exact e
theorem fk{xs ys:List Int}(hs:ys.Pairwise (· < ·))(h:∀x,x∈xs↔x∈ys):KN xs=ys:=
  JG (KX xs) hs fun x=>by rw [Qd];exact h x
end Go.Proofs.YtcnmnmjmpocepaaGreatDoor.Nd
end
section
namespace Go.Proofs.YtcnmnmjmpocepaaGreatDoor.Nd
open Go.SL
attribute [local irreducible] SL.T Dw DG DE DI Et D0
def IF(x:Ins)(k:Nat):List Int:=KN ((if jmp x.1 then [x.2.1] else [])++(if x.1≠6/\x.1≠20 then [(k:Int)+1] else []))
def Gp(cs:List Ins)(at_:Int):List Int:=if 0≤at_/\at_<cs.length then IF (cs.getD at_.toNat (0,0,0)) at_.toNat else []
theorem Xa{cs:List Ins}{at_:Int}(h:¬(0≤at_/\at_<cs.length)):Gp cs at_= []:=if_neg h
theorem Pn{cs:List Ins}{k:Nat}{x:Ins}(h:cs[k]?=some x):Gp cs (k:Int)=IF x k:=by
  have hk:=(List.getElem?_eq_some_iff.1 h).1;rw [Gp,if_pos Ab];simp [List.getD,h]
theorem XY(J:CA)(p:Value)(lo st:Int)(cb:Option Addr)(cl cc:Nat)(cs:List Ins)(at_:Int) [Sl J cb (CZ cs)](hl:cs.length=cl)(DO:cl≤4000000):
    SL.T Tryz.prog 21 [MR p lo st cb cl cc,i64 at_] [J] fun e o=>∃N,o=J::N/\∃h b c,e= .returned (.slice b (Gp cs at_).length c)/\N= [h]/\OS h b (Gp cs at_).length c 3 1 ((Gp cs at_).map i64):=by
  have ht:=KT p lo st cb cl cc at_;by_cases FD:0≤at_/\at_<cl
  · rw [decide_eq_true FD] at ht
    obtain⟨k,rfl⟩:=Int.eq_ofNat_of_zero_le FD.1;have hk:k<cl:=by omega
    obtain⟨x,hx⟩:∃x,cs[k]?=some x:=⟨_,List.getElem?_eq_getElem Ab⟩;rw [Pn hx];obtain⟨op,a,b⟩:=x;obtain⟨c0,c1,c2⟩:=D9 hx;have c0:(CZ cs)[((k:Nat):Int).toNat*3]?=some (i64 op):=c0;have c1:(CZ cs)[((k:Nat):Int).toNat*3+1]?=some (i64 a):=c1;have c2:(CZ cs)[((k:Nat):Int).toNat*3+2]?=some (i64 b):=c2;have hfl:=Dc cs;have hq:((k:Nat):Int).toNat*3<(CZ cs).length:=by simp;omega
    have hj:=Hq op a b;by_cases hjm:jmp op
    · rw [decide_eq_true hjm] at hj
      have SN:op≠20:=by simp [jmp] at hjm;omega
      by_cases h6:op=6
      · have e:IF (op,a,b) k=KN [a]:=by simp only [IF];rw [if_pos hjm,if_neg Ab];rfl
        rw [e];refine CM Tryz.func21 rfl (Nat.le_of_ble_eq_true rfl) fun F=> ?_
        refine DH ?_
        repeat' (first|apply Cv|refine Ct 0 Cr AO ?_|refine CG 2 Cs ?_|refine CY 2 Cr Ax Ab ?_|refine Ct 3 Cr AI ?_|refine CG 3 Cs ?_|refine Ct 4 Cr (CE rfl rfl rfl rfl rfl (ht)) ?_|refine Ct 4 Cr (CE rfl rfl rfl rfl rfl (hj)) ?_|(refine gk 4 rfl ?_;(refine Ef rfl rfl rfl rfl rfl rfl rfl rfl rfl OS.nil Ah rfl Ah rfl Ab Ab (fun h1 b1 c1 E2=> ?_);have G3:OS h1 b1 1 c1 3 1 ([a].map i64):=E2))|(refine gk 4 rfl ?_;(refine CK rfl rfl rfl rfl rfl rfl rfl rfl (HD _ _ _ _ _ G3 Ab) ?_;rintro _ _ ⟨hR,rfl,rfl,osR⟩;refine⟨_,_,rfl,rfl,?_⟩))|refine CP (fun b=> ?_)|refine C2 (fun β=> ?_)|refine CT (fun β=> ?_)|refine CN ?_|refine Cu ?_|apply Cw|refine Cy ?_|refine CH ?_|refine CF ?_|apply Cz|apply CB)
        exact CJ [J,hR] (CD (Cx rfl)) ⟨[hR],rfl,hR,_,_,rfl,rfl,osR⟩
      · have e:IF (op,a,b) k=KN [a,(k:Int)+1]:=by simp [IF,hjm,h6,SN]
        rw [e];refine CM Tryz.func21 rfl (Nat.le_of_ble_eq_true rfl) fun F=> ?_
        refine DH ?_
        repeat' (first|apply Cv|refine Ct 0 Cr BA ?_|refine Ct 1 Cr Ao ?_|refine CO 2 Cr Ax Ab ?_|refine Ct 3 Cr AI ?_|refine Ct 4 Cr (CE rfl rfl rfl rfl rfl (ht)) ?_|refine Ct 4 Cr (CE rfl rfl rfl rfl rfl (hj)) ?_|(refine gk 4 rfl ?_;(refine Ef rfl rfl rfl rfl rfl rfl rfl rfl rfl OS.nil Ah rfl Ah rfl Ab Ab (fun h1 b1 c1 E2=> ?_)))|(refine gk 4 rfl ?_;(refine Ef rfl rfl rfl rfl rfl rfl rfl rfl rfl E2 Ah rfl Ah rfl Ab Ab (fun h3 b3 c3 O3=> ?_);have G3:OS h3 b3 2 c3 3 1 ([a,(k:Int)+1].map i64):=O3))|(refine gk 4 rfl ?_;(refine CK rfl rfl rfl rfl rfl rfl rfl rfl (HD _ _ _ _ _ G3 Ab) ?_;rintro _ _ ⟨hR,rfl,rfl,osR⟩;refine⟨_,_,rfl,rfl,?_⟩))|refine CP (fun b=> ?_)|refine C2 (fun β=> ?_)|refine CT (fun β=> ?_)|refine CN ?_|refine Cu ?_|apply Cw|refine Cy ?_|refine CH ?_|refine CF ?_|apply Cz|apply CB)
        exact CJ [J,hR] (CD (Cx rfl)) ⟨[hR],rfl,hR,_,_,rfl,rfl,osR⟩
    · rw [decide_eq_false hjm] at hj
      have h6:op≠6:=by simp [jmp] at hjm;omega
      by_cases SN:op=20
      · have e:IF (op,a,b) k=KN []:=by simp only [IF];rw [if_neg hjm,if_neg Ab];rfl
        rw [e];refine CM Tryz.func21 rfl (Nat.le_of_ble_eq_true rfl) fun F=> ?_
        refine DH ?_;have G3:OS emp none 0 0 3 1 (([]:List Int).map i64):=OS.nil
        repeat' (first|apply Cv|refine Ct 0 Cr BA ?_|refine CO 2 Cr Ax Ab ?_|refine CY 2 Cr Ax Ab ?_|refine Ct 3 Cr AI ?_|refine Ct 4 Cr (CE rfl rfl rfl rfl rfl (ht)) ?_|refine Ct 4 Cr (CE rfl rfl rfl rfl rfl (hj)) ?_|(refine gk 4 rfl ?_;(refine CK rfl rfl rfl rfl rfl rfl rfl rfl (HD _ _ _ _ _ G3 Ab) ?_;rintro _ _ ⟨hR,rfl,rfl,osR⟩;refine⟨_,_,rfl,rfl,?_⟩))|refine C2 (fun β=> ?_)|refine CT (fun β=> ?_)|refine CN ?_|refine Cu ?_|apply Cw|refine Cy ?_|refine CF ?_|apply Cz|apply CB)
        exact CJ [J,hR] (CD (Cx rfl)) ⟨[hR],rfl,hR,_,_,rfl,rfl,osR⟩
      · have e:IF (op,a,b) k=KN [(k:Int)+1]:=by simp [IF,hjm,h6,SN]
        rw [e];refine CM Tryz.func21 rfl (Nat.le_of_ble_eq_true rfl) fun F=> ?_
        refine DH ?_
        repeat' (first|apply Cv|refine Ct 0 Cr BA ?_|refine Ct 1 Cr Ao ?_|refine CO 2 Cr Ax Ab ?_|refine Ct 3 Cr AI ?_|refine Ct 4 Cr (CE rfl rfl rfl rfl rfl (ht)) ?_|refine Ct 4 Cr (CE rfl rfl rfl rfl rfl (hj)) ?_|(refine gk 4 rfl ?_;(refine Ef rfl rfl rfl rfl rfl rfl rfl rfl rfl OS.nil Ah rfl Ah rfl Ab Ab (fun h1 b1 c1 E2=> ?_);have G3:OS h1 b1 1 c1 3 1 ([(k:Int)+1].map i64):=E2))|(refine gk 4 rfl ?_;(refine CK rfl rfl rfl rfl rfl rfl rfl rfl (HD _ _ _ _ _ G3 Ab) ?_;rintro _ _ ⟨hR,rfl,rfl,osR⟩;refine⟨_,_,rfl,rfl,?_⟩))|refine CP (fun b=> ?_)|refine C2 (fun β=> ?_)|refine CT (fun β=> ?_)|refine CN ?_|refine Cu ?_|apply Cw|refine Cy ?_|refine CH ?_|refine CF ?_|apply Cz|apply CB)
        exact CJ [J,hR] (CD (Cx rfl)) ⟨[hR],rfl,hR,_,_,rfl,rfl,osR⟩
  · rw [decide_eq_false FD] at ht
    rw [Xa (by rw [hl];exact FD)];refine CM Tryz.func21 rfl (Nat.le_of_ble_eq_true rfl) fun F=> ?_
    refine DH ?_
    repeat' (first|apply Cv|refine Ct 0 Cr A3 ?_|refine Ct 3 Cr AA ?_|refine Ct 4 Cr (CE rfl rfl rfl rfl rfl (ht)) ?_|refine C2 (fun β=> ?_)|refine Cu ?_|apply Cw|refine Cy ?_|refine CH ?_|apply Cz|refine CQ ?_)
    exact CJ [J,emp] (CD (Cx rfl)) ⟨[emp],rfl,emp,_,_,rfl,rfl,OS.nil⟩
theorem XZ(own:List CA)(p:Value)(lo st:Int)(cb:Option Addr)(cl cc:Nat)(cs:List Ins)(at_:Int) [s:Ds own cb (CZ cs)](hl:cs.length=cl)(DO:cl≤4000000):
    SL.T Tryz.prog 21 [MR p lo st cb cl cc,i64 at_] own fun e o=>∃N,o=own++N/\∃h b c,e= .returned (.slice b (Gp cs at_).length c)/\N= [h]/\OS h b (Gp cs at_).length c 3 1 ((Gp cs at_).map i64):=
  KH fun J hJ=>by
    haveI:=s.all hJ;exact XY J p lo st cb cl cc cs at_ hl DO
end Go.Proofs.YtcnmnmjmpocepaaGreatDoor.Nd
end
section
namespace Go.Proofs.YtcnmnmjmpocepaaGreatDoor.Nd
theorem N8{V:List Int}{n:Nat}(hn:V.Nodup)(hr:∀v∈V,0≤v/\v<(n:Int)):V.length≤n:=by
  have h1:(V.map Int.toNat).Nodup:=by
    unfold List.Nodup;rw [List.pairwise_map];refine List.Pairwise.imp_of_mem ?_ hn;intro x y hx hy Jb e;have:=hr x hx;have:=hr y hy;omega
  have h2:(V.map Int.toNat)⊆List.range n:=fun z hz=>by
    obtain⟨x,hx,rfl⟩:=List.mem_map.1 hz;have:=hr x hx;rw [List.mem_range];omega
  have:=h1.length_le_of_subset h2;simpa using this
end Go.Proofs.YtcnmnmjmpocepaaGreatDoor.Nd
end
section
namespace Go.Proofs.YtcnmnmjmpocepaaGreatDoor.Nd
open Go.SL
attribute [local irreducible] SL.T Dw DG DE DI Et D0
theorem H6(cs:List Ins)(x:Int):(Gp cs x).length≤2:=by
  unfold Gp
  split
  · unfold IF KN;refine Nat.le_trans (compact_length_le _) ?_;rw [List.length_mergeSort,List.length_append]
    split <;>split <;>simp
  · simp
end Go.Proofs.YtcnmnmjmpocepaaGreatDoor.Nd
end
section
namespace Go.Proofs.YtcnmnmjmpocepaaGreatDoor.Nd
open Go.SL
attribute [local irreducible] SL.T Dw DG DE DI Et D0
theorem NZ{gs:List Int}{k j:Nat}{z:Int}(e:k=j)(hk:j<gs.length):(gs.map i64).take k++ [i64 z]++(gs.map i64).drop (k+1)=(gs.set j z).map i64:=by
  subst e;rw [List.map_set,List.set_eq_take_append_cons_drop,if_pos (by simpa using hk)];simp
end Go.Proofs.YtcnmnmjmpocepaaGreatDoor.Nd
end
section
namespace Go.Proofs.YtcnmnmjmpocepaaGreatDoor.Nd
open Go.SL
attribute [local irreducible] SL.T Dw DG DE DI Et D0
def NO(cl:Nat)(z:Int):Bool:=decide (0≤z/\z<cl)
abbrev gK(β:Nat):Value:= .func (.func 200) #[] #[.pointer (some ⟨β,0,none⟩)]
abbrev F7(β:Nat)(p:Value)(lo st:Int)(cb:Option Addr)(cl cc:Nat):CA:=CV β (.cells ⟨[p,i64 lo,i64 st,.slice cb cl cc]⟩ 66 (0,0))
theorem S0(β:Nat)(p:Value)(lo st:Int)(cb:Option Addr)(cl cc:Nat)(z:Int):Dw Tryz.prog 200 [i64 z,.pointer (some ⟨β,0,none⟩)] [F7 β p lo st cb cl cc] (.bool (!NO cl z)):=by
  have ht:=KT p lo st cb cl cc z;have e:decide (0≤z/\z<cl)=NO cl z:=rfl;rw [e] at ht
  refine CL Tryz.func200 rfl (Nat.le_of_ble_eq_true rfl) fun F=> ?_
  repeat' (first|apply Cv|refine Ct 0 Cr By ?_|refine Ct 3 Cr AA ?_|refine Ct 4 Cr (CE rfl rfl rfl rfl rfl (ht)) ?_|refine Cu ?_|apply Cw|refine Cy ?_|apply Cz)
  all_goals
    refine CJ [F7 β p lo st cb cl cc] (CD (Cx rfl)) ⟨?_,rfl⟩;simp [*]
theorem Pa(h:CA)(b:Option Addr)(n c:Nat)(xs:List Int) [Sl h b (xs.map i64)](hl:xs.length=n)(DO:n≤4000000)(β:Nat)(p:Value)(lo st:Int)(cb:Option Addr)(cl cc:Nat):
    SL.T Tryz.prog 203 [.slice b n c,gK β] [h,F7 β p lo st cb cl cc] fun e o=>o= [h,F7 β p lo st cb cl cc]/\
      ((∀z∈xs,NO cl z=true)/\e= .returned (i64 (-1))∨∃j:Nat,j<n/\(∀z∈xs.take j,NO cl z=true)/\(∀z,xs[j]?=some z->NO cl z=false)/\e= .returned (i64 (j:Int))):=by
  refine CM Tryz.func203 rfl (Nat.le_of_ble_eq_true rfl) fun F=> ?_
  repeat' (first|apply Cv|refine Ct 0 Cr Ag ?_|refine Ct 4 Cr Ae ?_|refine Cu ?_|apply Cw|refine Cy ?_|refine CC ?_)
  refine C4 (fun j:Nat=> [(0,.slice b n c),(1,gK β),(7,i64 (n:Int)),(8,i64 (j:Int))])
    (fun _=> [h,F7 β p lo st cb cl cc]) (fun j=>j≤n/\∀z∈xs.take j,NO cl z=true) (fun j=>n - j) 0 (by repeat first|exact Sub.nil _|refine Sub.cons rfl ?_) ⟨Nat.zero_le _,by simp⟩ ?_
  rintro j ⟨LV,FF⟩;by_cases hj:j<n
  · obtain⟨x,hx⟩:∃z,xs[j]?=some z:=⟨_,List.getElem?_eq_getElem Ab⟩;have hcx:(xs.map i64)[((j:Nat):Int).toNat*1]?=some (i64 x):=by simp [hx]
    have hc:=S0 β p lo st cb cl cc x;by_cases Jb:NO cl x=true
    · rw [Jb] at hc
      repeat' (first|apply Cv|refine Ct 0 Cr Ag ?_|refine Ct 1 Cr Ao ?_|refine CO 2 Cr Aj Ab ?_|refine Ct 3 Cr AK ?_|refine Ct 4 Cr (CE rfl rfl rfl rfl rfl (hc)) ?_|refine Cu ?_|apply Cw|refine Cy ?_|refine CH ?_|refine CF ?_|refine CC ?_|apply CB)
      refine⟨rfl,j+1,CX (by repeat first|exact Sub.nil _|refine Sub.cons rfl ?_),⟨by omega,?_⟩,by omega⟩;rw [List.take_add_one,hx];intro z hz;rcases List.mem_append.1 hz with hz|hz
      · exact FF z hz
      · simp at hz;rw [hz];exact Jb
    · rw [Bool.not_eq_true] at Jb
      rw [Jb] at hc
      repeat' (first|apply Cv|refine Ct 0 Cr Ag ?_|refine CO 2 Cr Aj Ab ?_|refine Ct 3 Cr AK ?_|refine Ct 4 Cr (CE rfl rfl rfl rfl rfl (hc)) ?_|refine Cu ?_|apply Cw|refine Cy ?_|refine CH ?_|refine CC ?_|apply Cz|apply CB|refine CQ ?_|refine C3 ?_)
      exact CJ [h,F7 β p lo st cb cl cc] (CD (Cx rfl)) ⟨rfl,.inr ⟨j,hj,FF,fun z hz=>by rw [hx] at hz;cases hz;exact Jb,rfl⟩⟩
  · repeat' (first|apply Cv|refine Ct 0 Cr Au ?_|refine CY 2 Cr Aj Ab ?_|refine Cu ?_|apply Cw|refine Cy ?_|refine CF ?_|apply Cz|refine C1 ?_)
    rw [List.take_of_length_le Ab] at FF
    exact CJ [h,F7 β p lo st cb cl cc] (CD (Cx rfl)) ⟨rfl,.inl ⟨FF,rfl⟩⟩
structure SD where
  i:Nat
  j:Nat
  h:CA
  ys:List Int
theorem Oz(h:CA)(b:Option Addr)(n c:Nat)(xs:List Int)(os:OS h b n c 3 1 (xs.map i64))(DO:n≤4000000)(β:Nat)(p:Value)(lo st:Int)(cb:Option Addr)(cl cc:Nat):
    SL.T Tryz.prog 199 [.slice b n c,gK β] [h,F7 β p lo st cb cl cc] fun e o=>∃h',e= .returned (.slice b (xs.filter (NO cl)).length c)/\o= [h',F7 β p lo st cb cl cc]/\OS h' b (xs.filter (NO cl)).length c 3 1 ((xs.filter (NO cl)).map i64):=by
  have hl:=os.len;haveI sl:=os.sl;refine CM Tryz.func199 rfl (Nat.le_of_ble_eq_true rfl) fun F=> ?_
  repeat' (first|apply Cv|refine Ct 0 Cr Ag ?_|refine CO 2 Cr Al Ab ?_|(refine gk 4 rfl ?_;(refine CK rfl rfl rfl rfl rfl rfl rfl rfl (Pa h b n c xs hl DO β p lo st cb cl cc) ?_;rintro _ _ ⟨rfl,⟨Fp,rfl⟩|⟨i0,lY,NQ,LW,rfl⟩⟩;refine⟨_,_,rfl,rfl,?_⟩))|refine Cu ?_|apply Cw|refine Cy ?_|refine CH ?_|apply Cz|refine CQ ?_)
  · have hf:xs.filter (NO cl)=xs:=List.filter_eq_self.2 Fp;rw [hf,hl];exact CJ [h,F7 β p lo st cb cl cc] (CD (Cx rfl)) ⟨h,rfl,rfl,os⟩
  · refine⟨_,_,rfl,rfl,?_⟩
    repeat' (first|apply Cv|refine Ct 0 Cr Ag ?_|refine Ct 1 Cr Ao ?_|refine CY 2 Cr Al Ab ?_|refine Cu ?_|apply Cw|refine Cy ?_|refine CF ?_|refine CC ?_|apply CB)
    obtain⟨x0,O4⟩:∃z,xs[i0]?=some z:=⟨_,List.getElem?_eq_getElem Ab⟩;refine C4 (fun s:SD=> [(0,.slice b n c),(1,gK β),(5,i64 (s.i:Int)),(6,i64 (s.j:Int))])
      (fun s=> [s.h,F7 β p lo st cb cl cc]) (fun s=>s.i<s.j/\s.j≤n/\OS s.h b n c 3 1 (s.ys.map i64)/\s.ys.take s.i=(xs.take s.j).filter (NO cl)/\s.ys.drop s.j=xs.drop s.j)
      (fun s=>n - s.j) ⟨i0,i0+1,h,xs⟩ (by repeat first|exact Sub.nil _|refine Sub.cons rfl ?_) ⟨Nat.lt_succ_self _,lY,os,?_,rfl⟩ ?_
    · dsimp only;rw [List.take_add_one,O4,List.filter_append,List.filter_eq_self.2 NQ];simp [LW x0 O4]
    clear os sl;rintro⟨i,j,H,ys⟩ ⟨lX,LV,os,ht,hd⟩;dsimp only at lX LV os ht hd ⊢
    have hyl:=os.len;have hle:=os.hle;haveI sl:=os.sl;by_cases hj:j<n
    · obtain⟨x,hx⟩:∃z,xs[j]?=some z:=⟨_,List.getElem?_eq_getElem Ab⟩;have hy:ys[j]?=some x:=by
        have:=congrArg (·[0]?) hd;simp only [List.getElem?_drop,Nat.add_zero] at this
        rw [this,hx]
      have hcy:(ys.map i64)[((j:Nat):Int).toNat*1]?=some (i64 x):=by simp [hy]
      have T0:∀zs:List Int,zs.drop j=xs.drop j->zs.drop (j+1)=xs.drop (j+1):=fun zs e=>by
        have:=congrArg (List.drop 1) e;simpa [List.drop_drop,Nat.add_comm] using this
      have hc:=S0 β p lo st cb cl cc x;by_cases Jb:NO cl x=true
      · rw [Jb] at hc
        repeat' (first|refine Gl rfl rfl rfl rfl rfl os rfl rfl rfl (by exact Nat.succ_pos _) As (NZ (j:=i) Am Ab) (fun h1 E2=> ?_)|apply Cv|refine Ct 0 Cr A3 ?_|refine Ct 1 Cr Ao ?_|refine CO 2 Cr Aj Ab ?_|refine Ct 3 Cr AK ?_|refine Ct 4 Cr Ae ?_|refine Ct 4 Cr (CE rfl rfl rfl rfl rfl (hc)) ?_|refine Cu ?_|apply Cw|refine Cy ?_|refine CH ?_|refine CC ?_|apply CB)
        refine⟨rfl,⟨i+1,j+1,h1,ys.set i x⟩,CX (by repeat first|exact Sub.nil _|refine Sub.cons rfl ?_),⟨by dsimp only;omega,by dsimp only;omega,E2,?_,?_⟩,by dsimp only;omega⟩
        · dsimp only;rw [List.take_add_one (l:=xs),hx,List.filter_append,<-ht,List.take_add_one,List.getElem?_set,if_pos rfl,if_pos Ab,List.take_set_of_le (Nat.le_refl _)];simp [Jb]
        · refine T0 _ ?_;rw [List.drop_set_of_lt lX];exact hd
      · rw [Bool.not_eq_true] at Jb
        rw [Jb] at hc
        repeat' (first|apply Cv|refine Ct 0 Cr AS ?_|refine Ct 1 Cr Ao ?_|refine CO 2 Cr Aj Ab ?_|refine Ct 3 Cr AK ?_|refine Ct 4 Cr Ae ?_|refine Ct 4 Cr (CE rfl rfl rfl rfl rfl (hc)) ?_|refine Cu ?_|apply Cw|refine Cy ?_|refine CH ?_|refine CF ?_|refine CC ?_|apply CB)
        refine⟨rfl,⟨i,j+1,H,ys⟩,CX (by repeat first|exact Sub.nil _|refine Sub.cons rfl ?_),⟨by dsimp only;omega,by dsimp only;omega,os,?_,T0 _ hd⟩,by dsimp only;omega⟩;dsimp only;rw [List.take_add_one,hx,List.filter_append,<-ht];simp [Jb]
    · obtain rfl:j=n:=by omega
      have hxt:xs.take j=xs:=List.take_of_length_le Ab;rw [hxt] at ht
      have hfl:(xs.filter (NO cl)).length=i:=by rw [<-ht,List.length_take];omega
      repeat' (first|apply Cv|refine Ct 0 Cr Ap ?_|refine CY 2 Cr Aj Ab ?_|refine Ct 4 Cr Ae ?_|refine Ct 5 Cr Ck ?_|refine Cu ?_|apply Cw|refine Cy ?_|refine CF ?_|refine C1 ?_)
      refine aZ rfl rfl rfl rfl rfl rfl os (i:=i) rfl rfl rfl Ab (fun h1 E2=> ?_)
      repeat' (first|apply Cv|refine Ct 0 Cr Ag ?_|refine Ct 5 Cr BD ?_|refine Cu ?_|apply Cw|refine Cy ?_|apply Cz)
      rw [hfl];rw [<-List.map_take,ht] at E2
      exact CJ [h1,F7 β p lo st cb cl cc] (CD (Cx rfl)) ⟨h1,rfl,rfl,E2⟩
end Go.Proofs.YtcnmnmjmpocepaaGreatDoor.Nd
end
section
namespace Go.Proofs.YtcnmnmjmpocepaaGreatDoor.Nd
open Go.SL
attribute [local irreducible] SL.T Dw DG DE DI Et D0
def J3(k:Nat)(x:Ins):List Int:=(if jmp x.1 then [x.2.1] else [])++(if jmp x.1∨x.1=20 then [(k:Int)+1] else [])
def G8(cs:List Ins)(j:Nat):List Int:=0::(List.range j).flatMap fun k=>J3 k (cs.getD k (0,0,0))
theorem Qk{cs:List Ins}{j:Nat}{x:Ins}(h:cs[j]?=some x):G8 cs (j+1)=G8 cs j++J3 j x:=by
  simp [G8,List.range_succ,List.getD,h]
theorem TQ(k:Nat)(x:Ins):(J3 k x).length≤2:=by
  unfold J3;rw [List.length_append];split <;>split <;>simp
theorem Ki(cs:List Ins):∀j,(G8 cs j).length≤1+2*j
  |0=>by simp [G8]
  | j+1=>by
    have ih:=Ki cs j;have e:G8 cs (j+1)=G8 cs j++J3 j (cs.getD j (0,0,0)):=by simp [G8,List.range_succ]
    rw [e,List.length_append];have:=TQ j (cs.getD j (0,0,0));omega
def leads(cs:List Ins):List Int:=(KN (G8 cs cs.length)).filter (NO cs.length)
theorem OH(xs:List Int):(KN xs).length≤xs.length:=by
  unfold KN;refine Nat.le_trans (compact_length_le _) ?_;rw [List.length_mergeSort];exact Nat.le_refl _
structure SE where
  j:Nat
  h:CA
  b:Option Addr
  m:Nat
  c:Nat
theorem RP(J:CA)(p:Value)(lo st:Int)(cb:Option Addr)(cl cc:Nat)(cs:List Ins) [Sl J cb (CZ cs)](hl:cs.length=cl)(DO:cl≤1000000):
    SL.T Tryz.prog 178 [MR p lo st cb cl cc] [J] fun e o=>∃N,o=J::N/\∃h b c,e= .returned (.slice b (leads cs).length c)/\N= [h]/\OS h b (leads cs).length c 3 1 ((leads cs).map i64):=by
  refine CM Tryz.func178 rfl (Nat.le_of_ble_eq_true rfl) fun F=> ?_
  repeat' (first|apply Cv|refine Ct 0 Cr Ag ?_|refine Ct 3 Cr Af ?_|refine Ct 4 Cr Ae ?_|refine CP (fun b=> ?_)|refine C2 (fun β=> ?_)|refine Cu ?_|apply Cw|refine Cy ?_|refine CC ?_)
  obtain⟨ET,rfl⟩:∃x,x=β:=⟨_,rfl⟩;refine C4 (fun s:SE=> [(1,.pointer (some ⟨ET,0,none⟩)),(3,.slice s.b s.m s.c),(8,.slice cb cl cc),(9,i64 (cl:Int)),(10,i64 (s.j:Int))])
    (fun s=> [s.h,J,F7 ET p lo st cb cl cc]) (fun s=>s.j≤cl/\OS s.h s.b s.m s.c 3 1 ((G8 cs s.j).map i64)) (fun s=>cl - s.j) ⟨0,CV b (.cells ⟨[.int .i64 0]⟩ 3 (0,0)),some ⟨b,0,none⟩,1,1⟩ (by repeat first|exact Sub.nil _|refine Sub.cons rfl ?_) ⟨Nat.zero_le _,OS.CV rfl⟩ ?_
  rintro⟨j,H,bL,m,cL⟩ ⟨LV,os⟩;dsimp only at LV os ⊢
  have Pr:=os.len;have RH:=Ki cs j;by_cases hj:j<cl
  · obtain⟨⟨op,a,b⟩,hx⟩:∃x,cs[j]?=some x:=⟨_,List.getElem?_eq_getElem Ab⟩;obtain⟨c0,c1,c2⟩:=D9 hx;have c0:(CZ cs)[((j:Nat):Int).toNat*3]?=some (i64 op):=c0;have c1:(CZ cs)[((j:Nat):Int).toNat*3+1]?=some (i64 a):=c1;have c2:(CZ cs)[((j:Nat):Int).toNat*3+2]?=some (i64 b):=c2;have hfl:=Dc cs;have hq:((j:Nat):Int).toNat*3<(CZ cs).length:=by simp;omega
    have hjc:=Hq op a b;have hs:=Qk hx;by_cases hjm:jmp op
    · rw [decide_eq_true hjm] at hjc
      have e:J3 j (op,a,b)= [a,(j:Int)+1]:=by simp only [J3];rw [if_pos hjm,if_pos (.inl hjm)];rfl
      rw [e] at hs
      repeat' (first|apply Cv|refine Ct 0 Cr Aw ?_|refine Ct 1 Cr Ao ?_|refine CG 2 Cs ?_|refine CO 2 Cr Aj Ab ?_|refine Ct 3 Cr AI ?_|refine CG 3 Cs ?_|refine Ct 4 Cr (CE rfl rfl rfl rfl rfl (hjc)) ?_|(refine gk 4 rfl ?_;(refine Ef rfl rfl rfl rfl rfl rfl rfl rfl rfl os Ah rfl Ah rfl Ab Ab (fun h1 b1 c1 E2=> ?_)))|(refine gk 4 rfl ?_;(refine Ef rfl rfl rfl rfl rfl rfl rfl rfl rfl E2 Ah rfl Ah rfl Ab Ab (fun h3 b3 c3 O3=> ?_)))|refine CP (fun b=> ?_)|refine CT (fun β=> ?_)|refine CN ?_|refine Cu ?_|apply Cw|refine Cy ?_|refine CH ?_|refine CC ?_|apply CB)
      refine⟨rfl,⟨j+1,h3,b3,m+1+1,c3⟩,CX (by repeat first|exact Sub.nil _|refine Sub.cons rfl ?_),⟨hj,?_⟩,by dsimp only;omega⟩;dsimp only;rw [hs,List.map_append];simpa using O3
    · rw [decide_eq_false hjm] at hjc
      by_cases SN:op=20
      · have e:J3 j (op,a,b)= [(j:Int)+1]:=by simp only [J3];rw [if_neg hjm,if_pos (.inr SN)];rfl
        rw [e] at hs
        repeat' (first|apply Cv|refine Ct 0 Cr Az ?_|refine Ct 1 Cr Ao ?_|refine CO 2 Cr AP Ab ?_|refine Ct 3 Cr AI ?_|refine Ct 4 Cr (CE rfl rfl rfl rfl rfl (hjc)) ?_|(refine gk 4 rfl ?_;(refine Ef rfl rfl rfl rfl rfl rfl rfl rfl rfl os Ah rfl Ah rfl Ab Ab (fun h1 b1 c1 E2=> ?_)))|refine CP (fun b=> ?_)|refine CT (fun β=> ?_)|refine CN ?_|refine Cu ?_|apply Cw|refine Cy ?_|refine CH ?_|refine CF ?_|refine CC ?_|apply CB)
        refine⟨rfl,⟨j+1,h1,b1,m+1,c1⟩,CX (by repeat first|exact Sub.nil _|refine Sub.cons rfl ?_),⟨hj,?_⟩,by dsimp only;omega⟩;dsimp only;rw [hs,List.map_append];exact E2
      · have e:J3 j (op,a,b)= []:=by simp only [J3];rw [if_neg hjm,if_neg (by rintro(h|h) <;>contradiction)];rfl
        rw [e,List.append_nil] at hs
        repeat' (first|apply Cv|refine Ct 0 Cr Az ?_|refine Ct 1 Cr Ao ?_|refine CO 2 Cr AP Ab ?_|refine CY 2 Cr Al Ab ?_|refine Ct 3 Cr AI ?_|refine Ct 4 Cr (CE rfl rfl rfl rfl rfl (hjc)) ?_|refine CT (fun β=> ?_)|refine CN ?_|refine Cu ?_|apply Cw|refine Cy ?_|refine CH ?_|refine CF ?_|refine CC ?_|apply CB)
        refine⟨rfl,⟨j+1,H,bL,m,cL⟩,CX (by repeat first|exact Sub.nil _|refine Sub.cons rfl ?_),⟨hj,?_⟩,by dsimp only;omega⟩;dsimp only;rw [hs];exact os
  · obtain rfl:j=cl:=by omega
    have hr:=OH (G8 cs j)
    repeat' (first|apply Cv|refine Ct 0 Cr Be ?_|refine CY 2 Cr Aj Ab ?_|(refine gk 4 rfl ?_;(refine CK rfl rfl rfl rfl rfl rfl rfl rfl (HD H bL m cL _ os Ab) ?_;rintro _ _ ⟨hR,rfl,rfl,osR⟩;refine⟨_,_,rfl,rfl,?_⟩))|(refine gk 4 rfl ?_;(refine CK rfl rfl rfl rfl rfl rfl rfl rfl (Oz hR bL _ cL _ osR Ab ET p lo st cb j cc) ?_;rintro _ _ ⟨hD,rfl,rfl,osD⟩;refine⟨_,_,rfl,rfl,?_⟩))|refine Cu ?_|apply Cw|refine Cy ?_|refine CF ?_|apply Cz|refine C1 ?_)
    have e:(KN (G8 cs j)).filter (NO j)=leads cs:=by rw [leads,hl]
    rw [e] at osD ⊢
    exact CJ [J,hD] (CD (Cx rfl)) ⟨[hD],rfl,hD,_,_,rfl,rfl,osD⟩
theorem Tc(own:List CA)(p:Value)(lo st:Int)(cb:Option Addr)(cl cc:Nat)(cs:List Ins) [s:Ds own cb (CZ cs)](hl:cs.length=cl)(DO:cl≤1000000):
    SL.T Tryz.prog 178 [MR p lo st cb cl cc] own fun e o=>∃N,o=own++N/\∃h b c,e= .returned (.slice b (leads cs).length c)/\N= [h]/\OS h b (leads cs).length c 3 1 ((leads cs).map i64):=
  KH fun J hJ=>by
    haveI:=s.all hJ;exact RP J p lo st cb cl cc cs hl DO
theorem Sc{cs:List Ins}{z:Int}:z∈leads cs↔(0≤z/\z<cs.length)/\z∈G8 cs cs.length:=by
  unfold leads;rw [List.mem_filter,Qd];simp [NO,and_comm]
theorem TP(cs:List Ins):(leads cs).Pairwise (· < ·):=(KX _).filter _
theorem Nn(cs:List Ins):(leads cs).length≤1+2*cs.length:=
  Nat.le_trans (List.length_filter_le _ _) (Nat.le_trans (OH _) (Ki _ _))
theorem Sb{x:Ins}{k:Nat}{z:Int}:z∈IF x k↔(jmp x.1/\z=x.2.1)∨((x.1≠6/\x.1≠20)/\z=(k:Int)+1):=by
  unfold IF;rw [Qd,List.mem_append];constructor
  · rintro(h|h)
    · split at h
      · rename_i hj;exact .inl ⟨hj,by simpa using h⟩
      · cases h
    · split at h
      · rename_i hj;exact .inr ⟨hj,by simpa using h⟩
      · cases h
  · rintro(⟨h1,h2⟩|⟨h1,h2⟩)
    · left;rw [if_pos h1,h2];exact List.mem_singleton.2 rfl
    · right;rw [if_pos h1,h2];exact List.mem_singleton.2 rfl
end Go.Proofs.YtcnmnmjmpocepaaGreatDoor.Nd
end
section
namespace Go.Proofs.YtcnmnmjmpocepaaGreatDoor.Nd
open Go.SL
attribute [local irreducible] SL.T Dw DG DE DI Et D0
theorem fM{cs:List Ins}{at_ t:Int}:t∈Gp cs at_↔(0≤at_/\at_<cs.length)/\t∈IF (cs.getD at_.toNat (0,0,0)) at_.toNat:=by
  unfold Gp
  split
  · rename_i h;exact Iff.intro (fun x=>⟨h,x⟩) (fun x=>x.2)
  · rename_i h;exact Iff.intro (fun x=>absurd x Am) (fun x=>absurd x.1 h)
theorem Q6(J:CA)(p:Value)(lo st:Int)(cb:Option Addr)(cl cc:Nat)(cs:List Ins)(at_ t:Int) [Sl J cb (CZ cs)](hl:cs.length=cl)(DO:cl≤4000000):
    Dw Tryz.prog 121 [MR p lo st cb cl cc,i64 at_,i64 t] [J] (.bool (decide (t∈Gp cs at_))):=by
  by_cases FD:0≤at_/\at_<cl
  · obtain⟨k,rfl⟩:=Int.eq_ofNat_of_zero_le FD.1;have hk:k<cl:=by omega
    obtain⟨⟨op,a,b⟩,hx⟩:∃x,cs[k]?=some x:=⟨_,List.getElem?_eq_getElem Ab⟩;obtain⟨c0,c1,c2⟩:=D9 hx;have c0:(CZ cs)[((k:Nat):Int).toNat*3]?=some (i64 op):=c0;have c1:(CZ cs)[((k:Nat):Int).toNat*3+1]?=some (i64 a):=c1;have c2:(CZ cs)[((k:Nat):Int).toNat*3+2]?=some (i64 b):=c2;have hfl:=Dc cs;have hq:((k:Nat):Int).toNat*3<(CZ cs).length:=by simp;omega
    have e:(t∈Gp cs (k:Int))↔((op=6∨op=7∨op=8)/\t=a)∨((op≠6/\op≠20)/\t=(k:Int)+1):=by
      rw [Pn hx,Sb];simp [jmp]
    have e2:decide (t∈Gp cs (k:Int))=decide (((op=6∨op=7∨op=8)/\t=a)∨((op≠6/\op≠20)/\t=(k:Int)+1)):=decide_eq_decide.2 e;rw [e2];refine CL Tryz.func121 rfl (Nat.le_of_ble_eq_true rfl) fun F=> ?_
    repeat' (first|apply Cv|refine Ct 0 Cr Ay ?_|refine CG 0 Cs ?_|refine Ct 1 Cr Ao ?_|refine CG 1 Cs ?_|refine CG 2 Cs ?_|refine CY 2 Cr Bb Ab ?_|refine G5 2 Cr Al (fun h=> ?_) (fun h=> ?_)|refine Ct 3 Cr Bi ?_|refine Ct 4 Cr Ae ?_|refine C2 (fun β=> ?_)|refine CT (fun β=> ?_)|refine CN ?_|refine Cu ?_|apply Cw|refine Cy ?_|refine CH ?_|refine CF ?_|refine CC ?_|apply Cz|apply CB|refine CQ ?_|refine C3 ?_)
    all_goals
      refine CJ [J] (CD (Cx rfl)) ⟨?_,rfl⟩;refine congrArg _ (congrArg Value.bool ?_)
      symm
      first|exact decide_eq_true Ab|exact decide_eq_false Ab
  · have e:decide (t∈Gp cs at_)=false:=decide_eq_false fun h=>FD (by rw [<-hl];exact(fM.1 h).1)
    rw [e];refine CL Tryz.func121 rfl (Nat.le_of_ble_eq_true rfl) fun F=> ?_
    repeat' (first|apply Cv|refine Ct 0 Cr Ay ?_|refine CG 0 Cs ?_|refine CG 2 Cs ?_|refine CO 2 Cr Ar Ab ?_|refine G5 2 Cr Aj (fun h=> ?_) (fun h=> ?_)|refine Ct 3 Cr Af ?_|refine CG 3 Cs ?_|refine CG 4 Cs ?_|refine Ct 4 Cr Ae ?_|refine C2 (fun β=> ?_)|refine Cu ?_|apply Cw|refine Cy ?_|refine CH ?_|apply Cz|refine CQ ?_)
    all_goals first|(exfalso;omega)|exact CJ [J] (CD (Cx rfl)) ⟨rfl,rfl⟩
theorem Hn(own:List CA)(b1 b2:Option Addr)(n1 n2 c1 c2:Nat)(xs ys:List Int) [s1:Ds own b1 (xs.map i64)] [s2:Ds own b2 (ys.map i64)](h1:xs.length=n1)(h2:ys.length=n2)(DO:n1≤9223372036854775807):
    Dw Tryz.prog 70 [.slice b1 n1 c1,.slice b2 n2 c2] own (.bool (decide (xs=ys))):=by
  refine JB fun J hJ=> ?_
  haveI:=s1.all hJ;haveI:=s2.all hJ;by_cases hn:n1=n2
  · subst hn;refine CL Tryz.func70 rfl (Nat.le_of_ble_eq_true rfl) fun F=> ?_
    repeat' (first|apply Cv|refine Ct 0 Cr Ag ?_|refine CY 2 Cr Ax Ab ?_|refine Ct 4 Cr Ae ?_|refine Cu ?_|apply Cw|refine Cy ?_|refine CF ?_|refine CC ?_|apply CB)
    refine C4 (fun j:Nat=> [(0,.slice b1 n1 c1),(1,.slice b2 n1 c2),(5,i64 (j:Int))])
      (fun _=> [J]) (fun j=>j≤n1/\xs.take j=ys.take j) (fun j=>n1 - j) 0 (by repeat first|exact Sub.nil _|refine Sub.cons rfl ?_) ⟨Nat.zero_le _,rfl⟩ ?_
    rintro j ⟨LV,FF⟩;by_cases hj:j<n1
    · obtain⟨x,hx⟩:∃z,xs[j]?=some z:=⟨_,List.getElem?_eq_getElem Ab⟩;obtain⟨y,hy⟩:∃z,ys[j]?=some z:=⟨_,List.getElem?_eq_getElem Ab⟩;have hcx:(xs.map i64)[((j:Nat):Int).toNat*1]?=some (i64 x):=by simp [hx]
      have hcy:(ys.map i64)[((j:Nat):Int).toNat*1]?=some (i64 y):=by simp [hy]
      by_cases Jb:x=y
      · subst Jb
        repeat' (first|apply Cv|refine Ct 0 Cr Ag ?_|refine Ct 1 Cr Ao ?_|refine CO 2 Cr A5 Ab ?_|refine CY 2 Cr Ax Ab ?_|refine Ct 3 Cr AK ?_|refine Ct 4 Cr Ae ?_|refine Cu ?_|refine De Ac Ac rfl ?_|apply Cw|refine Cy ?_|refine CH ?_|refine CF ?_|refine CC ?_|apply CB)
        refine⟨rfl,j+1,CX (by repeat first|exact Sub.nil _|refine Sub.cons rfl ?_),⟨by omega,?_⟩,by omega⟩;rw [List.take_add_one,List.take_add_one,hx,hy,FF]
      · repeat' (first|apply Cv|refine Ct 0 Cr Ag ?_|refine CO 2 Cr A5 Ab ?_|refine Ct 3 Cr AK ?_|refine Ct 4 Cr Ae ?_|refine Cu ?_|refine De Ac Ac rfl ?_|apply Cw|refine Cy ?_|refine CH ?_|refine CC ?_|apply Cz|apply CB|refine CQ ?_|refine C3 ?_)
        refine CJ [J] (CD (Cx rfl)) ⟨?_,rfl⟩;refine congrArg _ (congrArg Value.bool (decide_eq_false fun e=>Jb ?_).symm);rw [e,hy] at hx;cases hx;rfl
    · repeat' (first|apply Cv|refine Ct 0 Cr Ag ?_|refine CY 2 Cr Aj Ab ?_|refine Ct 4 Cr Ae ?_|refine Cu ?_|apply Cw|refine Cy ?_|refine CF ?_|apply Cz|refine C1 ?_)
      rw [List.take_of_length_le Ab,List.take_of_length_le Ab] at FF
      rw [decide_eq_true FF];exact CJ [J] (CD (Cx rfl)) ⟨rfl,rfl⟩
  · have e:decide (xs=ys)=false:=decide_eq_false fun e=>hn (by rw [<-h1,<-h2,e])
    rw [e];refine CL Tryz.func70 rfl (Nat.le_of_ble_eq_true rfl) fun F=> ?_
    repeat' (first|apply Cv|refine Ct 0 Cr Ag ?_|refine CO 2 Cr Ax Ab ?_|refine Ct 4 Cr Ae ?_|refine Cu ?_|apply Cw|refine Cy ?_|refine CH ?_|apply Cz|refine CQ ?_)
    exact CJ [J] (CD (Cx rfl)) ⟨rfl,rfl⟩
end Go.Proofs.YtcnmnmjmpocepaaGreatDoor.Nd
end
