
import Derived.Test.YtcnmnmjmpocepaaGreatDoorU00
import Derived.Test.YtcnmnmjmpocepaaGreatDoorU11
import Derived.Test.YtcnmnmjmpocepaaGreatDoorU18
import Derived.Test.YtcnmnmjmpocepaaGreatDoorU10
import Derived.Test.YtcnmnmjmpocepaaGreatDoorU19
set_option linter.unusedVariables false
set_option linter.unusedSimpArgs false
set_option linter.unusedSectionVars false
set_option maxRecDepth 100000
set_option maxHeartbeats 16000000
section
namespace Go.Proofs.YtcnmnmjmpocepaaGreatDoor
open Kd
abbrev Fm:=List Int×List Int
abbrev Fs:=List (Option Fm)
abbrev Er:=Int×Int
def E1(σ:Fs)(to:Nat)(f:Fm):Except Er (Fs×Bool):=
  match σ[to]? with
  |none=> .ok (σ,false)
  |some none=> .ok (σ.set to (some f),true)
  |some (some g)=>if g.1.length=f.1.length/\g.2=f.2 then .ok (σ.set to (some (CP g.1 f.1,g.2)),decide (CP g.1 f.1≠g.1)) else .error (9,to)
def Gb(σ:Fs)(f:Fm):List Nat->Bool->Except Er (Fs×Bool)
  | [],b=> .ok (σ,b)
  | t::ts,b=>match E1 σ t f with
    | .error e=> .error e
    | .ok (Dj,c)=>Gb Dj f ts (b ||c)
noncomputable def Fw(im:Im)(mi:Int)(nx:Nat->List Nat)(σ:Fs)(at_:Nat)(b:Bool):Except Er (Fs×Bool):=
  match σ[at_]? with
  | some (some g)=>match Dv im mi at_ g.1 g.2 with
    | .inl c=> .error (c,at_)
    | .inr f=>Gb σ f (nx at_) b
  |_=> .ok (σ,b)
noncomputable def D1(im:Im)(mi:Int)(nx:Nat->List Nat):Fs->List Nat->Bool->Except Er (Fs×Bool)
  |σ,[],b=> .ok (σ,b)
  | σ,a::l,b=>match Fw im mi nx σ a b with
    | .error e=> .error e
    | .ok (Dj,b')=>D1 im mi nx Dj l b'
inductive Ew (im:Im) (mi:Int) (nx:Nat->List Nat) (n:Nat):Fs->Except Er Fs->Prop
  |bad {σ e}:D1 im mi nx σ (List.range n) false= .error e->Ew im mi nx n σ (.error e)
  |done {σ Dj}:D1 im mi nx σ (List.range n) false= .ok (Dj,false)->Ew im mi nx n σ (.ok Dj)
  |more {σ Dj r}:D1 im mi nx σ (List.range n) false= .ok (Dj,true)->Ew im mi nx n Dj r->Ew im mi nx n σ r
theorem Ew.iX{im:Im}{mi:Int}{nx:Nat->List Nat}{n:Nat}{σ:Fs}{r r':Except Er Fs}(h:Ew im mi nx n σ r)(h':Ew im mi nx n σ r'):r=r':=by
  induction h generalizing r' with
  | bad h=>cases h' with
    |bad h'=>rw [h] at h';cases h';rfl
    |done h'=>rw [h] at h';cases h'
    |more h' _=>rw [h] at h';cases h'
  | done h=>cases h' with
    |bad h'=>rw [h] at h';cases h'
    |done h'=>rw [h] at h';cases h';rfl
    |more h' _=>rw [h] at h';cases h'
  | more h _ ih=>cases h' with
    |bad h'=>rw [h] at h';cases h'
    |done h'=>rw [h] at h';cases h'
    |more h' h2=>rw [h] at h';cases h';exact ih h2
def known(l:List Int):Nat:=(l.filter (· ≠ -1)).length
theorem Yj(l:List Int):known l≤l.length:=List.length_filter_le _ _
theorem KM(x y:Int)(xs ys:List Int):CP (x::xs) (y::ys)=(if x=y then x else -1)::CP xs ys:=rfl
theorem Ob(x:Int)(xs:List Int):known (x::xs)=(if x= -1 then 0 else 1)+known xs:=by
  unfold known;by_cases h:x= -1
  · simp [h]
  · simp [h];omega
theorem Oa:∀ {xs ys:List Int},xs.length=ys.length->known (CP xs ys)≤known xs/\(CP xs ys≠xs->known (CP xs ys)<known xs)
  | [],[],_=>⟨Nat.le_refl _,fun h=>absurd rfl h⟩
  | x ::xs,y::ys,h=>by
    obtain⟨h1,h2⟩:=Oa (xs:=xs) (ys:=ys) (by simpa using h);rw [KM,Ob,Ob];by_cases e:x=y
    · rw [if_pos e];exact⟨by omega,fun q=>by have:=h2 (fun q2=>q (by rw [q2]));omega⟩
    · rw [if_neg e];by_cases e2:x= -1
      · rw [if_pos rfl,if_pos e2];exact⟨by omega,fun q=>by have:=h2 (fun q2=>q (by rw [q2,e2]));omega⟩
      · rw [if_pos rfl,if_neg e2];exact⟨by omega,fun _=>by omega⟩
def Sj:Option Fm->Nat
  |none=>65537
  |some g=>known g.1
def left(σ:Fs):Nat:=(σ.map Sj).sum
theorem Qo:∀ {σ:Fs} {i:Nat} {o:Option Fm} (o':Option Fm),σ[i]?=some o->left (σ.set i o')+Sj o=left σ+Sj o'
  | [],_,_,_,h=>by simp at h
  | a::σ,0,o,o',h=>by
    simp at h;subst h
    simp [left];omega
  | a::σ,i+1,o,o',h=>by
    have:=Qo (σ:=σ) (i:=i) o' (by simpa using h);simp [left] at this ⊢;omega
def Zr(σ:Fs):Prop:=∀g,some g∈σ->g.1.length≤65536
theorem UE{σ Dj:Fs}{to:Nat}{f:Fm}{c:Bool}(hf:f.1.length≤65536)(h:E1 σ to f= .ok (Dj,c)):
    left Dj≤left σ/\(c=true->left Dj<left σ)/\Dj.length=σ.length/\(Zr σ->Zr Dj):=by
  unfold E1 at h
  split at h
  · cases h;exact⟨Nat.le_refl _,(fun h=>by cases h),rfl,id⟩
  · rename_i e
    cases h
    have:=Qo (some f) e;have hk:=Yj f.1;simp only [Sj] at this
    refine⟨by omega,(fun _=>by omega),by simp,fun hF g hg=> ?_⟩;rcases List.mem_or_eq_of_mem_set hg with q|q
    · exact hF g q
    · cases q;exact hf
  · rename_i g e
    split at h
    · rename_i hc
      cases h
      have:=Qo (some (CP g.1 f.1,g.2)) e;obtain⟨k1,k2⟩:=Oa hc.1;simp only [Sj] at this
      refine⟨by omega,(fun q=>by have:=k2 (by simpa using q);omega),by simp,fun hF g' hg=> ?_⟩;rcases List.mem_or_eq_of_mem_set hg with q|q
      · exact hF g' q
      · cases q
        rw [Dz hc.1];exact hF g (List.mem_of_getElem? e)
    · cases h
theorem Ot{f:Fm}(hf:f.1.length≤65536):∀ {ts:List Nat} {σ Dj:Fs} {b c:Bool},Gb σ f ts b= .ok (Dj,c)->
    left Dj≤left σ/\(c=true->b=true∨left Dj<left σ)/\Dj.length=σ.length/\(Zr σ->Zr Dj)
  | [],σ,Dj,b,c,h=>by cases h;exact⟨Nat.le_refl _,(fun h=> .inl h),rfl,id⟩
  | t ::ts,σ,Dj,b,c,h=>by
    unfold Gb at h
    split at h
    · cases h
    · rename_i Rl c1 e
      obtain⟨a1,a2,a3,a4⟩:=UE hf e;obtain⟨b1,b2,b3,b4⟩:=Ot hf h;refine⟨by omega,(fun q=> ?_),by omega,fun q=>b4 (a4 q)⟩;rcases b2 q with q2|q2
      · rcases Bool.or_eq_true .. ▸q2 with q3|q3
        · exact .inl q3
        · have:=a2 q3;exact .inr Ab
      · exact .inr Ab
theorem Hv{im:Im}{mi at_:Int}{loc CX:List Int}{f:Fm}(h:Dv im mi at_ loc CX= .inr f):f.1.length=loc.length:=by
  unfold Dv at h
  repeat' split at h
  all_goals first|(cases h;done)|(cases h;simp only [List.length_set])|(cases h;rfl)
theorem RS{im:Im}{mi:Int}{nx:Nat->List Nat}{σ Dj:Fs}{a:Nat}{b c:Bool}(hF:Zr σ)(h:Fw im mi nx σ a b= .ok (Dj,c)):
    left Dj≤left σ/\(c=true->b=true∨left Dj<left σ)/\Dj.length=σ.length/\Zr Dj:=by
  unfold Fw at h
  split at h
  · rename_i g e
    split at h
    · cases h
    · rename_i f ef
      have hl:=Hv ef;have hg:=hF g (List.mem_of_getElem? e);obtain⟨a1,a2,a3,a4⟩:=Ot Ab h;exact⟨a1,a2,a3,a4 hF⟩
  · cases h;exact⟨Nat.le_refl _,(fun h=> .inl h),rfl,hF⟩
theorem HX{im:Im}{mi:Int}{nx:Nat->List Nat}:∀ {l:List Nat} {σ Dj:Fs} {b c:Bool},Zr σ->D1 im mi nx σ l b= .ok (Dj,c)->
    left Dj≤left σ/\(c=true->b=true∨left Dj<left σ)/\Dj.length=σ.length/\Zr Dj
  | [],σ,Dj,b,c,hF,h=>by cases h;exact⟨Nat.le_refl _,(fun h=> .inl h),rfl,hF⟩
  | a ::l,σ,Dj,b,c,hF,h=>by
    unfold D1 at h
    split at h
    · cases h
    · rename_i Rl c1 e
      obtain⟨a1,a2,a3,a4⟩:=RS hF e;obtain⟨b1,b2,b3,b4⟩:=HX a4 h;refine⟨by omega,(fun q=> ?_),by omega,b4⟩;rcases b2 q with q2|q2
      · rcases a2 q2 with q3|q3
        · exact .inl q3
        · exact .inr Ab
      · exact .inr Ab
theorem Wg(im:Im)(mi:Int)(nx:Nat->List Nat)(n:Nat):∀(k:Nat) (σ:Fs),left σ≤k->Zr σ->∃r,Ew im mi nx n σ r:=by
  intro k;induction k with
  | zero=>
    intro σ hk hF;cases h:D1 im mi nx σ (List.range n) false with
    |error e=>exact⟨_,.bad h⟩
    | ok p=>
      obtain⟨Dj,c⟩:=p;cases c with
      |false=>exact⟨_,.done h⟩
      | true=>
        obtain⟨a1,a2,a3,a4⟩:=HX hF h;rcases a2 rfl with q|q
        · cases q
        · omega
  | succ k ih=>
    intro σ hk hF;cases h:D1 im mi nx σ (List.range n) false with
    |error e=>exact⟨_,.bad h⟩
    | ok p=>
      obtain⟨Dj,c⟩:=p;cases c with
      |false=>exact⟨_,.done h⟩
      | true=>
        obtain⟨a1,a2,a3,a4⟩:=HX hF h;rcases a2 rfl with q|q
        · cases q
        · obtain⟨r,hr⟩:=ih Dj Ab a4;exact⟨r,.more h hr⟩
end Go.Proofs.YtcnmnmjmpocepaaGreatDoor
end
section
namespace Go.Proofs.YtcnmnmjmpocepaaGreatDoor
open Go.SL
open Kd
def GF(K:B6)(σ:Fs)(cs:List Value):Prop:=
  cs.length=σ.length*2/\∀(i:Nat) (g:Fm),σ[i]?=some (some g)->∃b1 c1 b2 c2,
    cs[i*2]?=some (.slice b1 g.1.length c1)/\cs[i*2+1]?=some (.slice b2 g.2.length c2)/\Sl K b1 (g.1.map i64)/\Sl K b2 (g.2.map i64)/\g.2.length≤c2
def Dp(σ:Fs):List Value:=σ.map fun o=> .bool o.isSome
theorem GF.mono{K K':B6}{σ:Fs}{cs:List Value}(h:GF K σ cs)(l:hle K K'):GF K' σ cs:=
  ⟨h.1,fun i g hg=>by
    obtain⟨b1,c1,b2,c2,h1,h2,h3,h4,h5⟩:=h.2 i g hg;exact⟨b1,c1,b2,c2,h1,h2,h3.mono l,h4.mono l,h5⟩⟩
theorem GF.set{K:B6}{σ:Fs}{cs:List Value}(h:GF K σ cs){t:Nat}(ht:t<σ.length){g:Fm}{b1 b2:Option Addr}{c1 c2:Nat}
    (s1:Sl K b1 (g.1.map i64)) (s2:Sl K b2 (g.2.map i64)) (hc:g.2.length≤c2):
    GF K (σ.set t (some g)) (cs.take (t*2)++ [.slice b1 g.1.length c1,.slice b2 g.2.length c2]++cs.drop (t*2+2)):=by
  obtain⟨hl,hk⟩:=h;have Em:(cs.take (t*2)).length=t*2:=by simp;omega
  refine⟨by simp;omega,fun i g' hg=> ?_⟩;by_cases e:i=t
  · subst e;rw [List.getElem?_set_self ht] at hg
    cases hg
    refine⟨b1,c1,b2,c2,?_,?_,s1,s2,hc⟩
    · rw [List.append_assoc,List.getElem?_append_right Ab,Em,Nat.sub_self];rfl
    · rw [List.append_assoc,List.getElem?_append_right Ab,Em,show i*2+1 - i*2=1 from by omega];rfl
  · rw [List.getElem?_set_ne (Ne.symm e)] at hg
    obtain⟨d1,e1,d2,e2,q1,q2,q3,q4,q5⟩:=hk i g' hg;refine⟨d1,e1,d2,e2,?_,?_,q3,q4,q5⟩
    · by_cases hi:i<t
      · rw [List.append_assoc,List.getElem?_append_left Ab,List.getElem?_take,if_pos Ab,q1]
      · rw [List.getElem?_append_right Aq,List.getElem?_drop,<-q1]
        congr 1;simp;omega
    · by_cases hi:i<t
      · rw [List.append_assoc,List.getElem?_append_left Ab,List.getElem?_take,if_pos Ab,q2]
      · rw [List.getElem?_append_right Aq,List.getElem?_drop,<-q2]
        congr 1;simp;omega
theorem On{σ:Fs}{t:Nat}(g:Fm):Dp (σ.set t (some g))=(Dp σ).set t (.bool true):=by
  simp [Dp,List.map_set]
theorem F3{σ:Fs}{t:Nat}{o:Option Fm}(h:σ[t]?=some o):(Dp σ)[t]?=some (.bool o.isSome):=by simp [Dp,h]
theorem P6{σ:Fs}{t:Nat}{g g':Fm}(h:σ[t]?=some (some g')):Dp (σ.set t (some g))=Dp σ:=by
  apply List.ext_getElem?;intro i;by_cases e:t=i
  · subst e;have hl:=(List.getElem?_eq_some_iff.1 h).1;rw [On,List.getElem?_set_self (by simpa [Dp] using hl),F3 h];rfl
  · rw [On,List.getElem?_set_ne e]
end Go.Proofs.YtcnmnmjmpocepaaGreatDoor
end
section
namespace Go.Proofs.YtcnmnmjmpocepaaGreatDoor
open Go.SL
open Kd
abbrev G3(Dq:Nat)(pb:Option Addr)(pn pc:Nat)(lo st:Int)(cb:Option Addr)(cn cc:Nat)(DF:Option Addr)(DW EG:Nat)(mb:Option Addr)(mn mc:Nat)(mi:Int)(fb hb:Option Addr)(n:Nat):B6:=
  Co Dq (.cells ⟨[.slice pb pn pc,i64 lo,i64 st,.slice cb cn cc,.slice DF DW EG,.slice mb mn mc,i64 mi,.slice fb n n,.slice hb n n]⟩ 102 (0,0))
theorem KP{σ:Fs}{t:Nat}(g:Fm)(ht:t<σ.length):(Dp σ).take (t*1)++ [.bool true]++(Dp σ).drop (t*1+1)=Dp (σ.set t (some g)):=by
  rw [On,Nat.mul_one,List.set_eq_take_append_cons_drop,if_pos (by simpa [Dp] using ht)];simp
attribute [local irreducible] SL.T C7 Dc C6 Db DS Du
theorem YJ(K HF HH:B6)(Dq:Nat)(pb:Option Addr)(pn pc:Nat)(lo st:Int)(cb:Option Addr)(cn cc:Nat)(DF:Option Addr)(DW EG:Nat)(mb:Option Addr)(mn mc:Nat)(mi:Int)(fb hb b1 b2:Option Addr)(n c1 c2 t:Nat)(σ:Fs)(cs:List Value)(g:Fm)
    (WD:t<n) (hn:σ.length=n) (hs:σ[t]?=some none) (IL:OS HF fb n n 59 2 cs) (IE:OS HH hb n n 4 1 (Dp σ)) (hF:GF K σ cs) (s1:Sl K b1 (g.1.map i64)) (s2:Sl K b2 (g.2.map i64)) (hc:g.2.length≤c2) (DE:n≤4000000):
    SL.T Tryz.prog 67 [.pointer (some ⟨Dq,0,none⟩),i64 (t:Int),fr b1 b2 g.1.length g.2.length c1 c2] [G3 Dq pb pn pc lo st cb cn cc DF DW EG mb mn mc mi fb hb n,HF,HH,K] fun e o=>
      ∃HF' HH' cs',o= [G3 Dq pb pn pc lo st cb cn cc DF DW EG mb mn mc mi fb hb n,HF',HH',K]/\e= .returned (.tuple #[.bool true,.nilIface])/\OS HF' fb n n 59 2 cs'/\OS HH' hb n n 4 1 (Dp (σ.set t (some g)))/\GF K (σ.set t (some g)) cs':=by
  haveI Wb:=IE.sl;haveI XL:=IL.sl;have Kl:=hF.1;have hhl:(Dp σ).length=n:=by simp [Dp,hn]
  have hkf:((t:Nat):Int).toNat*2<cs.length:=by simp;omega
  have hkh:((t:Nat):Int).toNat*1<(Dp σ).length:=by simp;omega
  have Xh:(Dp σ)[((t:Nat):Int).toNat*1]?=some (.bool false):=by simpa using F3 hs
  refine Ch Tryz.func67 rfl (Nat.le_of_ble_eq_true rfl) fun F=> ?_
  repeat' (first|apply B4|refine B3 0 BY AW ?_|refine B3 3 BY AA ?_|refine B3 5 BY Al ?_|refine CF (fun β=> ?_)|refine B0 ?_|apply B5|refine B8 ?_|refine Cl ?_)
  refine Cu [.q [0,1,2,3,4,5,6,7,8],.f [9],.r [10],.q [11],.h true 12,.q [13],.h true 14] [G3 Dq pb pn pc lo st cb cn cc DF DW EG mb mn mc mi fb hb n,Co β (.cells ⟨[.slice b1 g.1.length c1,.slice b2 g.2.length c2]⟩ 59 (0,0))] Ac Ac Ac Ac ?_
  repeat' (first|apply B4|refine B3 0 BY Af ?_|refine B3 3 BY Bd ?_|refine B3 5 BY Al ?_|refine B0 ?_|refine Cz ?_|refine CQ rfl ?_|refine FD rfl ?_|refine MV rfl ?_|refine D3 rfl rfl rfl rfl rfl rfl IE rfl rfl rfl (Nat.succ_pos _) Aq (KP g Ab) (fun hA RW=> ?_)|refine D3 rfl rfl rfl rfl rfl rfl IL rfl rfl rfl (Nat.succ_pos _) Aq rfl (fun hB Ro=> ?_)|apply B5|refine B8 ?_|apply Cb|refine Cx ?_)
  exact Cj [G3 Dq pb pn pc lo st cb cn cc DF DW EG mb mn mc mi fb hb n,hB,hA,K] (Ct (B7 rfl) (B7 rfl)) ⟨hB,hA,_,rfl,rfl,Ro,RW,hF.set Ab s1 s2 hc⟩
end Go.Proofs.YtcnmnmjmpocepaaGreatDoor
end
section
namespace Go.Proofs.YtcnmnmjmpocepaaGreatDoor
open Go.SL
open Kd
attribute [local irreducible] SL.T C7 Dc C6 Db DS Du
theorem WR(K HF HH:B6)(Dq:Nat)(pb:Option Addr)(pn pc:Nat)(lo st:Int)(cb:Option Addr)(cn cc:Nat)(DF:Option Addr)(DW EG:Nat)(mb:Option Addr)(mn mc:Nat)(mi:Int)(fb hb b1 b2:Option Addr)(n c1 c2 t:Nat)(σ:Fs)(cs:List Value)(g g0:Fm)
    (WD:t<n) (hn:σ.length=n) (hs:σ[t]?=some (some g0)) (IL:OS HF fb n n 59 2 cs) (IE:OS HH hb n n 4 1 (Dp σ)) (hF:GF K σ cs) (s1:Sl K b1 (g.1.map i64)) (s2:Sl K b2 (g.2.map i64)) (DE:n≤4000000)
    (hl:g0.1.length=g.1.length) (h2:g0.2=g.2) (Zn:g.1.length≤4000000) (bq:g.2.length≤4000000):
    SL.T Tryz.prog 67 [.pointer (some ⟨Dq,0,none⟩),i64 (t:Int),fr b1 b2 g.1.length g.2.length c1 c2] [G3 Dq pb pn pc lo st cb cn cc DF DW EG mb mn mc mi fb hb n,HF,HH,K] fun e o=>
      ∃HF' K' cs',o= [G3 Dq pb pn pc lo st cb cn cc DF DW EG mb mn mc mi fb hb n,HF',HH,K']/\hle K K'/\e= .returned (.tuple #[.bool (decide (CP g0.1 g.1≠g0.1)),.nilIface])/\OS HF' fb n n 59 2 cs'/\GF K' (σ.set t (some (CP g0.1 g.1,g0.2))) cs':=by
  haveI Wb:=IE.sl;haveI XL:=IL.sl;have Kl:=hF.1;have hhl:(Dp σ).length=n:=by simp [Dp,hn]
  have hkf:((t:Nat):Int).toNat*2<cs.length:=by simp;omega
  have hkh:((t:Nat):Int).toNat*1<(Dp σ).length:=by simp;omega
  have Xh:(Dp σ)[((t:Nat):Int).toNat*1]?=some (.bool true):=by simpa using F3 hs
  obtain⟨d1,e1,d2,e2,q1,q2,q3,q4,q5⟩:=hF.2 t g0 hs;have P5:cs[((t:Nat):Int).toNat*2]?=some (.slice d1 g0.1.length e1):=q1;have LD:cs[((t:Nat):Int).toNat*2+1]?=some (.slice d2 g0.2.length e2):=q2;have hJ:=dG K d1 d2 b1 b2 g0.1.length g0.2.length g.1.length g.2.length e1 e2 c1 c2 g0.1 g0.2 g.1 g.2 q3 q4 s1 s2 rfl rfl rfl rfl Ab (by rw [h2];omega) hl h2;have Zp:=Dz hl;refine Ch Tryz.func67 rfl (Nat.le_of_ble_eq_true rfl) fun F=> ?_
  repeat' (first|apply B4|refine B3 0 BY AH ?_|refine B3 3 BY AA ?_|refine B3 5 BY Al ?_|refine CF (fun β=> ?_)|refine B0 ?_|apply B5|refine B8 ?_|refine Cg ?_|apply Cc)
  refine Cu [.q [0,1,2,3,4,5,6,7],.an 12,.h true 8,.q [9,10],.f [11],.rv 12,.h true 13,.q [14]] [] Ac Ac Ac Ac ?_
  repeat' (first|apply B4|refine B3 0 BY AL ?_|refine B3 3 BY AZ ?_|refine B3 5 BY Al ?_|refine B0 ?_|refine Cz ?_|refine CQ rfl ?_|refine FD rfl ?_|refine Dg rfl rfl AK ?_|refine DL rfl rfl rfl (fun β=> ?_)|refine C2 rfl rfl rfl rfl rfl rfl Aa rfl Aa Aa ?_|(refine Fx rfl rfl rfl rfl rfl rfl rfl rfl (hJ) ?_;rintro _ _ ⟨K',rfl,lK,f1,v1,f2,v2,rfl,r1,r2,r3⟩;refine⟨_,_,rfl,rfl,?_⟩)|apply B5|refine B8 ?_|refine Cg ?_|apply Cc)
  haveI:=r1;haveI:=r2;haveI q3':=q3.mono lK;haveI q4':=q4.mono lK;have hS:=UT [K'] f1 f2 d1 d2 g0.1.length g0.2.length g0.1.length g0.2.length v1 v2 e1 e2 (CP g0.1 g.1) g0.2 g0.1 g0.2 Zp rfl rfl rfl Ab (by rw [h2];omega)
  repeat' (first|apply B4)
  refine C5 Ac Ac rfl ?_
  repeat' (first|apply B4|refine B3 0 BY Bf ?_|refine B3 3 BY AZ ?_|refine B3 4 BY (Ca rfl rfl rfl rfl rfl (hS)) ?_|refine B3 5 BY Al ?_|apply B5)
  refine Cu [.q [0,1,2,3,4,5,6],.h true 7] [] Ac Ac Ac Ac ?_
  repeat' (first|apply B4|refine B3 0 BY Af ?_|refine B3 3 BY Bd ?_|refine B3 5 BY Al ?_|refine B0 ?_|refine Cz ?_|refine CQ rfl ?_|refine D3 rfl rfl rfl rfl rfl rfl IL rfl rfl rfl (Nat.succ_pos _) Aq rfl (fun hB Ro=> ?_)|apply B5|refine B8 ?_|apply Cb)
  have hset:=(hF.mono lK).set (t:=t) (g:=(CP g0.1 g.1,g0.2)) (b1:=f1) (b2:=f2) (c1:=v1) (c2:=v2) Ab r1 r2 r3;rw [Zp] at hset
  refine Cj [G3 Dq pb pn pc lo st cb cn cc DF DW EG mb mn mc mi fb hb n,hB,HH,K'] (Ct (B7 rfl) (B7 rfl)) ⟨hB,K',_,rfl,lK,?_,Ro,hset⟩
  congr 5
  by_cases e:CP g0.1 g.1=g0.1 <;>simp [e]
end Go.Proofs.YtcnmnmjmpocepaaGreatDoor
end
section
namespace Go.Proofs.YtcnmnmjmpocepaaGreatDoor
open Go.SL
open Kd
abbrev Ka(β:Nat):Value:= .iface 163 (.agg ⟨[.pointer (some ⟨β,0,none⟩)]⟩)
abbrev D8(β:Nat)(c mi at_:Int):B6:=Co β (.cells ⟨[i64 c,i64 mi,i64 at_]⟩ 43 (0,0))
attribute [local irreducible] SL.T C7 Dc C6 Db DS Du
theorem H8(Dq:Nat)(pb:Option Addr)(pn pc:Nat)(lo st:Int)(cb:Option Addr)(cn cc:Nat)(DF:Option Addr)(DW EG:Nat)(mb:Option Addr)(mn mc:Nat)(mi:Int)(fb hb:Option Addr)(n:Nat)(c at_:Int):
    SL.T Tryz.prog 40 [.pointer (some ⟨Dq,0,none⟩),i64 c,i64 at_] [G3 Dq pb pn pc lo st cb cn cc DF DW EG mb mn mc mi fb hb n] fun e o=>
      ∃D6,o= [G3 Dq pb pn pc lo st cb cn cc DF DW EG mb mn mc mi fb hb n,D8 D6 c mi at_]/\e= .returned (Ka D6):=by
  refine Ch Tryz.func40 rfl (Nat.le_of_ble_eq_true rfl) fun F=> ?_
  repeat' (first|refine Cq rfl rfl rfl (EN rfl rfl rfl) ?_|apply B4|refine B3 0 BY Af ?_|refine B3 3 BY Ah ?_|refine B3 5 BY A4 ?_|refine CF (fun β=> ?_)|refine B0 ?_|apply B5|refine B8 ?_|apply Cb)
  exact Cj [G3 Dq pb pn pc lo st cb cn cc DF DW EG mb mn mc mi fb hb n,D8 β c mi at_] (Ce (B7 rfl)) ⟨β,rfl,rfl⟩
theorem UD(K HF HH:B6)(Dq:Nat)(pb:Option Addr)(pn pc:Nat)(lo st:Int)(cb:Option Addr)(cn cc:Nat)(DF:Option Addr)(DW EG:Nat)(mb:Option Addr)(mn mc:Nat)(mi:Int)(fb hb b1 b2:Option Addr)(n c1 c2 t:Nat)(σ:Fs)(cs:List Value)(g g0:Fm)
    (WD:t<n) (hn:σ.length=n) (hs:σ[t]?=some (some g0)) (IL:OS HF fb n n 59 2 cs) (IE:OS HH hb n n 4 1 (Dp σ)) (hF:GF K σ cs) (s1:Sl K b1 (g.1.map i64)) (s2:Sl K b2 (g.2.map i64)) (DE:n≤4000000)
    (hd:¬(g0.1.length=g.1.length/\g0.2=g.2)) (Zn:g0.1.length≤4000000) (bq:g0.2.length≤4000000):
    SL.T Tryz.prog 67 [.pointer (some ⟨Dq,0,none⟩),i64 (t:Int),fr b1 b2 g.1.length g.2.length c1 c2] [G3 Dq pb pn pc lo st cb cn cc DF DW EG mb mn mc mi fb hb n,HF,HH,K] fun e o=>
      ∃D6,o= [G3 Dq pb pn pc lo st cb cn cc DF DW EG mb mn mc mi fb hb n,HF,HH,K,D8 D6 9 mi t]/\e= .returned (.tuple #[.bool false,Ka D6]):=by
  haveI Wb:=IE.sl;haveI XL:=IL.sl;have Kl:=hF.1;have hhl:(Dp σ).length=n:=by simp [Dp,hn]
  have hkf:((t:Nat):Int).toNat*2<cs.length:=by simp;omega
  have hkh:((t:Nat):Int).toNat*1<(Dp σ).length:=by simp;omega
  have Xh:(Dp σ)[((t:Nat):Int).toNat*1]?=some (.bool true):=by simpa using F3 hs
  obtain⟨d1,e1,d2,e2,q1,q2,q3,q4,q5⟩:=hF.2 t g0 hs;have P5:cs[((t:Nat):Int).toNat*2]?=some (.slice d1 g0.1.length e1):=q1;have LD:cs[((t:Nat):Int).toNat*2+1]?=some (.slice d2 g0.2.length e2):=q2;haveI:=s1;haveI:=s2;haveI:=q3;haveI:=q4;have hJ:=W7 K d1 d2 b1 b2 g0.1.length g0.2.length g.1.length g.2.length e1 e2 c1 c2 g0.1 g0.2 g.1 g.2 rfl rfl rfl rfl Zn bq hd;have hfl:=H8 Dq pb pn pc lo st cb cn cc DF DW EG mb mn mc mi fb hb n 9 (t:Int);refine Ch Tryz.func67 rfl (Nat.le_of_ble_eq_true rfl) fun F=> ?_
  repeat' (first|apply B4|refine B3 0 BY AH ?_|refine B3 3 BY AA ?_|refine B3 5 BY Al ?_|refine CF (fun β=> ?_)|refine B0 ?_|apply B5|refine B8 ?_|refine Cg ?_|apply Cc)
  refine Cu [.q [0,1,2,3,4,5,6,7],.an 12,.h false 8,.q [9,10],.f [11],.rv 12,.h true 13,.q [14]] [] Ac Ac Ac Ac ?_
  repeat' (first|apply B4|refine B3 0 BY A2 ?_|refine B3 3 BY AZ ?_|(refine gk 4 rfl ?_;(refine B9 rfl rfl rfl rfl rfl rfl rfl rfl (hfl) ?_;rintro _ _ ⟨D6,rfl,rfl⟩;refine⟨_,_,rfl,rfl,?_⟩))|refine B3 5 BY Al ?_|refine B0 ?_|refine Cz ?_|refine CQ rfl ?_|refine FD rfl ?_|refine Dg rfl rfl AK ?_|refine DL rfl rfl rfl (fun β=> ?_)|refine C2 rfl rfl rfl rfl rfl rfl Aa rfl Aa Aa ?_|refine Jb rfl rfl rfl rfl rfl rfl rfl rfl (hJ) rfl ?_|apply B5|refine B8 ?_|refine Cl ?_|apply Cb|refine Cx ?_)
  exact Cj [G3 Dq pb pn pc lo st cb cn cc DF DW EG mb mn mc mi fb hb n,HF,HH,K,D8 D6 9 mi t] (Ct (B7 rfl) (B7 rfl)) ⟨D6,rfl,rfl⟩
end Go.Proofs.YtcnmnmjmpocepaaGreatDoor
end
section
namespace Go.Proofs.YtcnmnmjmpocepaaGreatDoor
open Go.SL
open Kd
theorem ZQ(K:B6)(a b a' b':Option Addr)(n m n' m' c d c' d':Nat)(xs ys HR J9:List Int)(s1:Sl K a (xs.map i64))(s2:Sl K b (ys.map i64))(s3:Sl K a' (HR.map i64))(s4:Sl K b' (J9.map i64))
    (h1:xs.length=n) (h2:ys.length=m) (h3:HR.length=n') (h4:J9.length=m') (DE:n≤4000000) (Pk:m≤4000000) (hn:n=n') (hy:ys=J9):
    SL.T Tryz.prog 129 [fr a b n m c d,fr a' b' n' m' c' d'] [K] fun e o=>∃K',o= [K']/\hle K K'/\∃b1 c1 b2 c2,e= .returned (.tuple #[fr b1 b2 n m c1 c2,.bool true])/\Sl K' b1 ((CP xs HR).map i64)/\Sl K' b2 (ys.map i64)/\m≤c2:=by
  subst hn;subst hy;refine(Ib (R:=fun e A N=>A= []/\∃h1 h2 b1 c1 b2 c2,N= [K,h1,h2]/\e= .returned (.tuple #[fr b1 b2 n m c1 c2,.bool true])/\OS h1 b1 n c1 79 1 ((CP xs HR).map i64)/\OS h2 b2 m c2 79 1 (ys.map i64)) ((RN K a b a' b' n m m' c d c' d' xs ys HR s1 s2 s3 s4 h1 h2 h3 h4 DE Pk).mono ?_)).mono ?_
  · rintro e o ⟨q1,q2,b1,c1,b2,c2,rfl,rfl,EH,GC⟩;exact⟨[],_,by simp,rfl,q1,q2,b1,c1,b2,c2,rfl,rfl,EH,GC⟩
  · rintro e o ⟨A,N,K',rfl,hK,rfl,q1,q2,b1,c1,b2,c2,rfl,rfl,EH,GC⟩;exact⟨K',rfl,hK K Ak,b1,c1,b2,c2,rfl,EH.sl.mono (hK q1 Ak),GC.sl.mono (hK q2 Ak),GC.hle⟩
abbrev MY(Dq:Nat)(fb hb:Option Addr)(n:Nat)(c m at_:Int):B6:=Co Dq (.cells ⟨[.slice fb n n,.slice hb n n,i64 c,i64 m,i64 at_]⟩ 55 (0,0))
attribute [local irreducible] SL.T C7 Dc C6 Db DS Du
theorem Wh(K HF HH:B6)(Dq:Nat)(wc wm wa mi:Int)(fb hb b1 b2:Option Addr)(n c1 c2 t:Nat)(σ:Fs)(cs:List Value)(g:Fm)
    (WD:t<n) (hn:σ.length=n) (hs:σ[t]?=some none) (IL:OS HF fb n n 60 2 cs) (IE:OS HH hb n n 4 1 (Dp σ)) (hF:GF K σ cs) (s1:Sl K b1 (g.1.map i64)) (s2:Sl K b2 (g.2.map i64)) (hc:g.2.length≤c2) (DE:n≤4000000):
    SL.T Tryz.prog 74 [.pointer (some ⟨Dq,0,none⟩),i64 mi,i64 (t:Int),fr b1 b2 g.1.length g.2.length c1 c2] [MY Dq fb hb n wc wm wa,HF,HH,K] fun e o=>
      ∃HF' HH' cs',o= [MY Dq fb hb n wc wm wa,HF',HH',K]/\e= .returned (.bool true)/\OS HF' fb n n 60 2 cs'/\OS HH' hb n n 4 1 (Dp (σ.set t (some g)))/\GF K (σ.set t (some g)) cs':=by
  haveI Wb:=IE.sl;haveI XL:=IL.sl;have Kl:=hF.1;have hhl:(Dp σ).length=n:=by simp [Dp,hn]
  have hkf:((t:Nat):Int).toNat*2<cs.length:=by simp;omega
  have hkh:((t:Nat):Int).toNat*1<(Dp σ).length:=by simp;omega
  have Xh:(Dp σ)[((t:Nat):Int).toNat*1]?=some (.bool false):=by simpa using F3 hs
  refine Ch Tryz.func74 rfl (Nat.le_of_ble_eq_true rfl) fun F=> ?_
  repeat' (first|refine Hw rfl rfl rfl rfl rfl IE rfl rfl rfl (Nat.succ_pos _) Aq (KP g Ab) (fun hA RW=> ?_)|apply B4|refine B3 0 BY AW ?_|refine B3 3 BY AA ?_|refine B3 5 BY Al ?_|refine CF (fun β=> ?_)|refine B0 ?_|apply B5|refine B8 ?_|refine Cl ?_)
  refine Cu [.q [0,1,2,3,4,5,6],.h true 7] [] Ac Ac Ac Ac ?_
  repeat' (first|apply B4|refine B3 0 BY Af ?_|refine B3 3 BY Bd ?_|refine B3 5 BY Al ?_|refine B0 ?_|refine Cz ?_|refine CQ rfl ?_|refine D3 rfl rfl rfl rfl rfl rfl IL rfl rfl rfl (Nat.succ_pos _) Aq rfl (fun hB Ro=> ?_)|apply B5|refine B8 ?_|apply Cb|refine Cx ?_)
  exact Cj [MY Dq fb hb n wc wm wa,hB,hA,K] (Ce (B7 rfl)) ⟨hB,hA,_,rfl,rfl,Ro,RW,hF.set Ab s1 s2 hc⟩
theorem TZ(K HF HH:B6)(Dq:Nat)(wc wm wa mi:Int)(fb hb b1 b2:Option Addr)(n c1 c2 t:Nat)(σ:Fs)(cs:List Value)(g g0:Fm)
    (WD:t<n) (hn:σ.length=n) (hs:σ[t]?=some (some g0)) (IL:OS HF fb n n 60 2 cs) (IE:OS HH hb n n 4 1 (Dp σ)) (hF:GF K σ cs) (s1:Sl K b1 (g.1.map i64)) (s2:Sl K b2 (g.2.map i64)) (DE:n≤4000000)
    (hl:g0.1.length=g.1.length) (h2:g0.2=g.2) (Zn:g.1.length≤4000000) (bq:g.2.length≤4000000):
    SL.T Tryz.prog 74 [.pointer (some ⟨Dq,0,none⟩),i64 mi,i64 (t:Int),fr b1 b2 g.1.length g.2.length c1 c2] [MY Dq fb hb n wc wm wa,HF,HH,K] fun e o=>
      ∃HF' K' cs',o= [MY Dq fb hb n wc wm wa,HF',HH,K']/\hle K K'/\e= .returned (.bool (decide (CP g0.1 g.1≠g0.1)))/\OS HF' fb n n 60 2 cs'/\GF K' (σ.set t (some (CP g0.1 g.1,g0.2))) cs':=by
  haveI Wb:=IE.sl;haveI XL:=IL.sl;have Kl:=hF.1;have hhl:(Dp σ).length=n:=by simp [Dp,hn]
  have hkf:((t:Nat):Int).toNat*2<cs.length:=by simp;omega
  have hkh:((t:Nat):Int).toNat*1<(Dp σ).length:=by simp;omega
  have Xh:(Dp σ)[((t:Nat):Int).toNat*1]?=some (.bool true):=by simpa using F3 hs
  obtain⟨d1,e1,d2,e2,q1,q2,q3,q4,q5⟩:=hF.2 t g0 hs;have P5:cs[((t:Nat):Int).toNat*2]?=some (.slice d1 g0.1.length e1):=q1;have LD:cs[((t:Nat):Int).toNat*2+1]?=some (.slice d2 g0.2.length e2):=q2;have hJ:=ZQ K d1 d2 b1 b2 g0.1.length g0.2.length g.1.length g.2.length e1 e2 c1 c2 g0.1 g0.2 g.1 g.2 q3 q4 s1 s2 rfl rfl rfl rfl Ab (by rw [h2];omega) hl h2;have Zp:=Dz hl;refine Ch Tryz.func74 rfl (Nat.le_of_ble_eq_true rfl) fun F=> ?_
  repeat' (first|apply B4|refine B3 0 BY AH ?_|refine B3 3 BY AA ?_|refine B3 5 BY Al ?_|refine CF (fun β=> ?_)|refine B0 ?_|apply B5|refine B8 ?_|refine Cg ?_|apply Cc)
  refine Cu [.q [0,1,2,3,4,5,6,7],.an 12,.h true 8,.q [9,10],.f [11],.rv 12,.h true 13,.q [14]] [] Ac Ac Ac Ac ?_
  repeat' (first|apply B4|refine B3 0 BY AL ?_|refine B3 3 BY AZ ?_|refine B3 5 BY Al ?_|refine B0 ?_|refine Cz ?_|refine CQ rfl ?_|refine FD rfl ?_|refine Dg rfl rfl AK ?_|refine DL rfl rfl rfl (fun β=> ?_)|refine C2 rfl rfl rfl rfl rfl rfl Aa rfl Aa Aa ?_|(refine Fx rfl rfl rfl rfl rfl rfl rfl rfl (hJ) ?_;rintro _ _ ⟨K',rfl,lK,f1,v1,f2,v2,rfl,r1,r2,r3⟩;refine⟨_,_,rfl,rfl,?_⟩)|apply B5|refine B8 ?_|refine Cg ?_|apply Cc)
  haveI:=r1;haveI:=r2;haveI q3':=q3.mono lK;haveI q4':=q4.mono lK;have hS:=RM [K'] f1 f2 d1 d2 g0.1.length g0.2.length g0.1.length g0.2.length v1 v2 e1 e2 (CP g0.1 g.1) g0.2 g0.1 g0.2 Zp rfl rfl rfl Ab (by rw [h2];omega)
  repeat' (first|apply B4)
  refine C5 Ac Ac rfl ?_
  repeat' (first|apply B4|refine B3 0 BY Bf ?_|refine B3 3 BY AZ ?_|refine B3 4 BY (Ca rfl rfl rfl rfl rfl (hS)) ?_|refine B3 5 BY Al ?_|apply B5)
  refine Cu [.q [0,1,2,3,4,5,6],.h true 7] [] Ac Ac Ac Ac ?_
  repeat' (first|apply B4|refine B3 0 BY Af ?_|refine B3 3 BY Bd ?_|refine B3 5 BY Al ?_|refine B0 ?_|refine Cz ?_|refine CQ rfl ?_|refine D3 rfl rfl rfl rfl rfl rfl IL rfl rfl rfl (Nat.succ_pos _) Aq rfl (fun hB Ro=> ?_)|apply B5|refine B8 ?_|apply Cb)
  have hset:=(hF.mono lK).set (t:=t) (g:=(CP g0.1 g.1,g0.2)) (b1:=f1) (b2:=f2) (c1:=v1) (c2:=v2) Ab r1 r2 r3;rw [Zp] at hset
  refine Cj [MY Dq fb hb n wc wm wa,hB,HH,K'] (Ce (B7 rfl)) ⟨hB,K',_,rfl,lK,?_,Ro,hset⟩
  congr 2
  by_cases e:CP g0.1 g.1=g0.1 <;>simp [e]
end Go.Proofs.YtcnmnmjmpocepaaGreatDoor
end
section
namespace Go.Proofs.YtcnmnmjmpocepaaGreatDoor
open Go.SL
open Kd
attribute [local irreducible] SL.T C7 Dc C6 Db DS Du
theorem RL(K HF HH:B6)(Dq:Nat)(wc wm wa mi:Int)(fb hb b1 b2:Option Addr)(n c1 c2 t:Nat)(σ:Fs)(cs:List Value)(g g0:Fm)
    (WD:t<n) (hn:σ.length=n) (hs:σ[t]?=some (some g0)) (IL:OS HF fb n n 60 2 cs) (IE:OS HH hb n n 4 1 (Dp σ)) (hF:GF K σ cs) (s1:Sl K b1 (g.1.map i64)) (s2:Sl K b2 (g.2.map i64)) (DE:n≤4000000)
    (hd:¬(g0.1.length=g.1.length/\g0.2=g.2)) (Zn:g0.1.length≤4000000) (bq:g0.2.length≤4000000) (gx:g.1.length≤4000000):
    SL.T Tryz.prog 74 [.pointer (some ⟨Dq,0,none⟩),i64 mi,i64 (t:Int),fr b1 b2 g.1.length g.2.length c1 c2] [MY Dq fb hb n wc wm wa,HF,HH,K] fun e o=>
      o= [MY Dq fb hb n 9 mi t,HF,HH,K]/\e= .returned (.bool false):=by
  haveI Wb:=IE.sl;haveI XL:=IL.sl;have Kl:=hF.1;have hhl:(Dp σ).length=n:=by simp [Dp,hn]
  have hkf:((t:Nat):Int).toNat*2<cs.length:=by simp;omega
  have hkh:((t:Nat):Int).toNat*1<(Dp σ).length:=by simp;omega
  have Xh:(Dp σ)[((t:Nat):Int).toNat*1]?=some (.bool true):=by simpa using F3 hs
  obtain⟨d1,e1,d2,e2,q1,q2,q3,q4,q5⟩:=hF.2 t g0 hs;have P5:cs[((t:Nat):Int).toNat*2]?=some (.slice d1 g0.1.length e1):=q1;have LD:cs[((t:Nat):Int).toNat*2+1]?=some (.slice d2 g0.2.length e2):=q2;haveI:=s1;haveI:=s2;haveI:=q3;haveI:=q4;have hJ:=XT [K] d1 d2 b1 b2 g0.1.length g0.2.length g.1.length g.2.length e1 e2 c1 c2 g0.2 g.2 rfl rfl Zn bq gx hd;refine Ch Tryz.func74 rfl (Nat.le_of_ble_eq_true rfl) fun F=> ?_
  repeat' (first|apply B4|refine B3 0 BY AH ?_|refine B3 3 BY AA ?_|refine B3 5 BY Al ?_|refine CF (fun β=> ?_)|refine B0 ?_|apply B5|refine B8 ?_|refine Cg ?_|apply Cc)
  refine Cu [.q [0,1,2,3,4,5,6,7],.an 12,.h false 8,.q [9,10],.f [11],.rv 12,.h true 13,.q [14]] [] Ac Ac Ac Ac ?_
  repeat' (first|apply B4|refine B3 0 BY A2 ?_|refine B3 3 BY AZ ?_|refine B3 5 BY A4 ?_|refine Ck ?_|refine B0 ?_|refine Cz ?_|refine CQ rfl ?_|refine FD rfl ?_|refine Dg rfl rfl AK ?_|refine DL rfl rfl rfl (fun β=> ?_)|refine C2 rfl rfl rfl rfl rfl rfl Aa rfl Aa Aa ?_|refine Jb rfl rfl rfl rfl rfl rfl rfl rfl (hJ) rfl ?_|apply B5|refine B8 ?_|refine Cl ?_|apply Cb|refine Cx ?_)
  exact Cj [MY Dq fb hb n 9 mi t,HF,HH,K] (Ce (B7 rfl)) ⟨rfl,rfl⟩
end Go.Proofs.YtcnmnmjmpocepaaGreatDoor
end
section
namespace Go.Proofs.YtcnmnmjmpocepaaGreatDoor
open Go.SL
open Kd
set_option maxHeartbeats 4000000
def Small(σ:Fs):Prop:=∀g,some g∈σ->g.1.length≤4000000/\g.2.length≤2000000
def fN(Dq:Nat)(fb hb:Option Addr)(n:Nat)(wc wm wa mi:Int)(K:B6)(r:Except Er (Fs×Bool))(e:Ending)(o:List B6):Prop:=
  match r with
  | .error (c,a)=>∃HF HH,o= [MY Dq fb hb n c mi a,HF,HH,K]/\e= .returned (.bool false)
  | .ok (Dj,b)=>∃HF HH K' cs,o= [MY Dq fb hb n wc wm wa,HF,HH,K']/\hle K K'/\e= .returned (.bool b)/\OS HF fb n n 60 2 cs/\OS HH hb n n 4 1 (Dp Dj)/\GF K' Dj cs
theorem aT(K HF HH:B6)(Dq:Nat)(wc wm wa mi:Int)(fb hb b1 b2:Option Addr)(n c1 c2 t:Nat)(σ:Fs)(cs:List Value)(g:Fm)
    (WD:t<n) (hn:σ.length=n) (IL:OS HF fb n n 60 2 cs) (IE:OS HH hb n n 4 1 (Dp σ)) (hF:GF K σ cs) (s1:Sl K b1 (g.1.map i64)) (s2:Sl K b2 (g.2.map i64)) (hc:g.2.length≤c2) (DE:n≤4000000)
    (hS:Small σ) (Zn:g.1.length≤4000000) (bq:g.2.length≤2000000):
    SL.T Tryz.prog 74 [.pointer (some ⟨Dq,0,none⟩),i64 mi,i64 (t:Int),fr b1 b2 g.1.length g.2.length c1 c2] [MY Dq fb hb n wc wm wa,HF,HH,K] (fN Dq fb hb n wc wm wa mi K (E1 σ t g)):=by
  obtain⟨o,hs⟩:∃o,σ[t]?=some o:=⟨_,List.getElem?_eq_getElem Ab⟩;cases o with
  | none=>
    have e:E1 σ t g= .ok (σ.set t (some g),true):=by simp only [E1,hs]
    rw [e];refine(Wh K HF HH Dq wc wm wa mi fb hb b1 b2 n c1 c2 t σ cs g WD hn hs IL IE hF s1 s2 hc DE).mono ?_;rintro e o ⟨HF',HH',cs',rfl,rfl,q1,q2,q3⟩;exact⟨HF',HH',K,cs',rfl,hle.refl _,rfl,q1,q2,q3⟩
  | some g0=>
    obtain⟨z1,z2⟩:=hS g0 (List.mem_of_getElem? hs);by_cases h:g0.1.length=g.1.length/\g0.2=g.2
    · have e:E1 σ t g= .ok (σ.set t (some (CP g0.1 g.1,g0.2)),decide (CP g0.1 g.1≠g0.1)):=by simp only [E1,hs];rw [if_pos h]
      rw [e];refine(TZ K HF HH Dq wc wm wa mi fb hb b1 b2 n c1 c2 t σ cs g g0 WD hn hs IL IE hF s1 s2 DE h.1 h.2 Zn Ab).mono ?_;rintro e o ⟨HF',K',cs',rfl,q0,rfl,q1,q3⟩;exact⟨HF',HH,K',cs',rfl,q0,rfl,q1,by rw [P6 hs];exact IE,q3⟩
    · have e:E1 σ t g= .error (9,t):=by simp only [E1,hs];rw [if_neg h]
      rw [e];refine(RL K HF HH Dq wc wm wa mi fb hb b1 b2 n c1 c2 t σ cs g g0 WD hn hs IL IE hF s1 s2 DE h z1 Ab Zn).mono ?_;rintro e o ⟨rfl,rfl⟩;exact⟨HF,HH,rfl,rfl⟩
section
variable (Dq:Nat) (pb:Option Addr) (pn pc:Nat) (lo st:Int) (cb:Option Addr) (cn cc:Nat) (DF:Option Addr) (DW EG:Nat) (mb:Option Addr) (mn mc:Nat) (mi:Int) (fb hb:Option Addr) (n:Nat)
def fO(K:B6)(r:Except Er (Fs×Bool))(e:Ending)(o:List B6):Prop:=
  match r with
  | .error (c,a)=>∃HF HH D6,o= [G3 Dq pb pn pc lo st cb cn cc DF DW EG mb mn mc mi fb hb n,HF,HH,K,D8 D6 c mi a]/\e= .returned (.tuple #[.bool false,Ka D6])
  | .ok (Dj,b)=>∃HF HH K' cs,o= [G3 Dq pb pn pc lo st cb cn cc DF DW EG mb mn mc mi fb hb n,HF,HH,K']/\hle K K'/\e= .returned (.tuple #[.bool b,.nilIface])/\OS HF fb n n 59 2 cs/\OS HH hb n n 4 1 (Dp Dj)/\GF K' Dj cs
theorem KQ(K HF HH:B6)(b1 b2:Option Addr)(c1 c2 t:Nat)(σ:Fs)(cs:List Value)(g:Fm)
    (WD:t<n) (hn:σ.length=n) (IL:OS HF fb n n 59 2 cs) (IE:OS HH hb n n 4 1 (Dp σ)) (hF:GF K σ cs) (s1:Sl K b1 (g.1.map i64)) (s2:Sl K b2 (g.2.map i64)) (hc:g.2.length≤c2) (DE:n≤4000000)
    (hS:Small σ) (Zn:g.1.length≤4000000) (bq:g.2.length≤2000000):
    SL.T Tryz.prog 67 [.pointer (some ⟨Dq,0,none⟩),i64 (t:Int),fr b1 b2 g.1.length g.2.length c1 c2] [G3 Dq pb pn pc lo st cb cn cc DF DW EG mb mn mc mi fb hb n,HF,HH,K] (fO Dq pb pn pc lo st cb cn cc DF DW EG mb mn mc mi fb hb n K (E1 σ t g)):=by
  obtain⟨o,hs⟩:∃o,σ[t]?=some o:=⟨_,List.getElem?_eq_getElem Ab⟩;cases o with
  | none=>
    have e:E1 σ t g= .ok (σ.set t (some g),true):=by simp only [E1,hs]
    rw [e];refine(YJ K HF HH Dq pb pn pc lo st cb cn cc DF DW EG mb mn mc mi fb hb b1 b2 n c1 c2 t σ cs g WD hn hs IL IE hF s1 s2 hc DE).mono ?_;rintro e o ⟨HF',HH',cs',rfl,rfl,q1,q2,q3⟩;exact⟨HF',HH',K,cs',rfl,hle.refl _,rfl,q1,q2,q3⟩
  | some g0=>
    obtain⟨z1,z2⟩:=hS g0 (List.mem_of_getElem? hs);by_cases h:g0.1.length=g.1.length/\g0.2=g.2
    · have e:E1 σ t g= .ok (σ.set t (some (CP g0.1 g.1,g0.2)),decide (CP g0.1 g.1≠g0.1)):=by simp only [E1,hs];rw [if_pos h]
      rw [e];refine(WR K HF HH Dq pb pn pc lo st cb cn cc DF DW EG mb mn mc mi fb hb b1 b2 n c1 c2 t σ cs g g0 WD hn hs IL IE hF s1 s2 DE h.1 h.2 Zn Ab).mono ?_;rintro e o ⟨HF',K',cs',rfl,q0,rfl,q1,q3⟩;exact⟨HF',HH,K',cs',rfl,q0,rfl,q1,by rw [P6 hs];exact IE,q3⟩
    · have e:E1 σ t g= .error (9,t):=by simp only [E1,hs];rw [if_neg h]
      rw [e];refine(UD K HF HH Dq pb pn pc lo st cb cn cc DF DW EG mb mn mc mi fb hb b1 b2 n c1 c2 t σ cs g g0 WD hn hs IL IE hF s1 s2 DE h z1 Ab).mono ?_;rintro e o ⟨D6,rfl,rfl⟩;exact⟨HF,HH,D6,rfl,rfl⟩
end
end Go.Proofs.YtcnmnmjmpocepaaGreatDoor
end
