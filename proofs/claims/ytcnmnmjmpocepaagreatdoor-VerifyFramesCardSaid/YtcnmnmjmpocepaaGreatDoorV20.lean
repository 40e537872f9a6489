
import Derived.Test.YtcnmnmjmpocepaaGreatDoorV00
import Derived.Test.YtcnmnmjmpocepaaGreatDoorV09
import Derived.Test.YtcnmnmjmpocepaaGreatDoorV16
import Derived.Test.YtcnmnmjmpocepaaGreatDoorV19
import Derived.Test.YtcnmnmjmpocepaaGreatDoorV18
set_option linter.unusedVariables false
set_option linter.unusedSimpArgs false
set_option linter.unusedSectionVars false
set_option maxRecDepth 100000
set_option maxHeartbeats 16000000
section
namespace Go.Proofs.YtcnmnmjmpocepaaGreatDoor
open Kd
abbrev Fm:=List Int×List Int
abbrev Fs:=List (Option Fm)
abbrev Er:=Int×Int
def FZ(σ:Fs)(to:Nat)(f:Fm):Except Er (Fs×Bool):=
  match σ[to]? with
  |none=> .ok (σ,false)
  |some none=> .ok (σ.set to (some f),true)
  |some (some g)=>if g.1.length=f.1.length/\g.2=f.2 then .ok (σ.set to (some (EB g.1 f.1,g.2)),decide (EB g.1 f.1≠g.1)) else .error (9,to)
def Hb(σ:Fs)(f:Fm):List Nat->Bool->Except Er (Fs×Bool)
  | [],b=> .ok (σ,b)
  | t::ts,b=>match FZ σ t f with
    | .error e=> .error e
    | .ok (ED,c)=>Hb ED f ts (b ||c)
noncomputable def FN(im:Im)(mi:Int)(nx:Nat->List Nat)(σ:Fs)(at_:Nat)(b:Bool):Except Er (Fs×Bool):=
  match σ[at_]? with
  | some (some g)=>match E9 im mi at_ g.1 g.2 with
    | .inl c=> .error (c,at_)
    | .inr f=>Hb σ f (nx at_) b
  |_=> .ok (σ,b)
noncomputable def Ez(im:Im)(mi:Int)(nx:Nat->List Nat):Fs->List Nat->Bool->Except Er (Fs×Bool)
  |σ,[],b=> .ok (σ,b)
  | σ,a::l,b=>match FN im mi nx σ a b with
    | .error e=> .error e
    | .ok (ED,b')=>Ez im mi nx ED l b'
inductive E8 (im:Im) (mi:Int) (nx:Nat->List Nat) (n:Nat):Fs->Except Er Fs->Prop
  |bad {σ e}:Ez im mi nx σ (List.range n) false= .error e->E8 im mi nx n σ (.error e)
  |done {σ ED}:Ez im mi nx σ (List.range n) false= .ok (ED,false)->E8 im mi nx n σ (.ok ED)
  |more {σ ED r}:Ez im mi nx σ (List.range n) false= .ok (ED,true)->E8 im mi nx n ED r->E8 im mi nx n σ r
theorem E8.mu{im:Im}{mi:Int}{nx:Nat->List Nat}{n:Nat}{σ:Fs}{r r':Except Er Fs}(h:E8 im mi nx n σ r)(h':E8 im mi nx n σ r'):r=r':=by
  induction h generalizing r' with
  | bad h=>cases h' with
    |bad h'=>rw [h] at h';cases h';rfl
    |done h'=>rw [h] at h';cases h'
    |more h' _=>rw [h] at h';cases h'
  | done h=>cases h' with
    |bad h'=>rw [h] at h';cases h'
    |done h'=>rw [h] at h';cases h';rfl
    |more h' _=>rw [h] at h';cases h'
  | more h _ ih=>cases h' with
    |bad h'=>rw [h] at h';cases h'
    |done h'=>rw [h] at h';cases h'
    |more h' h2=>rw [h] at h';cases h';exact ih h2
def known(l:List Int):Nat:=(l.filter (· ≠ -1)).length
theorem cy(l:List Int):known l≤l.length:=List.length_filter_le _ _
theorem Xs(x y:Int)(xs ys:List Int):EB (x::xs) (y::ys)=(if x=y then x else -1)::EB xs ys:=rfl
theorem Qm(x:Int)(xs:List Int):known (x::xs)=(if x= -1 then 0 else 1)+known xs:=by
  unfold known;by_cases h:x= -1
  · simp [h]
  · simp [h];omega
theorem Ql:∀ {xs ys:List Int},xs.length=ys.length->known (EB xs ys)≤known xs/\(EB xs ys≠xs->known (EB xs ys)<known xs)
  | [],[],_=>⟨Nat.le_refl _,fun h=>absurd rfl h⟩
  | x ::xs,y::ys,h=>by
    obtain⟨h1,h2⟩:=Ql (xs:=xs) (ys:=ys) (by simpa using h);rw [Xs,Qm,Qm];by_cases e:x=y
    · rw [if_pos e];exact⟨by omega,fun q=>by have:=h2 (fun q2=>q (by rw [q2]));omega⟩
    · rw [if_neg e];by_cases e2:x= -1
      · rw [if_pos rfl,if_pos e2];exact⟨by omega,fun q=>by have:=h2 (fun q2=>q (by rw [q2,e2]));omega⟩
      · rw [if_pos rfl,if_neg e2];exact⟨by omega,fun _=>by omega⟩
def Vk:Option Fm->Nat
  |none=>65537
  |some g=>known g.1
def left(σ:Fs):Nat:=(σ.map Vk).sum
theorem Tf:∀ {σ:Fs} {i:Nat} {o:Option Fm} (o':Option Fm),σ[i]?=some o->left (σ.set i o')+Vk o=left σ+Vk o'
  | [],_,_,_,h=>by simp at h
  | a::σ,0,o,o',h=>by
    simp at h;subst h
    simp [left];omega
  | a::σ,i+1,o,o',h=>by
    have:=Tf (σ:=σ) (i:=i) o' (by simpa using h);simp [left] at this ⊢;omega
def eD(σ:Fs):Prop:=∀g,some g∈σ->g.1.length≤65536
theorem XI{σ ED:Fs}{to:Nat}{f:Fm}{c:Bool}(hf:f.1.length≤65536)(h:FZ σ to f= .ok (ED,c)):
    left ED≤left σ/\(c=true->left ED<left σ)/\ED.length=σ.length/\(eD σ->eD ED):=by
  unfold FZ at h
  split at h
  · cases h;exact⟨Nat.le_refl _,(fun h=>by cases h),rfl,id⟩
  · rename_i e
    cases h
    have:=Tf (some f) e;have hk:=cy f.1;simp only [Vk] at this
    refine⟨by omega,(fun _=>by omega),by simp,fun hF g hg=> ?_⟩;rcases List.mem_or_eq_of_mem_set hg with q|q
    · exact hF g q
    · cases q;exact hf
  · rename_i g e
    split at h
    · rename_i hc
      cases h
      have:=Tf (some (EB g.1 f.1,g.2)) e;obtain⟨k1,k2⟩:=Ql hc.1;simp only [Vk] at this
      refine⟨by omega,(fun q=>by have:=k2 (by simpa using q);omega),by simp,fun hF g' hg=> ?_⟩;rcases List.mem_or_eq_of_mem_set hg with q|q
      · exact hF g' q
      · cases q
        rw [EY hc.1];exact hF g (List.mem_of_getElem? e)
    · cases h
theorem QB{f:Fm}(hf:f.1.length≤65536):∀ {ts:List Nat} {σ ED:Fs} {b c:Bool},Hb σ f ts b= .ok (ED,c)->
    left ED≤left σ/\(c=true->b=true∨left ED<left σ)/\ED.length=σ.length/\(eD σ->eD ED)
  | [],σ,ED,b,c,h=>by cases h;exact⟨Nat.le_refl _,(fun h=> .inl h),rfl,id⟩
  | t ::ts,σ,ED,b,c,h=>by
    unfold Hb at h
    split at h
    · cases h
    · rename_i σ1 c1 e
      obtain⟨a1,a2,a3,a4⟩:=XI hf e;obtain⟨b1,b2,b3,b4⟩:=QB hf h;refine⟨by omega,(fun q=> ?_),by omega,fun q=>b4 (a4 q)⟩;rcases b2 q with q2|q2
      · rcases Bool.or_eq_true .. ▸q2 with q3|q3
        · exact .inl q3
        · have:=a2 q3;exact .inr Ab
      · exact .inr Ab
theorem JT{im:Im}{mi at_:Int}{loc Dl:List Int}{f:Fm}(h:E9 im mi at_ loc Dl= .inr f):f.1.length=loc.length:=by
  unfold E9 at h
  repeat' split at h
  all_goals first|(cases h;done)|(cases h;simp only [List.length_set])|(cases h;rfl)
theorem UY{im:Im}{mi:Int}{nx:Nat->List Nat}{σ ED:Fs}{a:Nat}{b c:Bool}(hF:eD σ)(h:FN im mi nx σ a b= .ok (ED,c)):
    left ED≤left σ/\(c=true->b=true∨left ED<left σ)/\ED.length=σ.length/\eD ED:=by
  unfold FN at h
  split at h
  · rename_i g e
    split at h
    · cases h
    · rename_i f ef
      have hl:=JT ef;have hg:=hF g (List.mem_of_getElem? e);obtain⟨a1,a2,a3,a4⟩:=QB Ab h;exact⟨a1,a2,a3,a4 hF⟩
  · cases h;exact⟨Nat.le_refl _,(fun h=> .inl h),rfl,hF⟩
theorem Ik{im:Im}{mi:Int}{nx:Nat->List Nat}:∀ {l:List Nat} {σ ED:Fs} {b c:Bool},eD σ->Ez im mi nx σ l b= .ok (ED,c)->
    left ED≤left σ/\(c=true->b=true∨left ED<left σ)/\ED.length=σ.length/\eD ED
  | [],σ,ED,b,c,hF,h=>by cases h;exact⟨Nat.le_refl _,(fun h=> .inl h),rfl,hF⟩
  | a ::l,σ,ED,b,c,hF,h=>by
    unfold Ez at h
    split at h
    · cases h
    · rename_i σ1 c1 e
      obtain⟨a1,a2,a3,a4⟩:=UY hF e;obtain⟨b1,b2,b3,b4⟩:=Ik a4 h;refine⟨by omega,(fun q=> ?_),by omega,b4⟩;rcases b2 q with q2|q2
      · rcases a2 q2 with q3|q3
        · exact .inl q3
        · exact .inr Ab
      · exact .inr Ab
theorem Zk(im:Im)(mi:Int)(nx:Nat->List Nat)(n:Nat):∀(k:Nat) (σ:Fs),left σ≤k->eD σ->∃r,E8 im mi nx n σ r:=by
  intro k;induction k with
  | zero=>
    intro σ hk hF;cases h:Ez im mi nx σ (List.range n) false with
    |error e=>exact⟨_,.bad h⟩
    | ok p=>
      obtain⟨ED,c⟩:=p;cases c with
      |false=>exact⟨_,.done h⟩
      | true=>
        obtain⟨a1,a2,a3,a4⟩:=Ik hF h;rcases a2 rfl with q|q
        · cases q
        · omega
  | succ k ih=>
    intro σ hk hF;cases h:Ez im mi nx σ (List.range n) false with
    |error e=>exact⟨_,.bad h⟩
    | ok p=>
      obtain⟨ED,c⟩:=p;cases c with
      |false=>exact⟨_,.done h⟩
      | true=>
        obtain⟨a1,a2,a3,a4⟩:=Ik hF h;rcases a2 rfl with q|q
        · cases q
        · obtain⟨r,hr⟩:=ih ED Ab a4;exact⟨r,.more h hr⟩
end Go.Proofs.YtcnmnmjmpocepaaGreatDoor
end
section
namespace Go.Proofs.YtcnmnmjmpocepaaGreatDoor
open Go.SL
open Kd
def GL(K:CA)(σ:Fs)(cs:List Value):Prop:=
  cs.length=σ.length*2/\∀(i:Nat) (g:Fm),σ[i]?=some (some g)->∃b1 c1 b2 c2,
    cs[i*2]?=some (.slice b1 g.1.length c1)/\cs[i*2+1]?=some (.slice b2 g.2.length c2)/\Sl K b1 (g.1.map i64)/\Sl K b2 (g.2.map i64)/\g.2.length≤c2
def DM(σ:Fs):List Value:=σ.map fun o=> .bool o.isSome
theorem GL.mono{K K':CA}{σ:Fs}{cs:List Value}(h:GL K σ cs)(l:hle K K'):GL K' σ cs:=
  ⟨h.1,fun i g hg=>by
    obtain⟨b1,c1,b2,c2,h1,h2,h3,h4,h5⟩:=h.2 i g hg;exact⟨b1,c1,b2,c2,h1,h2,h3.mono l,h4.mono l,h5⟩⟩
theorem GL.set{K:CA}{σ:Fs}{cs:List Value}(h:GL K σ cs){t:Nat}(ht:t<σ.length){g:Fm}{b1 b2:Option Addr}{c1 c2:Nat}
    (s1:Sl K b1 (g.1.map i64)) (s2:Sl K b2 (g.2.map i64)) (hc:g.2.length≤c2):
    GL K (σ.set t (some g)) (cs.take (t*2)++ [.slice b1 g.1.length c1,.slice b2 g.2.length c2]++cs.drop (t*2+2)):=by
  obtain⟨hl,hk⟩:=h;have E6:(cs.take (t*2)).length=t*2:=by simp;omega
  refine⟨by simp;omega,fun i g' hg=> ?_⟩;by_cases e:i=t
  · subst e;rw [List.getElem?_set_self ht] at hg
    cases hg
    refine⟨b1,c1,b2,c2,?_,?_,s1,s2,hc⟩
    · rw [List.append_assoc,List.getElem?_append_right Ab,E6,Nat.sub_self];rfl
    · rw [List.append_assoc,List.getElem?_append_right Ab,E6,show i*2+1 - i*2=1 from by omega];rfl
  · rw [List.getElem?_set_ne (Ne.symm e)] at hg
    obtain⟨d1,e1,d2,e2,q1,q2,q3,q4,q5⟩:=hk i g' hg;refine⟨d1,e1,d2,e2,?_,?_,q3,q4,q5⟩
    · by_cases hi:i<t
      · rw [List.append_assoc,List.getElem?_append_left Ab,List.getElem?_take,if_pos Ab,q1]
      · rw [List.getElem?_append_right As,List.getElem?_drop,<-q1]
        congr 1;simp;omega
    · by_cases hi:i<t
      · rw [List.append_assoc,List.getElem?_append_left Ab,List.getElem?_take,if_pos Ab,q2]
      · rw [List.getElem?_append_right As,List.getElem?_drop,<-q2]
        congr 1;simp;omega
theorem Qx{σ:Fs}{t:Nat}(g:Fm):DM (σ.set t (some g))=(DM σ).set t (.bool true):=by
  simp [DM,List.map_set]
theorem F8{σ:Fs}{t:Nat}{o:Option Fm}(h:σ[t]?=some o):(DM σ)[t]?=some (.bool o.isSome):=by simp [DM,h]
theorem SH{σ:Fs}{t:Nat}{g g':Fm}(h:σ[t]?=some (some g')):DM (σ.set t (some g))=DM σ:=by
  apply List.ext_getElem?;intro i;by_cases e:t=i
  · subst e;have hl:=(List.getElem?_eq_some_iff.1 h).1;rw [Qx,List.getElem?_set_self (by simpa [DM] using hl),F8 h];rfl
  · rw [Qx,List.getElem?_set_ne e]
end Go.Proofs.YtcnmnmjmpocepaaGreatDoor
end
section
namespace Go.Proofs.YtcnmnmjmpocepaaGreatDoor
open Go.SL
open Kd
abbrev Iq(DA:Nat)(pb:Option Addr)(pn pc:Nat)(lo st:Int)(cb:Option Addr)(cn cc:Nat)(Du:Option Addr)(Dr DP:Nat)(mb:Option Addr)(mn mc:Nat)(mi:Int)(fb hb:Option Addr)(n:Nat):CA:=
  CV DA (.cells ⟨[.slice pb pn pc,i64 lo,i64 st,.slice cb cn cc,.slice Du Dr DP,.slice mb mn mc,i64 mi,.slice fb n n,.slice hb n n]⟩ 102 (0,0))
theorem Kt{σ:Fs}{t:Nat}(g:Fm)(ht:t<σ.length):(DM σ).take (t*1)++ [.bool true]++(DM σ).drop (t*1+1)=DM (σ.set t (some g)):=by
  rw [Qx,Nat.mul_one,List.set_eq_take_append_cons_drop,if_pos (by simpa [DM] using ht)];simp
attribute [local irreducible] SL.T Dw DG DE DI Et D0
theorem dr(K HF HH:CA)(DA:Nat)(pb:Option Addr)(pn pc:Nat)(lo st:Int)(cb:Option Addr)(cn cc:Nat)(Du:Option Addr)(Dr DP:Nat)(mb:Option Addr)(mn mc:Nat)(mi:Int)(fb hb b1 b2:Option Addr)(n c1 c2 t:Nat)(σ:Fs)(cs:List Value)(g:Fm)
    (ZI:t<n) (hn:σ.length=n) (hs:σ[t]?=some none) (HU:OS HF fb n n 59 2 cs) (HT:OS HH hb n n 4 1 (DM σ)) (hF:GL K σ cs) (s1:Sl K b1 (g.1.map i64)) (s2:Sl K b2 (g.2.map i64)) (hc:g.2.length≤c2) (DO:n≤4000000):
    SL.T Tryz.prog 67 [.pointer (some ⟨DA,0,none⟩),i64 (t:Int),fr b1 b2 g.1.length g.2.length c1 c2] [Iq DA pb pn pc lo st cb cn cc Du Dr DP mb mn mc mi fb hb n,HF,HH,K] fun e o=>
      ∃HF' HH' cs',o= [Iq DA pb pn pc lo st cb cn cc Du Dr DP mb mn mc mi fb hb n,HF',HH',K]/\e= .returned (.tuple #[.bool true,.nilIface])/\OS HF' fb n n 59 2 cs'/\OS HH' hb n n 4 1 (DM (σ.set t (some g)))/\GL K (σ.set t (some g)) cs':=by
  haveI WR:=HT.sl;haveI Yb:=HU.sl;have Jt:=hF.1;have hhl:(DM σ).length=n:=by simp [DM,hn]
  have hkf:((t:Nat):Int).toNat*2<cs.length:=by simp;omega
  have hkh:((t:Nat):Int).toNat*1<(DM σ).length:=by simp;omega
  have XE:(DM σ)[((t:Nat):Int).toNat*1]?=some (.bool false):=by simpa using F8 hs
  refine CM Tryz.func67 rfl (Nat.le_of_ble_eq_true rfl) fun F=> ?_
  repeat' (first|apply Cv|refine Ct 0 Cr A3 ?_|refine Ct 3 Cr AG ?_|refine Ct 5 Cr Ak ?_|refine C2 (fun β=> ?_)|refine Cu ?_|apply Cw|refine Cy ?_|refine CH ?_)
  refine C0 [.q [0,1,2,3,4,5,6,7,8],.f [9],.r [10],.q [11],.h true 12,.q [13],.h true 14] [Iq DA pb pn pc lo st cb cn cc Du Dr DP mb mn mc mi fb hb n,CV β (.cells ⟨[.slice b1 g.1.length c1,.slice b2 g.2.length c2]⟩ 59 (0,0))] Ac Ac Ac Ac ?_
  repeat' (first|apply Cv|refine Ct 0 Cr Ag ?_|refine Ct 3 Cr Bn ?_|refine Ct 5 Cr Ak ?_|refine Cu ?_|refine C5 ?_|refine Dd rfl ?_|refine Fq rfl ?_|refine HW rfl ?_|refine Ew rfl rfl rfl rfl rfl rfl HT rfl rfl rfl (Nat.succ_pos _) As (Kt g Ab) (fun hA MO=> ?_)|refine Ew rfl rfl rfl rfl rfl rfl HU rfl rfl rfl (Nat.succ_pos _) As rfl (fun hB OL=> ?_)|apply Cw|refine Cy ?_|apply Cz|refine CQ ?_)
  exact CJ [Iq DA pb pn pc lo st cb cn cc Du Dr DP mb mn mc mi fb hb n,hB,hA,K] (CU (Cx rfl) (Cx rfl)) ⟨hB,hA,_,rfl,rfl,OL,MO,hF.set Ab s1 s2 hc⟩
end Go.Proofs.YtcnmnmjmpocepaaGreatDoor
end
section
namespace Go.Proofs.YtcnmnmjmpocepaaGreatDoor
open Go.SL
open Kd
attribute [local irreducible] SL.T Dw DG DE DI Et D0
theorem ZV(K HF HH:CA)(DA:Nat)(pb:Option Addr)(pn pc:Nat)(lo st:Int)(cb:Option Addr)(cn cc:Nat)(Du:Option Addr)(Dr DP:Nat)(mb:Option Addr)(mn mc:Nat)(mi:Int)(fb hb b1 b2:Option Addr)(n c1 c2 t:Nat)(σ:Fs)(cs:List Value)(g g0:Fm)
    (ZI:t<n) (hn:σ.length=n) (hs:σ[t]?=some (some g0)) (HU:OS HF fb n n 59 2 cs) (HT:OS HH hb n n 4 1 (DM σ)) (hF:GL K σ cs) (s1:Sl K b1 (g.1.map i64)) (s2:Sl K b2 (g.2.map i64)) (DO:n≤4000000)
    (hl:g0.1.length=g.1.length) (h2:g0.2=g.2) (Wv:g.1.length≤4000000) (RH:g.2.length≤4000000):
    SL.T Tryz.prog 67 [.pointer (some ⟨DA,0,none⟩),i64 (t:Int),fr b1 b2 g.1.length g.2.length c1 c2] [Iq DA pb pn pc lo st cb cn cc Du Dr DP mb mn mc mi fb hb n,HF,HH,K] fun e o=>
      ∃HF' K' cs',o= [Iq DA pb pn pc lo st cb cn cc Du Dr DP mb mn mc mi fb hb n,HF',HH,K']/\hle K K'/\e= .returned (.tuple #[.bool (decide (EB g0.1 g.1≠g0.1)),.nilIface])/\OS HF' fb n n 59 2 cs'/\GL K' (σ.set t (some (EB g0.1 g.1,g0.2))) cs':=by
  haveI WR:=HT.sl;haveI Yb:=HU.sl;have Jt:=hF.1;have hhl:(DM σ).length=n:=by simp [DM,hn]
  have hkf:((t:Nat):Int).toNat*2<cs.length:=by simp;omega
  have hkh:((t:Nat):Int).toNat*1<(DM σ).length:=by simp;omega
  have XE:(DM σ)[((t:Nat):Int).toNat*1]?=some (.bool true):=by simpa using F8 hs
  obtain⟨d1,e1,d2,e2,q1,q2,q3,q4,q5⟩:=hF.2 t g0 hs;have L9:cs[((t:Nat):Int).toNat*2]?=some (.slice d1 g0.1.length e1):=q1;have L8:cs[((t:Nat):Int).toNat*2+1]?=some (.slice d2 g0.2.length e2):=q2;have hJ:=kz K d1 d2 b1 b2 g0.1.length g0.2.length g.1.length g.2.length e1 e2 c1 c2 g0.1 g0.2 g.1 g.2 q3 q4 s1 s2 rfl rfl rfl rfl Ab (by rw [h2];omega) hl h2;have ey:=EY hl;refine CM Tryz.func67 rfl (Nat.le_of_ble_eq_true rfl) fun F=> ?_
  repeat' (first|apply Cv|refine Ct 0 Cr AS ?_|refine Ct 3 Cr AG ?_|refine Ct 5 Cr Ak ?_|refine C2 (fun β=> ?_)|refine Cu ?_|apply Cw|refine Cy ?_|refine CF ?_|apply CB)
  refine C0 [.q [0,1,2,3,4,5,6,7],.an 12,.h true 8,.q [9,10],.f [11],.rv 12,.h true 13,.q [14]] [] Ac Ac Ac Ac ?_
  repeat' (first|apply Cv|refine Ct 0 Cr AV ?_|refine Ct 3 Cr A6 ?_|refine Ct 5 Cr Ak ?_|refine Cu ?_|refine C5 ?_|refine Dd rfl ?_|refine Fq rfl ?_|refine Dn rfl rfl AR ?_|refine DN rfl rfl rfl (fun β=> ?_)|refine Df rfl rfl rfl rfl rfl rfl Aa rfl Aa Aa ?_|(refine EL rfl rfl rfl rfl rfl rfl rfl rfl (hJ) ?_;rintro _ _ ⟨K',rfl,lK,f1,v1,f2,v2,rfl,r1,r2,r3⟩;refine⟨_,_,rfl,rfl,?_⟩)|apply Cw|refine Cy ?_|refine CF ?_|apply CB)
  haveI:=r1;haveI:=r2;haveI q3':=q3.mono lK;haveI q4':=q4.mono lK;have hS:=XV [K'] f1 f2 d1 d2 g0.1.length g0.2.length g0.1.length g0.2.length v1 v2 e1 e2 (EB g0.1 g.1) g0.2 g0.1 g0.2 ey rfl rfl rfl Ab (by rw [h2];omega)
  repeat' (first|apply Cv)
  refine De Ac Ac rfl ?_
  repeat' (first|apply Cv|refine Ct 0 Cr By ?_|refine Ct 3 Cr A6 ?_|refine Ct 4 Cr (CE rfl rfl rfl rfl rfl (hS)) ?_|refine Ct 5 Cr Ak ?_|apply Cw)
  refine C0 [.q [0,1,2,3,4,5,6],.h true 7] [] Ac Ac Ac Ac ?_
  repeat' (first|apply Cv|refine Ct 0 Cr Ag ?_|refine Ct 3 Cr Bn ?_|refine Ct 5 Cr Ak ?_|refine Cu ?_|refine C5 ?_|refine Dd rfl ?_|refine Ew rfl rfl rfl rfl rfl rfl HU rfl rfl rfl (Nat.succ_pos _) As rfl (fun hB OL=> ?_)|apply Cw|refine Cy ?_|apply Cz)
  have hset:=(hF.mono lK).set (t:=t) (g:=(EB g0.1 g.1,g0.2)) (b1:=f1) (b2:=f2) (c1:=v1) (c2:=v2) Ab r1 r2 r3;rw [ey] at hset
  refine CJ [Iq DA pb pn pc lo st cb cn cc Du Dr DP mb mn mc mi fb hb n,hB,HH,K'] (CU (Cx rfl) (Cx rfl)) ⟨hB,K',_,rfl,lK,?_,OL,hset⟩
  congr 5
  by_cases e:EB g0.1 g.1=g0.1 <;>simp [e]
end Go.Proofs.YtcnmnmjmpocepaaGreatDoor
end
section
namespace Go.Proofs.YtcnmnmjmpocepaaGreatDoor
open Go.SL
open Kd
abbrev LQ(β:Nat):Value:= .iface 163 (.agg ⟨[.pointer (some ⟨β,0,none⟩)]⟩)
abbrev EF(β:Nat)(c mi at_:Int):CA:=CV β (.cells ⟨[i64 c,i64 mi,i64 at_]⟩ 43 (0,0))
attribute [local irreducible] SL.T Dw DG DE DI Et D0
theorem Iv(DA:Nat)(pb:Option Addr)(pn pc:Nat)(lo st:Int)(cb:Option Addr)(cn cc:Nat)(Du:Option Addr)(Dr DP:Nat)(mb:Option Addr)(mn mc:Nat)(mi:Int)(fb hb:Option Addr)(n:Nat)(c at_:Int):
    SL.T Tryz.prog 40 [.pointer (some ⟨DA,0,none⟩),i64 c,i64 at_] [Iq DA pb pn pc lo st cb cn cc Du Dr DP mb mn mc mi fb hb n] fun e o=>
      ∃Ec,o= [Iq DA pb pn pc lo st cb cn cc Du Dr DP mb mn mc mi fb hb n,EF Ec c mi at_]/\e= .returned (LQ Ec):=by
  refine CM Tryz.func40 rfl (Nat.le_of_ble_eq_true rfl) fun F=> ?_
  repeat' (first|refine CW rfl rfl rfl (Fb rfl rfl rfl) ?_|apply Cv|refine Ct 0 Cr Ag ?_|refine Ct 3 Cr Af ?_|refine Ct 5 Cr AX ?_|refine C2 (fun β=> ?_)|refine Cu ?_|apply Cw|refine Cy ?_|apply Cz)
  exact CJ [Iq DA pb pn pc lo st cb cn cc Du Dr DP mb mn mc mi fb hb n,EF β c mi at_] (CD (Cx rfl)) ⟨β,rfl,rfl⟩
theorem XH(K HF HH:CA)(DA:Nat)(pb:Option Addr)(pn pc:Nat)(lo st:Int)(cb:Option Addr)(cn cc:Nat)(Du:Option Addr)(Dr DP:Nat)(mb:Option Addr)(mn mc:Nat)(mi:Int)(fb hb b1 b2:Option Addr)(n c1 c2 t:Nat)(σ:Fs)(cs:List Value)(g g0:Fm)
    (ZI:t<n) (hn:σ.length=n) (hs:σ[t]?=some (some g0)) (HU:OS HF fb n n 59 2 cs) (HT:OS HH hb n n 4 1 (DM σ)) (hF:GL K σ cs) (s1:Sl K b1 (g.1.map i64)) (s2:Sl K b2 (g.2.map i64)) (DO:n≤4000000)
    (hd:¬(g0.1.length=g.1.length/\g0.2=g.2)) (Wv:g0.1.length≤4000000) (RH:g0.2.length≤4000000):
    SL.T Tryz.prog 67 [.pointer (some ⟨DA,0,none⟩),i64 (t:Int),fr b1 b2 g.1.length g.2.length c1 c2] [Iq DA pb pn pc lo st cb cn cc Du Dr DP mb mn mc mi fb hb n,HF,HH,K] fun e o=>
      ∃Ec,o= [Iq DA pb pn pc lo st cb cn cc Du Dr DP mb mn mc mi fb hb n,HF,HH,K,EF Ec 9 mi t]/\e= .returned (.tuple #[.bool false,LQ Ec]):=by
  haveI WR:=HT.sl;haveI Yb:=HU.sl;have Jt:=hF.1;have hhl:(DM σ).length=n:=by simp [DM,hn]
  have hkf:((t:Nat):Int).toNat*2<cs.length:=by simp;omega
  have hkh:((t:Nat):Int).toNat*1<(DM σ).length:=by simp;omega
  have XE:(DM σ)[((t:Nat):Int).toNat*1]?=some (.bool true):=by simpa using F8 hs
  obtain⟨d1,e1,d2,e2,q1,q2,q3,q4,q5⟩:=hF.2 t g0 hs;have L9:cs[((t:Nat):Int).toNat*2]?=some (.slice d1 g0.1.length e1):=q1;have L8:cs[((t:Nat):Int).toNat*2+1]?=some (.slice d2 g0.2.length e2):=q2;haveI:=s1;haveI:=s2;haveI:=q3;haveI:=q4;have hJ:=aa K d1 d2 b1 b2 g0.1.length g0.2.length g.1.length g.2.length e1 e2 c1 c2 g0.1 g0.2 g.1 g.2 rfl rfl rfl rfl Wv RH hd;have hfl:=Iv DA pb pn pc lo st cb cn cc Du Dr DP mb mn mc mi fb hb n 9 (t:Int);refine CM Tryz.func67 rfl (Nat.le_of_ble_eq_true rfl) fun F=> ?_
  repeat' (first|apply Cv|refine Ct 0 Cr AS ?_|refine Ct 3 Cr AG ?_|refine Ct 5 Cr Ak ?_|refine C2 (fun β=> ?_)|refine Cu ?_|apply Cw|refine Cy ?_|refine CF ?_|apply CB)
  refine C0 [.q [0,1,2,3,4,5,6,7],.an 12,.h false 8,.q [9,10],.f [11],.rv 12,.h true 13,.q [14]] [] Ac Ac Ac Ac ?_
  repeat' (first|apply Cv|refine Ct 0 Cr Bg ?_|refine Ct 3 Cr A6 ?_|(refine gk 4 rfl ?_;(refine CK rfl rfl rfl rfl rfl rfl rfl rfl (hfl) ?_;rintro _ _ ⟨Ec,rfl,rfl⟩;refine⟨_,_,rfl,rfl,?_⟩))|refine Ct 5 Cr Ak ?_|refine Cu ?_|refine C5 ?_|refine Dd rfl ?_|refine Fq rfl ?_|refine Dn rfl rfl AR ?_|refine DN rfl rfl rfl (fun β=> ?_)|refine Df rfl rfl rfl rfl rfl rfl Aa rfl Aa Aa ?_|refine IJ rfl rfl rfl rfl rfl rfl rfl rfl (hJ) rfl ?_|apply Cw|refine Cy ?_|refine CH ?_|apply Cz|refine CQ ?_)
  exact CJ [Iq DA pb pn pc lo st cb cn cc Du Dr DP mb mn mc mi fb hb n,HF,HH,K,EF Ec 9 mi t] (CU (Cx rfl) (Cx rfl)) ⟨Ec,rfl,rfl⟩
end Go.Proofs.YtcnmnmjmpocepaaGreatDoor
end
section
namespace Go.Proofs.YtcnmnmjmpocepaaGreatDoor
open Go.SL
open Kd
theorem fy(K:CA)(a b a' b':Option Addr)(n m n' m' c d c' d':Nat)(xs ys Jj LP:List Int)(s1:Sl K a (xs.map i64))(s2:Sl K b (ys.map i64))(s3:Sl K a' (Jj.map i64))(s4:Sl K b' (LP.map i64))
    (h1:xs.length=n) (h2:ys.length=m) (h3:Jj.length=n') (h4:LP.length=m') (DO:n≤4000000) (RF:m≤4000000) (hn:n=n') (hy:ys=LP):
    SL.T Tryz.prog 129 [fr a b n m c d,fr a' b' n' m' c' d'] [K] fun e o=>∃K',o= [K']/\hle K K'/\∃b1 c1 b2 c2,e= .returned (.tuple #[fr b1 b2 n m c1 c2,.bool true])/\Sl K' b1 ((EB xs Jj).map i64)/\Sl K' b2 (ys.map i64)/\m≤c2:=by
  subst hn;subst hy;refine(Gw (R:=fun e A N=>A= []/\∃h1 h2 b1 c1 b2 c2,N= [K,h1,h2]/\e= .returned (.tuple #[fr b1 b2 n m c1 c2,.bool true])/\OS h1 b1 n c1 79 1 ((EB xs Jj).map i64)/\OS h2 b2 m c2 79 1 (ys.map i64)) ((UT K a b a' b' n m m' c d c' d' xs ys Jj s1 s2 s3 s4 h1 h2 h3 h4 DO RF).mono ?_)).mono ?_
  · rintro e o ⟨q1,q2,b1,c1,b2,c2,rfl,rfl,E2,G3⟩;exact⟨[],_,by simp,rfl,q1,q2,b1,c1,b2,c2,rfl,rfl,E2,G3⟩
  · rintro e o ⟨A,N,K',rfl,hK,rfl,q1,q2,b1,c1,b2,c2,rfl,rfl,E2,G3⟩;exact⟨K',rfl,hK K Am,b1,c1,b2,c2,rfl,E2.sl.mono (hK q1 Am),G3.sl.mono (hK q2 Am),G3.hle⟩
abbrev Gs(DA:Nat)(fb hb:Option Addr)(n:Nat)(c m at_:Int):CA:=CV DA (.cells ⟨[.slice fb n n,.slice hb n n,i64 c,i64 m,i64 at_]⟩ 55 (0,0))
attribute [local irreducible] SL.T Dw DG DE DI Et D0
theorem Zl(K HF HH:CA)(DA:Nat)(wc wm wa mi:Int)(fb hb b1 b2:Option Addr)(n c1 c2 t:Nat)(σ:Fs)(cs:List Value)(g:Fm)
    (ZI:t<n) (hn:σ.length=n) (hs:σ[t]?=some none) (HU:OS HF fb n n 60 2 cs) (HT:OS HH hb n n 4 1 (DM σ)) (hF:GL K σ cs) (s1:Sl K b1 (g.1.map i64)) (s2:Sl K b2 (g.2.map i64)) (hc:g.2.length≤c2) (DO:n≤4000000):
    SL.T Tryz.prog 74 [.pointer (some ⟨DA,0,none⟩),i64 mi,i64 (t:Int),fr b1 b2 g.1.length g.2.length c1 c2] [Gs DA fb hb n wc wm wa,HF,HH,K] fun e o=>
      ∃HF' HH' cs',o= [Gs DA fb hb n wc wm wa,HF',HH',K]/\e= .returned (.bool true)/\OS HF' fb n n 60 2 cs'/\OS HH' hb n n 4 1 (DM (σ.set t (some g)))/\GL K (σ.set t (some g)) cs':=by
  haveI WR:=HT.sl;haveI Yb:=HU.sl;have Jt:=hF.1;have hhl:(DM σ).length=n:=by simp [DM,hn]
  have hkf:((t:Nat):Int).toNat*2<cs.length:=by simp;omega
  have hkh:((t:Nat):Int).toNat*1<(DM σ).length:=by simp;omega
  have XE:(DM σ)[((t:Nat):Int).toNat*1]?=some (.bool false):=by simpa using F8 hs
  refine CM Tryz.func74 rfl (Nat.le_of_ble_eq_true rfl) fun F=> ?_
  repeat' (first|refine Gl rfl rfl rfl rfl rfl HT rfl rfl rfl (Nat.succ_pos _) As (Kt g Ab) (fun hA MO=> ?_)|apply Cv|refine Ct 0 Cr A3 ?_|refine Ct 3 Cr AG ?_|refine Ct 5 Cr Ak ?_|refine C2 (fun β=> ?_)|refine Cu ?_|apply Cw|refine Cy ?_|refine CH ?_)
  refine C0 [.q [0,1,2,3,4,5,6],.h true 7] [] Ac Ac Ac Ac ?_
  repeat' (first|apply Cv|refine Ct 0 Cr Ag ?_|refine Ct 3 Cr Bn ?_|refine Ct 5 Cr Ak ?_|refine Cu ?_|refine C5 ?_|refine Dd rfl ?_|refine Ew rfl rfl rfl rfl rfl rfl HU rfl rfl rfl (Nat.succ_pos _) As rfl (fun hB OL=> ?_)|apply Cw|refine Cy ?_|apply Cz|refine CQ ?_)
  exact CJ [Gs DA fb hb n wc wm wa,hB,hA,K] (CD (Cx rfl)) ⟨hB,hA,_,rfl,rfl,OL,MO,hF.set Ab s1 s2 hc⟩
theorem WZ(K HF HH:CA)(DA:Nat)(wc wm wa mi:Int)(fb hb b1 b2:Option Addr)(n c1 c2 t:Nat)(σ:Fs)(cs:List Value)(g g0:Fm)
    (ZI:t<n) (hn:σ.length=n) (hs:σ[t]?=some (some g0)) (HU:OS HF fb n n 60 2 cs) (HT:OS HH hb n n 4 1 (DM σ)) (hF:GL K σ cs) (s1:Sl K b1 (g.1.map i64)) (s2:Sl K b2 (g.2.map i64)) (DO:n≤4000000)
    (hl:g0.1.length=g.1.length) (h2:g0.2=g.2) (Wv:g.1.length≤4000000) (RH:g.2.length≤4000000):
    SL.T Tryz.prog 74 [.pointer (some ⟨DA,0,none⟩),i64 mi,i64 (t:Int),fr b1 b2 g.1.length g.2.length c1 c2] [Gs DA fb hb n wc wm wa,HF,HH,K] fun e o=>
      ∃HF' K' cs',o= [Gs DA fb hb n wc wm wa,HF',HH,K']/\hle K K'/\e= .returned (.bool (decide (EB g0.1 g.1≠g0.1)))/\OS HF' fb n n 60 2 cs'/\GL K' (σ.set t (some (EB g0.1 g.1,g0.2))) cs':=by
  haveI WR:=HT.sl;haveI Yb:=HU.sl;have Jt:=hF.1;have hhl:(DM σ).length=n:=by simp [DM,hn]
  have hkf:((t:Nat):Int).toNat*2<cs.length:=by simp;omega
  have hkh:((t:Nat):Int).toNat*1<(DM σ).length:=by simp;omega
  have XE:(DM σ)[((t:Nat):Int).toNat*1]?=some (.bool true):=by simpa using F8 hs
  obtain⟨d1,e1,d2,e2,q1,q2,q3,q4,q5⟩:=hF.2 t g0 hs;have L9:cs[((t:Nat):Int).toNat*2]?=some (.slice d1 g0.1.length e1):=q1;have L8:cs[((t:Nat):Int).toNat*2+1]?=some (.slice d2 g0.2.length e2):=q2;have hJ:=fy K d1 d2 b1 b2 g0.1.length g0.2.length g.1.length g.2.length e1 e2 c1 c2 g0.1 g0.2 g.1 g.2 q3 q4 s1 s2 rfl rfl rfl rfl Ab (by rw [h2];omega) hl h2;have ey:=EY hl;refine CM Tryz.func74 rfl (Nat.le_of_ble_eq_true rfl) fun F=> ?_
  repeat' (first|apply Cv|refine Ct 0 Cr AS ?_|refine Ct 3 Cr AG ?_|refine Ct 5 Cr Ak ?_|refine C2 (fun β=> ?_)|refine Cu ?_|apply Cw|refine Cy ?_|refine CF ?_|apply CB)
  refine C0 [.q [0,1,2,3,4,5,6,7],.an 12,.h true 8,.q [9,10],.f [11],.rv 12,.h true 13,.q [14]] [] Ac Ac Ac Ac ?_
  repeat' (first|apply Cv|refine Ct 0 Cr AV ?_|refine Ct 3 Cr A6 ?_|refine Ct 5 Cr Ak ?_|refine Cu ?_|refine C5 ?_|refine Dd rfl ?_|refine Fq rfl ?_|refine Dn rfl rfl AR ?_|refine DN rfl rfl rfl (fun β=> ?_)|refine Df rfl rfl rfl rfl rfl rfl Aa rfl Aa Aa ?_|(refine EL rfl rfl rfl rfl rfl rfl rfl rfl (hJ) ?_;rintro _ _ ⟨K',rfl,lK,f1,v1,f2,v2,rfl,r1,r2,r3⟩;refine⟨_,_,rfl,rfl,?_⟩)|apply Cw|refine Cy ?_|refine CF ?_|apply CB)
  haveI:=r1;haveI:=r2;haveI q3':=q3.mono lK;haveI q4':=q4.mono lK;have hS:=Hn [K'] f1 f2 d1 d2 g0.1.length g0.2.length g0.1.length g0.2.length v1 v2 e1 e2 (EB g0.1 g.1) g0.2 g0.1 g0.2 ey rfl rfl rfl Ab (by rw [h2];omega)
  repeat' (first|apply Cv)
  refine De Ac Ac rfl ?_
  repeat' (first|apply Cv|refine Ct 0 Cr By ?_|refine Ct 3 Cr A6 ?_|refine Ct 4 Cr (CE rfl rfl rfl rfl rfl (hS)) ?_|refine Ct 5 Cr Ak ?_|apply Cw)
  refine C0 [.q [0,1,2,3,4,5,6],.h true 7] [] Ac Ac Ac Ac ?_
  repeat' (first|apply Cv|refine Ct 0 Cr Ag ?_|refine Ct 3 Cr Bn ?_|refine Ct 5 Cr Ak ?_|refine Cu ?_|refine C5 ?_|refine Dd rfl ?_|refine Ew rfl rfl rfl rfl rfl rfl HU rfl rfl rfl (Nat.succ_pos _) As rfl (fun hB OL=> ?_)|apply Cw|refine Cy ?_|apply Cz)
  have hset:=(hF.mono lK).set (t:=t) (g:=(EB g0.1 g.1,g0.2)) (b1:=f1) (b2:=f2) (c1:=v1) (c2:=v2) Ab r1 r2 r3;rw [ey] at hset
  refine CJ [Gs DA fb hb n wc wm wa,hB,HH,K'] (CD (Cx rfl)) ⟨hB,K',_,rfl,lK,?_,OL,hset⟩
  congr 2
  by_cases e:EB g0.1 g.1=g0.1 <;>simp [e]
end Go.Proofs.YtcnmnmjmpocepaaGreatDoor
end
section
namespace Go.Proofs.YtcnmnmjmpocepaaGreatDoor
open Go.SL
open Kd
attribute [local irreducible] SL.T Dw DG DE DI Et D0
theorem UP(K HF HH:CA)(DA:Nat)(wc wm wa mi:Int)(fb hb b1 b2:Option Addr)(n c1 c2 t:Nat)(σ:Fs)(cs:List Value)(g g0:Fm)
    (ZI:t<n) (hn:σ.length=n) (hs:σ[t]?=some (some g0)) (HU:OS HF fb n n 60 2 cs) (HT:OS HH hb n n 4 1 (DM σ)) (hF:GL K σ cs) (s1:Sl K b1 (g.1.map i64)) (s2:Sl K b2 (g.2.map i64)) (DO:n≤4000000)
    (hd:¬(g0.1.length=g.1.length/\g0.2=g.2)) (Wv:g0.1.length≤4000000) (RH:g0.2.length≤4000000) (rJ:g.1.length≤4000000):
    SL.T Tryz.prog 74 [.pointer (some ⟨DA,0,none⟩),i64 mi,i64 (t:Int),fr b1 b2 g.1.length g.2.length c1 c2] [Gs DA fb hb n wc wm wa,HF,HH,K] fun e o=>
      o= [Gs DA fb hb n 9 mi t,HF,HH,K]/\e= .returned (.bool false):=by
  haveI WR:=HT.sl;haveI Yb:=HU.sl;have Jt:=hF.1;have hhl:(DM σ).length=n:=by simp [DM,hn]
  have hkf:((t:Nat):Int).toNat*2<cs.length:=by simp;omega
  have hkh:((t:Nat):Int).toNat*1<(DM σ).length:=by simp;omega
  have XE:(DM σ)[((t:Nat):Int).toNat*1]?=some (.bool true):=by simpa using F8 hs
  obtain⟨d1,e1,d2,e2,q1,q2,q3,q4,q5⟩:=hF.2 t g0 hs;have L9:cs[((t:Nat):Int).toNat*2]?=some (.slice d1 g0.1.length e1):=q1;have L8:cs[((t:Nat):Int).toNat*2+1]?=some (.slice d2 g0.2.length e2):=q2;haveI:=s1;haveI:=s2;haveI:=q3;haveI:=q4;have hJ:=bE [K] d1 d2 b1 b2 g0.1.length g0.2.length g.1.length g.2.length e1 e2 c1 c2 g0.2 g.2 rfl rfl Wv RH rJ hd;refine CM Tryz.func74 rfl (Nat.le_of_ble_eq_true rfl) fun F=> ?_
  repeat' (first|apply Cv|refine Ct 0 Cr AS ?_|refine Ct 3 Cr AG ?_|refine Ct 5 Cr Ak ?_|refine C2 (fun β=> ?_)|refine Cu ?_|apply Cw|refine Cy ?_|refine CF ?_|apply CB)
  refine C0 [.q [0,1,2,3,4,5,6,7],.an 12,.h false 8,.q [9,10],.f [11],.rv 12,.h true 13,.q [14]] [] Ac Ac Ac Ac ?_
  repeat' (first|apply Cv|refine Ct 0 Cr Bg ?_|refine Ct 3 Cr A6 ?_|refine Ct 5 Cr AX ?_|refine CN ?_|refine Cu ?_|refine C5 ?_|refine Dd rfl ?_|refine Fq rfl ?_|refine Dn rfl rfl AR ?_|refine DN rfl rfl rfl (fun β=> ?_)|refine Df rfl rfl rfl rfl rfl rfl Aa rfl Aa Aa ?_|refine IJ rfl rfl rfl rfl rfl rfl rfl rfl (hJ) rfl ?_|apply Cw|refine Cy ?_|refine CH ?_|apply Cz|refine CQ ?_)
  exact CJ [Gs DA fb hb n 9 mi t,HF,HH,K] (CD (Cx rfl)) ⟨rfl,rfl⟩
end Go.Proofs.YtcnmnmjmpocepaaGreatDoor
end
section
namespace Go.Proofs.YtcnmnmjmpocepaaGreatDoor
open Go.SL
open Kd
set_option maxHeartbeats 4000000
def Small(σ:Fs):Prop:=∀g,some g∈σ->g.1.length≤4000000/\g.2.length≤2000000
def mO(DA:Nat)(fb hb:Option Addr)(n:Nat)(wc wm wa mi:Int)(K:CA)(r:Except Er (Fs×Bool))(e:Ending)(o:List CA):Prop:=
  match r with
  | .error (c,a)=>∃HF HH,o= [Gs DA fb hb n c mi a,HF,HH,K]/\e= .returned (.bool false)
  | .ok (ED,b)=>∃HF HH K' cs,o= [Gs DA fb hb n wc wm wa,HF,HH,K']/\hle K K'/\e= .returned (.bool b)/\OS HF fb n n 60 2 cs/\OS HH hb n n 4 1 (DM ED)/\GL K' ED cs
theorem UQ(K HF HH:CA)(DA:Nat)(wc wm wa mi:Int)(fb hb b1 b2:Option Addr)(n c1 c2 t:Nat)(σ:Fs)(cs:List Value)(g:Fm)
    (ZI:t<n) (hn:σ.length=n) (HU:OS HF fb n n 60 2 cs) (HT:OS HH hb n n 4 1 (DM σ)) (hF:GL K σ cs) (s1:Sl K b1 (g.1.map i64)) (s2:Sl K b2 (g.2.map i64)) (hc:g.2.length≤c2) (DO:n≤4000000)
    (hS:Small σ) (Wv:g.1.length≤4000000) (RH:g.2.length≤2000000):
    SL.T Tryz.prog 74 [.pointer (some ⟨DA,0,none⟩),i64 mi,i64 (t:Int),fr b1 b2 g.1.length g.2.length c1 c2] [Gs DA fb hb n wc wm wa,HF,HH,K] (mO DA fb hb n wc wm wa mi K (FZ σ t g)):=by
  obtain⟨o,hs⟩:∃o,σ[t]?=some o:=⟨_,List.getElem?_eq_getElem Ab⟩;cases o with
  | none=>
    have e:FZ σ t g= .ok (σ.set t (some g),true):=by simp only [FZ,hs]
    rw [e];refine(Zl K HF HH DA wc wm wa mi fb hb b1 b2 n c1 c2 t σ cs g ZI hn hs HU HT hF s1 s2 hc DO).mono ?_;rintro e o ⟨HF',HH',cs',rfl,rfl,q1,q2,q3⟩;exact⟨HF',HH',K,cs',rfl,hle.refl _,rfl,q1,q2,q3⟩
  | some g0=>
    obtain⟨z1,z2⟩:=hS g0 (List.mem_of_getElem? hs);by_cases h:g0.1.length=g.1.length/\g0.2=g.2
    · have e:FZ σ t g= .ok (σ.set t (some (EB g0.1 g.1,g0.2)),decide (EB g0.1 g.1≠g0.1)):=by simp only [FZ,hs];rw [if_pos h]
      rw [e];refine(WZ K HF HH DA wc wm wa mi fb hb b1 b2 n c1 c2 t σ cs g g0 ZI hn hs HU HT hF s1 s2 DO h.1 h.2 Wv Ab).mono ?_;rintro e o ⟨HF',K',cs',rfl,q0,rfl,q1,q3⟩;exact⟨HF',HH,K',cs',rfl,q0,rfl,q1,by rw [SH hs];exact HT,q3⟩
    · have e:FZ σ t g= .error (9,t):=by simp only [FZ,hs];rw [if_neg h]
      rw [e];refine(UP K HF HH DA wc wm wa mi fb hb b1 b2 n c1 c2 t σ cs g g0 ZI hn hs HU HT hF s1 s2 DO h z1 Ab Wv).mono ?_;rintro e o ⟨rfl,rfl⟩;exact⟨HF,HH,rfl,rfl⟩
section
variable (DA:Nat) (pb:Option Addr) (pn pc:Nat) (lo st:Int) (cb:Option Addr) (cn cc:Nat) (Du:Option Addr) (Dr DP:Nat) (mb:Option Addr) (mn mc:Nat) (mi:Int) (fb hb:Option Addr) (n:Nat)
def mP(K:CA)(r:Except Er (Fs×Bool))(e:Ending)(o:List CA):Prop:=
  match r with
  | .error (c,a)=>∃HF HH Ec,o= [Iq DA pb pn pc lo st cb cn cc Du Dr DP mb mn mc mi fb hb n,HF,HH,K,EF Ec c mi a]/\e= .returned (.tuple #[.bool false,LQ Ec])
  | .ok (ED,b)=>∃HF HH K' cs,o= [Iq DA pb pn pc lo st cb cn cc Du Dr DP mb mn mc mi fb hb n,HF,HH,K']/\hle K K'/\e= .returned (.tuple #[.bool b,.nilIface])/\OS HF fb n n 59 2 cs/\OS HH hb n n 4 1 (DM ED)/\GL K' ED cs
theorem MD(K HF HH:CA)(b1 b2:Option Addr)(c1 c2 t:Nat)(σ:Fs)(cs:List Value)(g:Fm)
    (ZI:t<n) (hn:σ.length=n) (HU:OS HF fb n n 59 2 cs) (HT:OS HH hb n n 4 1 (DM σ)) (hF:GL K σ cs) (s1:Sl K b1 (g.1.map i64)) (s2:Sl K b2 (g.2.map i64)) (hc:g.2.length≤c2) (DO:n≤4000000)
    (hS:Small σ) (Wv:g.1.length≤4000000) (RH:g.2.length≤2000000):
    SL.T Tryz.prog 67 [.pointer (some ⟨DA,0,none⟩),i64 (t:Int),fr b1 b2 g.1.length g.2.length c1 c2] [Iq DA pb pn pc lo st cb cn cc Du Dr DP mb mn mc mi fb hb n,HF,HH,K] (mP DA pb pn pc lo st cb cn cc Du Dr DP mb mn mc mi fb hb n K (FZ σ t g)):=by
  obtain⟨o,hs⟩:∃o,σ[t]?=some o:=⟨_,List.getElem?_eq_getElem Ab⟩;cases o with
  | none=>
    have e:FZ σ t g= .ok (σ.set t (some g),true):=by simp only [FZ,hs]
    rw [e];refine(dr K HF HH DA pb pn pc lo st cb cn cc Du Dr DP mb mn mc mi fb hb b1 b2 n c1 c2 t σ cs g ZI hn hs HU HT hF s1 s2 hc DO).mono ?_;rintro e o ⟨HF',HH',cs',rfl,rfl,q1,q2,q3⟩;exact⟨HF',HH',K,cs',rfl,hle.refl _,rfl,q1,q2,q3⟩
  | some g0=>
    obtain⟨z1,z2⟩:=hS g0 (List.mem_of_getElem? hs);by_cases h:g0.1.length=g.1.length/\g0.2=g.2
    · have e:FZ σ t g= .ok (σ.set t (some (EB g0.1 g.1,g0.2)),decide (EB g0.1 g.1≠g0.1)):=by simp only [FZ,hs];rw [if_pos h]
      rw [e];refine(ZV K HF HH DA pb pn pc lo st cb cn cc Du Dr DP mb mn mc mi fb hb b1 b2 n c1 c2 t σ cs g g0 ZI hn hs HU HT hF s1 s2 DO h.1 h.2 Wv Ab).mono ?_;rintro e o ⟨HF',K',cs',rfl,q0,rfl,q1,q3⟩;exact⟨HF',HH,K',cs',rfl,q0,rfl,q1,by rw [SH hs];exact HT,q3⟩
    · have e:FZ σ t g= .error (9,t):=by simp only [FZ,hs];rw [if_neg h]
      rw [e];refine(XH K HF HH DA pb pn pc lo st cb cn cc Du Dr DP mb mn mc mi fb hb b1 b2 n c1 c2 t σ cs g g0 ZI hn hs HU HT hF s1 s2 DO h z1 Ab).mono ?_;rintro e o ⟨Ec,rfl,rfl⟩;exact⟨HF,HH,Ec,rfl,rfl⟩
end
end Go.Proofs.YtcnmnmjmpocepaaGreatDoor
end
