
import Derived.Test.YtcnmnmjmpocepaaGreatDoorU00
set_option linter.unusedVariables false
set_option linter.unusedSimpArgs false
set_option linter.unusedSectionVars false
set_option maxRecDepth 100000
set_option maxHeartbeats 16000000
namespace Go.SL
def Ek:Op->Bool
  | .defer _| .select .. | .go _=>false
  |_=>true
def Cy(all:Array Oper)(env:Env)(o:Oper):Option Bool:=
  match o.guard with
  |none=>some true
  | some (j,want)=>
    match(all[j]?).bind (·.dst) with
    | some d=>match look env d with
      |some (.bool b)=>some (b ==want)
      |some _=>some false
      |none=>none
    |none=>none
theorem DH {all:Array Oper}{env:Env}{o:Oper}{t:Bool}{n:Nat}{a:Act}(h:Has n env a)(e:Cy all env o=some t):
    Region.wanted o (yielded all a.tmps)=t:=by
  unfold Cy at e
  unfold Region.wanted;cases hg:o.guard with
  |none=>rw [hg] at e;simpa using e
  | some p=>
    obtain⟨j,want⟩:=p;rw [hg] at e
    simp only at e ⊢
    cases hd:(all[j]?).bind (·.dst) with
    |none=>rw [hd] at e;cases e
    | some d=>
      rw [hd] at e
      simp only at e
      split at e
      · rename_i b hb
        have:=h.get d _ hb;simp only [Option.some.injEq] at e
        have hy:yielded all a.tmps j=some b:=by simp only [yielded,hd,Option.bind_some,this]
        rw [hy,<-e];cases b <;>cases want <;>rfl
      · rename_i u hnb hu
        have:=h.get d _ hu;simp only [Option.some.injEq] at e
        have hy:yielded all a.tmps j=none:=by
          simp only [yielded,hd,Option.bind_some,this]
          split
          · rename_i b hb
            exact absurd (by simpa using hb) (hnb b)
          · rfl
        rw [hy,<-e];cases want <;>rfl
      · cases e
def Dc(P:Program)(hs:List B6)(n:Nat)(o:Oper)(env:Env)(v:Value):Prop:=
  Ek o.op=true/\∀a w X,Has n env a->Sat (hs++X) w->∃w',Sat (hs++X) w'/\
    ((execOp a.eval o).run P w= .ok (.value v) w'∨((execOp a.eval o).run P w= .ok .skip w'/\v=undef)∨
      ∃f args,(execOp a.eval o).run P w= .ok (.enter f args) w'/\Calls P f args w' fun e K9=>e= .returned v/\Sat (hs++X) K9)
def Mz(P:Program)(F:B6)(n:Nat)(all:Array Oper)(own:List B6)(K:Env->Prop):List Nat->Env->Prop
  | [],env=>K env
  | i ::l,env=>∃o v,all[i]?=some o/\((Cy all env o=some true/\Dc P (F::own) n o env v)∨(Cy all env o=some false/\v=undef/\Ek o.op=true))/\
      (∀d,o.dst=some d->d<n)/\Mz P F n all own K l (match o.dst with|some d=>(d,v)::env|none=>env)
def SO(quiet:Bool)(P:Program)(r:Option Nat)(F:B6)(n:Nat)(all:Array Oper)(l:List Nat)(Q:C4)(env:Env)(own:List B6)(ds:List Deferred):Prop:=
  match quiet with
  |false=>∀a w,Has n env a->a.defers=ds->Sat (F::own) w->wpOpsIn (Np r) 0 P all (GR F n Q) l a w
  |true=>Mz P F n all own (fun env=>Q .normal env own ds) l env
theorem semAt_plain{r:Option Nat}{o:Oper}(h:Ek o.op=true)(ρ:Operand->Value):o.semAt r ρ=execOp ρ o:=
  Oper.semAt_eq r ρ o fun c e=>by rw [e] at h;cases h
theorem XY{P:Program}{r:Option Nat}{F:B6}{n:Nat}{o:Oper}{env:Env}{own:List B6}{v:Value}(h:Dc P (F::own) n o env v)
    {all:Array Oper} {Q:Exit->Act->World->Prop} {i:Nat} {K:Act->World->Prop} {a:Act} {w:World} (hi:all[i]?=some o)
    (hw:Region.wanted o (yielded all a.tmps)=true) {a':Act} (ha:Has n env a') (he:execOp a.eval o=execOp a'.eval o) (hs:Sat (F::own) w)
    (hk:∀w',Sat (F::own) w'->K (a.put o.dst v) w'):wpOpIn (Np r) 0 P all Q i K a w:=by
  simp only [wpOpIn,hi,hw,if_true];refine⟨fun f _=>by simp,?_⟩;rw [Eo,semAt_plain h.1,he];obtain⟨w',s',h1|⟨h1,rfl⟩|⟨f,args,h1,h2⟩⟩:=h.2 a' w [] ha (by simpa using hs)
  · rw [h1];exact hk w' (by simpa using s')
  · rw [h1];exact hk w' (by simpa using s')
  · rw [h1];refine⟨fun hx=>by simp at hx,(E8 _ h2).mono ?_⟩;rintro e K9 ⟨rfl,s2⟩;exact hk K9 (by simpa using s2)
section
variable {P:Program} {r:Option Nat} {F:B6} {n:Nat} {Q:C4} {env:Env} {own:List B6} {ds:List Deferred} {q:Bool} {all:Array Oper} {l:List Nat} {i:Nat} {o:Oper}
theorem b7(h:Q .normal env own ds):SO q P r F n all [] Q env own ds:=by
  cases q
  · exact fun a w ha hd hs=>GR.mk Ak ha hd hs h
  · exact h
theorem ew{v:Value}{d:Nat}(hi:all[i]?=some o)(hd:o.dst=some d)(hn:d<n)(hg:Cy all env o=some true)(hv:Dc P (F::own) n o env v)
    (h:SO q P r F n all l Q ((d,v)::env) own ds):SO q P r F n all (i::l) Q env own ds:=by
  cases q
  · intro a w ha MO hs;rw [wpOpsIn_cons];exact XY hv hi (DH ha hg) ha rfl hs fun w' s'=>by
      rw [hd];exact h _ w' (ha.put v hn) MO s'
  · exact⟨o,v,hi,.inl ⟨hg,hv⟩,fun d' WN=>(by rw [hd] at WN;cases WN;exact hn),by rw [hd];exact h⟩
theorem ZA{d:Nat}(hi:all[i]?=some o)(hd:o.dst=some d)(hn:d<n)(hg:Cy all env o=some false)(hp:Ek o.op=true)
    (h:SO q P r F n all l Q ((d,undef)::env) own ds):SO q P r F n all (i::l) Q env own ds:=by
  cases q
  · intro a w ha MO hs;rw [wpOpsIn_cons];simp only [wpOpIn,hi,DH ha hg];refine⟨fun f _=>by simp,?_⟩;rw [hd];exact h _ w (ha.put undef hn) MO hs
  · exact⟨o,undef,hi,.inr ⟨hg,rfl,hp⟩,fun d' WN=>(by rw [hd] at WN;cases WN;exact hn),by rw [hd];exact h⟩
theorem TS{id:Nat}{ops:Array Oper}{k:List Nat}(hk:List.range ops.size=k)(h:SO false P r F n ops k Q env own ds):Db P r F n (.region id ops false) Q env own ds:=
  fun a w ha hd hs=>wpIn_region (by rw [hk];exact h a w ha hd hs)
end
def bitsOf(acc:List Nat)(o:Oper):Nat:=o.after.toList.foldl (fun s e=>if Region.binds .any e then s |||(1 <<<e.on) |||acc.getD e.on 0 else s) 0
def bits:List Oper->List Nat->List Nat
  | [],acc=>acc
  |o::l,acc=>bits l (acc++ [bitsOf acc o])
def JR(all:Array Oper)(o:Oper):List Nat:=o.looksAt all++o.dst.toList
def Ve(bs:List Nat)(i k:Nat):Bool:=(Nat.blt k i && (bs.getD i 0).testBit k) ||(Nat.blt i k && (bs.getD k 0).testBit i) ||Nat.beq i k
def WW(all:Array Oper):Bool:=
  let bs:=bits all.toList []
  all.toList.zipIdx.all fun(o,i)=>Ek o.op && (o.after.toList.all fun e=> !Region.binds .any e ||Nat.blt e.on i) && (JR all o).all fun s=>all.toList.zipIdx.all fun(o',k)=> !(o'.dst ==some s) ||Ve bs i k
inductive KZ (all:Array Oper):Nat->Nat->Prop
  |one {i j:Nat} {o:Oper} {e:Edge}:all[i]?=some o->e∈o.after->Region.binds .any e=true->e.on=j->KZ all j i
  |more {i j k:Nat} {o:Oper} {e:Edge}:all[i]?=some o->e∈o.after->Region.binds .any e=true->e.on=k->KZ all j k->KZ all j i
theorem UI{all:Array Oper}{acc:List Nat}(iT:∀k j,(acc.getD k 0).testBit j=true->KZ all j k){i:Nat}{o:Oper}(hi:all[i]?=some o):
    ∀ (es:List Edge) (s:Nat),(∀e∈es,e∈o.after)->(∀j,s.testBit j=true->KZ all j i)->
      ∀j,(es.foldl (fun s e=>if Region.binds .any e then s |||(1 <<<e.on) |||acc.getD e.on 0 else s) s).testBit j=true->KZ all j i:=by
  intro es;induction es with
  |nil=>exact fun s _ h j=>h j
  | cons e es ih=>
    intro s he h j;simp only [List.foldl_cons];refine ih _ (fun e' h'=>he e' (List.mem_cons_of_mem _ h')) (fun j hj=> ?_) j
    split at hj
    · rename_i hb
      simp only [Nat.testBit_or,Bool.or_eq_true] at hj
      rcases hj with (hj|hj)|hj
      · exact h j hj
      · refine .one hi (he e (List.mem_cons_self ..)) hb ?_;rw [Nat.one_shiftLeft,Nat.testBit_two_pow] at hj
        simpa using hj
      · exact .more hi (he e (List.mem_cons_self ..)) hb rfl (iT _ _ hj)
    · exact h j hj
theorem W1{all:Array Oper}:∀(l:List Oper) (acc:List Nat),(∀m,l[m]?=all[acc.length+m]?)->(∀k j,(acc.getD k 0).testBit j=true->KZ all j k)->
    ∀k j,((bits l acc).getD k 0).testBit j=true->KZ all j k:=by
  intro l;induction l with
  |nil=>exact fun acc _ h=>h
  | cons o l ih=>
    intro acc hl h;refine ih _ (fun m=> ?_) (fun k j hj=> ?_)
    · have:=hl (m+1);simp only [List.getElem?_cons_succ] at this
      rw [this];simp only [List.length_append,List.length_cons,List.length_nil]
      congr 1;omega
    · rcases Nat.lt_trichotomy k acc.length with hk|hk|hk
      · rw [List.getD_eq_getElem?_getD,List.getElem?_append_left hk,<-List.getD_eq_getElem?_getD] at hj;exact h k j hj
      · subst hk;rw [List.getD_eq_getElem?_getD,List.getElem?_append_right (Nat.le_refl _)] at hj
        simp only [Nat.sub_self,List.getElem?_cons_zero,Option.getD_some] at hj
        have h0:=hl 0;simp only [List.getElem?_cons_zero,Nat.add_zero] at h0
        exact UI h h0.symm _ 0 (fun e he=>by simpa using he) (fun j hj=>by simp at hj) j hj
      · rw [List.getD_eq_getElem?_getD,List.getElem?_append_right (Nat.le_of_lt hk)] at hj
        have:([bitsOf acc o]:List Nat)[k - acc.length]?=none:=by rw [List.getElem?_eq_none];simp;omega
        rw [this] at hj;simp at hj
theorem G6{all:Array Oper}{k j:Nat}(h:((bits all.toList []).getD k 0).testBit j=true):KZ all j k:=
  W1 all.toList [] (fun m=>by simp) (fun k j h=>by simp at h) k j h
theorem KZ.listed{all:Array Oper}{L:Nat->Bool}(hL:∀i o,L i=true->all[i]?=some o->∀e∈o.after,Region.binds .any e=true->L e.on=true){i j:Nat}(h:KZ all j i):L i=true->L j=true:=by
  induction h with
  |one hi he hb hj=>intro hl;exact hj▸hL _ _ hl hi _ he hb
  |more hi he hb hk _ ih=>intro hl;exact ih (hk▸hL _ _ hl hi _ he hb)
theorem KZ.ready{all:Array Oper}{L:Nat->Bool}(hL:∀i o,L i=true->all[i]?=some o->∀e∈o.after,Region.binds .any e=true->L e.on=true){i j:Nat}{o:Oper}(hi:all[i]?=some o)
    (hr:∀e∈o.after,Region.binds .any e=true->L e.on=true) (h:KZ all j i):L j=true:=by
  cases h with
  |one hi' he hb hj=>rw [hi] at hi';cases hi';exact hj▸hr _ he hb
  |more hi' he hb hk h'=>rw [hi] at hi';cases hi';exact h'.listed hL (hk▸hr _ he hb)
def Dy(all:Array Oper)(L:Nat->Bool)(s:Nat):Nat->Option Nat
  |0=>none
  |k+1=>if L k && ((all[k]?).bind (·.dst)) ==some s then some k else Dy all L s k
theorem FN{all:Array Oper}{L L':Nat->Bool}{s:Nat}:∀ {k:Nat},(∀j,j<k->(all[j]?).bind (·.dst)=some s->L j=L' j)->Dy all L s k=Dy all L' s k:=by
  intro k;induction k with
  |zero=>intro _;rfl
  | succ k ih=>
    intro h;simp only [Dy];rw [ih fun j hj=>h j Ab];by_cases e:(all[k]?).bind (·.dst)=some s
    · rw [h k Ab e]
    · have:((all[k]?).bind (·.dst) ==some s)=false:=by simpa using e
      simp [this]
theorem FY{all:Array Oper}{L:Nat->Bool}{s i:Nat}:∀ {k:Nat},i≤k->(∀j,i≤j->j<k->L j=true->(all[j]?).bind (·.dst)≠some s)->Dy all L s k=Dy all L s i:=by
  intro k;induction k with
  | zero=>
    intro hi _;have:i=0:=by omega
    rw [this]
  | succ k ih=>
    intro hi h;by_cases e:i=k+1
    · rw [e]
    · simp only [Dy];rw [ih Ab fun j h1 h2=>h j h1 Ab];cases hL:L k with
      |false=>simp
      | true=>
        have:=h k Ab Ab hL;have:((all[k]?).bind (·.dst) ==some s)=false:=by simpa using this
        simp [this]
def Gp(all:Array Oper)(vs:Nat->Value)(env:Env):Nat->Env
  |0=>env
  | k+1=>match(all[k]?).bind (·.dst) with
    |some d=>(d,vs k)::Gp all vs env k
    |none=>Gp all vs env k
def I0(P:Program)(F:B6)(n:Nat)(all:Array Oper)(own:List B6)(env:Env)(o:Oper)(v:Value):Prop:=
  ((Cy all env o=some true/\Dc P (F::own) n o env v)∨(Cy all env o=some false/\v=undef/\Ek o.op=true))/\(∀d,o.dst=some d->d<n)
theorem Wi{P:Program}{F:B6}{n:Nat}{all:Array Oper}{own:List B6}{K:Env->Prop}{env:Env}:∀(m i:Nat) (vs:Nat->Value),i+m=all.size->
    Mz P F n all own K (List.range' i m) (Gp all vs env i)->∃Xb:Nat->Value,(∀j,j<i->Xb j=vs j)/\(∀j,i≤j->j<all.size->∃o,all[j]?=some o/\I0 P F n all own (Gp all Xb env j) o (Xb j))/\K (Gp all Xb env all.size):=by
  intro m;induction m with
  |zero=>intro i vs h hq;exact⟨vs,fun _ _=>rfl,fun j h1 h2=>by omega,by simp only [Nat.add_zero] at h;subst h;exact hq⟩
  | succ m ih=>
    intro i vs h hq;simp only [List.range'_succ,Mz] at hq
    obtain⟨o,v,hi,hc,hd,bg⟩:=hq
    let vs1:Nat->Value:=fun j=>if j=i then v else vs j
    have e1:∀k,k≤i->Gp all vs1 env k=Gp all vs env k:=by
      intro k;induction k with
      |zero=>intro _;rfl
      | succ k ihk=>
        intro hk;simp only [Gp];rw [ihk Ab];have:vs1 k=vs k:=by simp only [vs1];rw [if_neg Ab]
        rw [this]
    have e2:Gp all vs1 env (i+1)=(match o.dst with|some d=>(d,v)::Gp all vs env i|none=>Gp all vs env i):=by
      simp only [Gp,hi,Option.bind_some,e1 i (Nat.le_refl _)];have:vs1 i=v:=by simp [vs1]
      rw [this]
    rw [<-e2] at bg
    obtain⟨Xb,g1,g2,g3⟩:=ih (i+1) vs1 Ab bg;have e3:∀k,k≤i->Gp all Xb env k=Gp all vs env k:=by
      intro k;induction k with
      |zero=>intro _;rfl
      | succ k ihk=>
        intro hk;simp only [Gp];rw [ihk Ab,g1 k Ab];have:vs1 k=vs k:=by simp only [vs1];rw [if_neg Ab]
        rw [this]
    refine⟨Xb,fun j hj=>by rw [g1 j Ab];simp only [vs1];rw [if_neg Ab],fun j h1 h2=> ?_,g3⟩;by_cases e:j=i
    · subst e;refine⟨o,hi,?_⟩;rw [e3 j (Nat.le_refl _),g1 j Ab];have:vs1 j=v:=by simp [vs1]
      rw [this];exact⟨hc,hd⟩
    · exact g2 j Ab h2
theorem Ug{all:Array Oper}{vs:Nat->Value}{env:Env}{s:Nat}:∀k,look (Gp all vs env k) s=match Dy all (fun _=>true) s k with|some j=>some (vs j)|none=>look env s:=by
  intro k;induction k with
  |zero=>rfl
  | succ k ih=>
    simp only [Gp,Dy,Bool.true_and];cases hd:(all[k]?).bind (·.dst) with
    |none=>simp [ih]
    | some d=>
      by_cases e:d=s
      · subst e;simp [EE]
      · have:(some d ==some s)=false:=by simpa using e
        simp only [this,Bool.false_eq_true,if_false];rw [Gx _ _ e,ih]
theorem JF{all:Array Oper}(h:WW all=true){i k s:Nat}{o:Oper}(hi:all[i]?=some o)(hs:s∈JR all o)(hk:(all[k]?).bind (·.dst)=some s)(LC:k≠i):
    (k<i/\KZ all k i)∨(i<k/\KZ all i k):=by
  unfold WW at h
  simp only [List.all_eq_true,Bool.and_eq_true,Bool.or_eq_true,Bool.not_eq_true'] at h
  have hmem:∀ {m:Nat} {o:Oper},all[m]?=some o->(o,m)∈all.toList.zipIdx:=fun{m o} hm=>by
    rw [List.mem_iff_getElem?];exact⟨m,by simp [hm]⟩
  cases hko:all[k]? with
  |none=>rw [hko] at hk;cases hk
  | some o'=>
    rw [hko] at hk
    have:=(h _ (hmem hi)).2 s hs _ (hmem hko);simp only at this
    rcases this with h1|h1
    · have Mm:o'.dst=some s:=hk;rw [Mm] at h1;simp at h1
    · unfold Ve at h1
      simp only [Bool.or_eq_true,Bool.and_eq_true] at h1
      rcases h1 with (⟨h1,h2⟩|⟨h1,h2⟩)|h1
      · exact .inl ⟨Nat.le_of_ble_eq_true h1,G6 h2⟩
      · exact .inr ⟨Nat.le_of_ble_eq_true h1,G6 h2⟩
      · exact absurd (Nat.eq_of_beq_eq_true h1).symm LC
theorem J5{all:Array Oper}(h:WW all=true){i:Nat}{o:Oper}(hi:all[i]?=some o):Ek o.op=true:=by
  unfold WW at h
  simp only [List.all_eq_true,Bool.and_eq_true] at h
  have hmem:(o,i)∈all.toList.zipIdx:=by rw [List.mem_iff_getElem?];exact⟨i,by simp [hi]⟩
  exact(h _ hmem).1.1
theorem az{all:Array Oper}(h:WW all=true){i:Nat}{o:Oper}(hi:all[i]?=some o){e:Edge}(he:e∈o.after)(hb:Region.binds .any e=true):e.on<i:=by
  unfold WW at h
  simp only [List.all_eq_true,Bool.and_eq_true,Bool.or_eq_true,Bool.not_eq_true'] at h
  have hmem:(o,i)∈all.toList.zipIdx:=by rw [List.mem_iff_getElem?];exact⟨i,by simp [hi]⟩
  rcases(h _ hmem).1.2 e (by simpa using he) with h1|h1
  · rw [hb] at h1;cases h1
  · exact Nat.le_of_ble_eq_true h1
def I2(L:Array Bool)(m:Nat):Nat:=((List.range m).filter fun i=>L.getD i false).length
theorem E2{L:Array Bool}{i j:Nat}(hi:i<L.size)(d:Bool):(L.setIfInBounds i true).getD j d=if j=i then true else L.getD j d:=by
  simp only [Array.getD_eq_getD_getElem?];by_cases e:i=j
  · subst e;simp [hi]
  · rw [Array.getElem?_setIfInBounds_ne e,if_neg (fun h=>e h.symm)]
theorem I1{L:Array Bool}{i:Nat}(hi:i<L.size)(hl:L.getD i false=false):∀m,I2 (L.setIfInBounds i true) m=I2 L m+if i<m then 1 else 0:=by
  intro m;induction m with
  |zero=>simp [I2]
  | succ m ih=>
    unfold I2 at ih ⊢
    rw [List.range_succ,List.filter_append,List.filter_append,List.length_append,List.length_append,ih];simp only [List.filter_cons,List.filter_nil,E2 hi];by_cases e:m=i
    · subst e;simp [hl]
    · rw [if_neg e];by_cases h1:i<m
      · have h2:i<m+1:=by omega
        simp only [h1,h2,if_true];omega
      · have h2:¬i<m+1:=by omega
        simp only [h1,h2,if_false];omega
theorem Th{L:Array Bool}:∀m,I2 L m=m->∀i,i<m->L.getD i false=true:=by
  intro m;induction m with
  |zero=>intro _ i hi;omega
  | succ m ih=>
    intro h i hi;have hle:I2 L m≤m:=by unfold I2;have:=List.length_filter_le (fun i=>L.getD i false) (List.range m);simpa using this
    unfold I2 at h hle ih
    rw [List.range_succ,List.filter_append,List.length_append] at h
    simp only [List.filter_cons,List.filter_nil] at h
    by_cases hm:L.getD m false=true
    · rw [if_pos hm] at h
      simp only [List.length_cons,List.length_nil] at h
      by_cases e:i=m
      · rw [e];exact hm
      · exact ih Ab i Ab
    · rw [if_neg hm] at h;simp only [List.length_nil] at h;omega
theorem IZ{all:Array Oper}{o:Oper}{a a':Act}(h:∀s∈o.looksAt all,a.tmps[s]?=a'.tmps[s]?)(hp:Ek o.op=true):execOp a.eval o=execOp a'.eval o:=by
  refine execOp_congr o (fun cs b e=>by rw [e] at hp;cases hp) fun x hx=> ?_
  cases x with
  | tmp t=>
    have:a.tmps[t]?=a'.tmps[t]?:=h t (by
      unfold Oper.looksAt;refine List.mem_append.2 (.inl ?_);rw [List.mem_filterMap];exact⟨.tmp t,by simpa using hx,rfl⟩)
    simp only [Act.eval,Array.getD_eq_getD_getElem?,this]
  |_=>rfl
theorem Fa{all:Array Oper}{o:Oper}{a a':Act}(h:∀s∈o.looksAt all,a.tmps[s]?=a'.tmps[s]?):
    Region.wanted o (yielded all a.tmps)=Region.wanted o (yielded all a'.tmps):=by
  unfold Region.wanted;cases hg:o.guard with
  |none=>rfl
  | some p=>
    obtain⟨j,want⟩:=p;simp only
    congr 1
    unfold yielded;cases hd:(all[j]?).bind (·.dst) with
    |none=>rfl
    | some d=>
      have:a.tmps[d]?=a'.tmps[d]?:=h d (by
        unfold Oper.looksAt;refine List.mem_append.2 (.inr ?_);rw [hg];simp [hd])
      simp only [Option.bind_some,this]
def Z3(md:Region.Mode)(all:Array Oper):List Nat->List Nat->Bool
  |_,[]=>true
  | seen,i::l=>(match all[i]? with
    |some o=>o.after.toList.all fun e=> !Region.binds md e ||seen.contains e.on
    |none=>false) && Z3 md all (i::seen) l
def L6(md:Region.Mode)(all:Array Oper):Bool:=
  let ord:=Region.linearise md all 0
  Z3 md all [] ord && (List.range all.size).all fun i=>ord.contains i
def VF(all:Array Oper):Bool:=L6 .any all && (!Region.departs all ||(L6 .text all && L6 .gc all))
theorem Si {md:Region.Mode}{all:Array Oper}{L:Array Bool}(GH:L.size=all.size)(hr:Region.ready md all L= []):∀ {l seen:List Nat},Z3 md all seen l=true->(∀j∈seen,L.getD j false=true)->∀i∈l,L.getD i false=true:=by
  intro l;induction l with
  |nil=>intro _ _ _ i hi;cases hi
  | cons i l ih=>
    intro seen h hs;simp only [Z3,Bool.and_eq_true] at h
    have hi : L.getD i false=true:=by
      cases hL:L.getD i false with
      |true=>rfl
      | false =>
        exfalso;cases ho:all[i]? with
        |none=>rw [ho] at h;cases h.1
        | some o=>
          rw [ho] at h
          have Em:i<all.size:=(Array.getElem?_eq_some_iff.1 ho).1;have:i∈Region.ready md all L:=by
            unfold Region.ready;rw [List.mem_filter];refine⟨List.mem_range.2 Em,?_⟩;have hLt:L.getD i true=false:=by
              have Em:i<L.size:=by omega
              simp only [Array.getD,Em,dif_pos] at hL ⊢;exact hL
            simp only [hLt,Bool.not_false,Bool.true_and,ho,Option.map_some,Option.getD_some];rw [Array.all_eq_true'];intro e he;have:=List.all_eq_true.1 h.1 e (by simpa using he);simp only [Bool.or_eq_true] at this ⊢
            exact this.imp _root_.id fun hc=>hs e.on (by simpa using hc)
          rw [hr] at this;cases this
    intro k hk;rcases List.mem_cons.1 hk with rfl|hk
    · exact hi
    · exact ih h.2 (fun j hj=>by
        rcases List.mem_cons.1 hj with rfl|hj
        · exact hi
        · exact hs j hj) k hk
theorem Ru{md:Region.Mode}{all:Array Oper}(h:L6 md all=true){L:Array Bool}(GH:L.size=all.size)(hr:Region.ready md all L= []):∀i,i<all.size->L.getD i false=true:=fun i hi=>by
  simp only [L6,Bool.and_eq_true] at h
  have:=List.all_eq_true.1 h.2 i (List.mem_range.2 hi);exact Si GH hr h.1 (fun j hj=>by cases hj) i (by simpa using this)
theorem Qg{md:Region.Mode}{e:Edge}(h:Region.binds .any e=true):Region.binds md e=true:=by
  unfold Region.binds at h ⊢
  split at h <;>first|rfl|(simp at h)|skip
  all_goals (split <;>simp_all)
theorem O4{mixed:Bool}{all:Array Oper}(h:VF all=true)(t:Nat):∃md t',L6 md all=true/\Region.schedule mixed all t=Region.linearise md all t':=by
  simp only [VF,Bool.and_eq_true,Bool.or_eq_true,Bool.not_eq_true'] at h
  unfold Region.schedule
  split
  · exact⟨.any,t,h.1,rfl⟩
  · rename_i hm
    have hd:Region.departs all=true:=by
      cases e:Region.departs all with
      |true=>rfl
      |false=>rw [e] at hm;simp at hm
    rcases h.2 with h2|h2
    · rw [hd] at h2;cases h2
    · split
      · exact⟨.text,_,h2.1,rfl⟩
      · exact⟨.gc,_,h2.2,rfl⟩
theorem Xu {P : Program}{r:Option Nat}{F:B6}{n:Nat}{Q:C4}{env:Env}{own:List B6}{ds:List Deferred}{id:Nat}{ops:Array Oper}{k:List Nat}
    (Jf:WW ops=true) (fp:VF ops=true) (hk:List.range ops.size=k) (h:SO true P r F n ops k Q env own ds):Db P r F n (.region id ops true) Q env own ds:=by
  intro a0 w0 SU ai Xe;refine wpIn_region_draw fun t=> ?_
  obtain⟨md,t',iG,Yq⟩:=O4 (mixed:=P.follows .mixedOrders) fp t;rw [Yq];have hq:Mz P F n ops own (fun env=>Q .normal env own ds) (List.range' 0 ops.size) (Gp ops (fun _=>undef) env 0):=by
    rw [<-List.range_eq_range',hk];exact h
  obtain⟨vs, -,hc,hK⟩:=Wi ops.size 0 (fun _=>undef) Ab hq
  let at_:(Nat->Bool)->Nat->Nat->Option Value:=fun L k s=>match Dy ops L s k with|some j=>some (vs j)|none=>a0.tmps[s]?
  let Inv:Array Bool->Act->World->Prop:=fun L a w=>L.size=ops.size/\a.tmps.size=n/\a.defers=ds/\Sat (F::own) w/\
    (∀s,s<n->a.tmps[s]?=at_ (fun i=>L.getD i false) ops.size s)/\
    (∀i o,L.getD i false=true->ops[i]?=some o->∀e∈o.after,Region.binds .any e=true->L.getD e.on false=true)
  have hhas :∀ {a:Act},a.tmps.size=n->∀k,(∀s,s<n->a.tmps[s]?=at_ (fun _=>true) k s)->Has n (Gp ops vs env k) a:=by
    intro a GH k ht;refine⟨GH,fun s v hv=> ?_⟩;rw [Ug] at hv
    have key:a.tmps[s]?=at_ (fun _=>true) k s∨n≤s:=by
      by_cases hs:s<n
      · exact .inl (ht s hs)
      · exact .inr Ab
    rcases key with key|key
    · rw [key];simp only [at_];cases hl:Dy ops (fun _=>true) s k with
      |some j=>rw [hl] at hv;exact hv
      |none=>rw [hl] at hv;exact SU.get s v hv
    · exfalso;cases hl:Dy ops (fun _=>true) s k with
      | none=>
        rw [hl] at hv
        have:=SU.get s v hv;rw [Array.getElem?_eq_none (by rw [SU.size];exact key)] at this;cases this
      | some j=>
        have hw:∀m,Dy ops (fun _=>true) s m=some j->(ops[j]?).bind (·.dst)=some s:=by
          intro m;induction m with
          |zero=>intro h;cases h
          | succ m ih=>
            intro h;simp only [Dy,Bool.true_and] at h
            split at h
            · cases h;rename_i h2;simpa using h2
            · exact ih h
        have hj:=hw k hl;cases ho:ops[j]? with
        |none=>rw [ho] at hj;cases hj
        | some o=>
          rw [ho] at hj
          have hjlt:j<ops.size:=(Array.getElem?_eq_some_iff.1 ho).1;obtain⟨o',j3, -,gB⟩:=hc j (Nat.zero_le _) hjlt;rw [ho] at j3;cases j3
          exact absurd (gB s hj) (Nat.not_lt.2 key)
  have hend:∀L a w,Inv L a w->(∀i,i<ops.size->L.getD i false=true)->GR F n Q .normal a w:=by
    intro L a w ⟨h1,h2,h3,h4,h5,h6⟩ Et;refine⟨by simp,_,own,hhas h2 ops.size (fun s hs=> ?_),h4,h3▸hK⟩;rw [h5 s hs];simp only [at_];rw [FN (L:=fun i=>L.getD i false) (L':=fun _=>true) fun j hj _=>Et j hj]
  have hempty:∀L a w,Inv L a w->Region.ready md ops L= []->∀i,i<ops.size->L.getD i false=true:=fun L a w hI hr=>Ru iG hI.1 hr
  have key:∀fuel L a w,Inv L a w->fuel+I2 L ops.size=ops.size->wpAnyIn (Np r) 0 P md ops (GR F n Q) fuel L a w:=by
    intro fuel;induction fuel with
    | zero=>
      intro L a w hI hf;have Et:=Th ops.size (by omega:I2 L ops.size=ops.size);refine⟨?_,hend L a w hI Et⟩;unfold Region.ready;rw [List.filter_eq_nil_iff];intro i hi;have hi':=List.mem_range.1 hi;have hL:=Et i hi';have hLt:L.getD i true=true:=by
        have Em:i<L.size:=by rw [hI.1];exact hi'
        simp only [Array.getD,Em,dif_pos] at hL ⊢;exact hL
      simp [hLt]
    | succ fuel ih=>
      intro L a w hI hf;refine⟨fun hr=>hend L a w hI (hempty L a w hI hr),fun i hi=> ?_⟩;obtain⟨h1,h2,h3,h4,h5,h6⟩:=hI;unfold Region.ready at hi
      rw [List.mem_filter] at hi
      obtain⟨Pn,TC⟩:=hi;have Pn:=List.mem_range.1 Pn;have Ii:i<L.size:=by omega
      have Ik:ops[i]?=some ops[i]:=Array.getElem?_eq_getElem Pn;simp only [Ik,Option.map_some,Option.getD_some,Bool.and_eq_true,Bool.not_eq_true',Array.all_eq_true'] at TC
      obtain⟨FZ,P1⟩:=TC;have hnl':L.getD i false=false:=by simp only [Array.getD,Ii,dif_pos] at FZ ⊢;exact FZ
      have hrd':∀e∈ops[i].after,Region.binds .any e=true->L.getD e.on false=true:=fun e he hb=>by
        have:=P1 e he;rw [Qg hb] at this;simpa using this
      have hsame:∀s∈JR ops ops[i],Dy ops (fun j=>L.getD j false) s ops.size=Dy ops (fun _=>true) s i:=by
        intro s hs;rw [FY (i:=i) (Nat.le_of_lt Pn) (L:=fun j=>L.getD j false) (fun j g1 g2 g3 g4=> ?_)]
        · refine FN fun j hj hw=> ?_
          rcases JF Jf Ik hs hw Ab with ⟨g1,g2⟩|⟨g1,g2⟩
          · exact g2.ready h6 Ik hrd'
          · omega
        · by_cases e:j=i
          · subst e;simp only [hnl'] at g3;cases g3
          · rcases JF Jf Ik hs g4 e with ⟨g5,g6⟩|⟨g5,g6⟩
            · omega
            · have:=g6.listed h6 g3;rw [hnl'] at this;cases this
      let W5:Act:={tmps:=Array.ofFn (n:=n) fun s=>(at_ (fun _=>true) i s.val).getD undef,defers:=ds}
      have E5:∀s,s<n->W5.tmps[s]?=at_ (fun _=>true) i s:=by
        intro s hs;simp only [W5];rw [Array.getElem?_eq_getElem (by simpa using hs)];simp only [Array.getElem_ofFn];simp only [at_];cases hl:Dy ops (fun _=>true) s i with
        |some j=>rfl
        | none=>
          simp only [];rw [Array.getElem?_eq_getElem (by rw [SU.size];exact hs)];rfl
      have LF:Has n (Gp ops vs env i) W5:=hhas (by simp [W5]) i E5;have Gn:∀s∈(ops[i]).looksAt ops,a.tmps[s]?=W5.tmps[s]?:=by
        intro s hs;by_cases WE:s<n
        · rw [h5 s WE,E5 s WE];simp only [at_];rw [hsame s (List.mem_append.2 (.inl hs))]
        · have hge:n≤s:=Nat.not_lt.1 WE;rw [Array.getElem?_eq_none (by rw [h2];exact hge),Array.getElem?_eq_none (by simpa [W5] using hge)]
      obtain⟨o,ho,YB,gB⟩:=hc i (Nat.zero_le _) Pn;rw [Ik] at ho;cases ho
      have hnext:∀w',Sat (F::own) w'->wpAnyIn (Np r) 0 P md ops (GR F n Q) fuel (L.setIfInBounds i true) (a.put (ops[i]).dst (vs i)) w':=by
        intro w' hs';refine ih _ _ _ ⟨by simpa using h1,?_,?_,hs',?_,?_⟩ ?_
        · cases (ops[i]).dst <;>simp [Act.put,h2]
        · cases (ops[i]).dst <;>simp [Act.put,h3]
        · intro s hs;by_cases hd:(ops[i]).dst=some s
          · have hmem:s∈JR ops ops[i]:=List.mem_append.2 (.inr (by rw [hd];simp));have hl:Dy ops (fun j=>(L.setIfInBounds i true).getD j false) s ops.size=some i:=by
              rw [FY (i:=i+1) Ab (L:=fun j=>(L.setIfInBounds i true).getD j false) (fun j g1 g2 g3 g4=> ?_)]
              · simp only [Dy,E2 Ii,if_true,Bool.true_and,Ik,Option.bind_some,hd];simp
              · rw [E2 Ii,if_neg Ab] at g3
                rcases JF Jf Ik hmem g4 Ab with ⟨g5,g6⟩|⟨g5,g6⟩
                · omega
                · have:=g6.listed h6 g3;rw [hnl'] at this;cases this
            simp only [at_,hl];rw [hd];simp only [Act.put];simp [h2,hs]
          · have hl:Dy ops (fun j=>(L.setIfInBounds i true).getD j false) s ops.size=Dy ops (fun j=>L.getD j false) s ops.size:=by
              refine FN fun j hj hw=> ?_
              rw [E2 Ii];by_cases e:j=i
              · subst e;rw [Ik] at hw;exact absurd hw hd
              · rw [if_neg e]
            simp only [at_,hl];have:=h5 s hs;simp only [at_] at this
            rw [<-this];cases WN:(ops[i]).dst with
            |none=>rfl
            | some d=>
              have:d≠s:=fun e=>hd (e▸WN)
              simp only [Act.put];rw [Array.getElem?_setIfInBounds_ne this]
        · intro j o hj ho e he hb;rw [E2 Ii] at hj ⊢
          by_cases e':e.on=i
          · rw [if_pos e']
          · rw [if_neg e'];by_cases ej:j=i
            · subst ej;rw [Ik] at ho;cases ho;exact hrd' e he hb
            · rw [if_neg ej] at hj;exact h6 j o hj ho e he hb
        · rw [I1 Ii hnl',if_pos Pn];omega
      rcases YB with ⟨hg,hv⟩|⟨hg,hv,hp⟩
      · exact XY hv Ik ((Fa Gn).trans (DH LF hg)) LF (IZ Gn (J5 Jf Ik)) h4 hnext
      · simp only [wpOpIn,Ik,(Fa Gn).trans (DH LF hg)];refine⟨fun f _=>by simp,?_⟩;rw [<-hv];exact hnext w h4
  refine wpAnyIn_sound ops.size t' (Array.replicate ops.size false) a0 _ (key ops.size _ a0 _ ⟨by simp,SU.size,ai,Xe.heap rfl rfl rfl,fun s hs=> ?_,fun i o hi=> ?_⟩ ?_)
  · have:Dy ops (fun j=>(Array.replicate ops.size false).getD j false) s ops.size=none:=by
      have hz:∀m,Dy ops (fun j=>(Array.replicate ops.size false).getD j false) s m=none:=by
        intro m;induction m with
        |zero=>rfl
        | succ m ih=>
          have:(Array.replicate ops.size false).getD m false=false:=by
            rw [Array.getD_eq_getD_getElem?,Array.getElem?_replicate];split <;>rfl
          simp only [Dy,this,Bool.false_and,Bool.false_eq_true,if_false,ih]
      exact hz _
    simp only [at_,this]
  · exfalso;have:(Array.replicate ops.size false).getD i false=false:=by
      rw [Array.getD_eq_getD_getElem?,Array.getElem?_replicate];split <;>rfl
    rw [this] at hi;cases hi
  · have:∀m,I2 (Array.replicate ops.size false) m=0:=by
      intro m;unfold I2;rw [List.length_eq_zero_iff,List.filter_eq_nil_iff];intro i _;have:(Array.replicate ops.size false).getD i false=false:=by
        rw [Array.getD_eq_getD_getElem?,Array.getElem?_replicate];split <;>rfl
      simp [this]
    rw [this];omega
end Go.SL
