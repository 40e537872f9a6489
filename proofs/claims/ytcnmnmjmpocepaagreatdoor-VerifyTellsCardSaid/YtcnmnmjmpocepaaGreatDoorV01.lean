
import Derived.Test.YtcnmnmjmpocepaaGreatDoorV00
import Derived.WalkKit
import Derived.Laws.Rows
import Derived.Laws.Tables
set_option linter.unusedVariables false
set_option linter.unusedSimpArgs false
set_option linter.unusedSectionVars false
set_option maxRecDepth 100000
set_option maxHeartbeats 16000000
section
namespace Go.SL
def EX:Op->Bool
  | .defer _| .select .. | .go _=>false
  |_=>true
def C6(all:Array Oper)(env:Env)(o:Oper):Option Bool:=
  match o.guard with
  |none=>some true
  | some (j,want)=>
    match(all[j]?).bind (·.dst) with
    | some d=>match look env d with
      |some (.bool b)=>some (b ==want)
      |some _=>some false
      |none=>none
    |none=>none
theorem Ee {all:Array Oper}{env:Env}{o:Oper}{t:Bool}{n:Nat}{a:Act}(h:Has n env a)(e:C6 all env o=some t):
    Region.wanted o (yielded all a.tmps)=t:=by
  unfold C6 at e
  unfold Region.wanted;cases hg:o.guard with
  |none=>rw [hg] at e;simpa using e
  | some p=>
    obtain⟨j,want⟩:=p;rw [hg] at e
    simp only at e ⊢
    cases hd:(all[j]?).bind (·.dst) with
    |none=>rw [hd] at e;cases e
    | some d=>
      rw [hd] at e
      simp only at e
      split at e
      · rename_i b hb
        have:=h.get d _ hb;simp only [Option.some.injEq] at e
        have hy:yielded all a.tmps j=some b:=by simp only [yielded,hd,Option.bind_some,this]
        rw [hy,<-e];cases b <;>cases want <;>rfl
      · rename_i u hnb hu
        have:=h.get d _ hu;simp only [Option.some.injEq] at e
        have hy:yielded all a.tmps j=none:=by
          simp only [yielded,hd,Option.bind_some,this]
          split
          · rename_i b hb
            exact absurd (by simpa using hb) (hnb b)
          · rfl
        rw [hy,<-e];cases want <;>rfl
      · cases e
def DG(P:Program)(hs:List CA)(n:Nat)(o:Oper)(env:Env)(v:Value):Prop:=
  EX o.op=true/\∀a w X,Has n env a->Sat (hs++X) w->∃w',Sat (hs++X) w'/\
    ((execOp a.eval o).run P w= .ok (.value v) w'∨((execOp a.eval o).run P w= .ok .skip w'/\v=undef)∨
      ∃f args,(execOp a.eval o).run P w= .ok (.enter f args) w'/\Calls P f args w' fun e MN=>e= .returned v/\Sat (hs++X) MN)
def Oy(P:Program)(F:CA)(n:Nat)(all:Array Oper)(own:List CA)(K:Env->Prop):List Nat->Env->Prop
  | [],env=>K env
  | i ::l,env=>∃o v,all[i]?=some o/\((C6 all env o=some true/\DG P (F::own) n o env v)∨(C6 all env o=some false/\v=undef/\EX o.op=true))/\
      (∀d,o.dst=some d->d<n)/\Oy P F n all own K l (match o.dst with|some d=>(d,v)::env|none=>env)
def SO(quiet:Bool)(P:Program)(r:Option Nat)(F:CA)(n:Nat)(all:Array Oper)(l:List Nat)(Q:DD)(env:Env)(own:List CA)(ds:List Deferred):Prop:=
  match quiet with
  |false=>∀a w,Has n env a->a.defers=ds->Sat (F::own) w->wpOpsIn (Pv r) 0 P all (H9 F n Q) l a w
  |true=>Oy P F n all own (fun env=>Q .normal env own ds) l env
theorem semAt_plain{r:Option Nat}{o:Oper}(h:EX o.op=true)(ρ:Operand->Value):o.semAt r ρ=execOp ρ o:=
  Oper.semAt_eq r ρ o fun c e=>by rw [e] at h;cases h
theorem bO{P:Program}{r:Option Nat}{F:CA}{n:Nat}{o:Oper}{env:Env}{own:List CA}{v:Value}(h:DG P (F::own) n o env v)
    {all:Array Oper} {Q:Exit->Act->World->Prop} {i:Nat} {K:Act->World->Prop} {a:Act} {w:World} (hi:all[i]?=some o)
    (hw:Region.wanted o (yielded all a.tmps)=true) {a':Act} (ha:Has n env a') (he:execOp a.eval o=execOp a'.eval o) (hs:Sat (F::own) w)
    (hk:∀w',Sat (F::own) w'->K (a.put o.dst v) w'):wpOpIn (Pv r) 0 P all Q i K a w:=by
  simp only [wpOpIn,hi,hw,if_true];refine⟨fun f _=>by simp,?_⟩;rw [Ff,semAt_plain h.1,he];obtain⟨w',s',h1|⟨h1,rfl⟩|⟨f,args,h1,h2⟩⟩:=h.2 a' w [] ha (by simpa using hs)
  · rw [h1];exact hk w' (by simpa using s')
  · rw [h1];exact hk w' (by simpa using s')
  · rw [h1];refine⟨fun hx=>by simp at hx,(F0 _ h2).mono ?_⟩;rintro e MN ⟨rfl,s2⟩;exact hk MN (by simpa using s2)
section
variable {P:Program} {r:Option Nat} {F:CA} {n:Nat} {Q:DD} {env:Env} {own:List CA} {ds:List Deferred} {q:Bool} {all:Array Oper} {l:List Nat} {i:Nat} {o:Oper}
theorem jb(h:Q .normal env own ds):SO q P r F n all [] Q env own ds:=by
  cases q
  · exact fun a w ha hd hs=>H9.mk Am ha hd hs h
  · exact h
theorem ld{v:Value}{d:Nat}(hi:all[i]?=some o)(hd:o.dst=some d)(hn:d<n)(hg:C6 all env o=some true)(hv:DG P (F::own) n o env v)
    (h:SO q P r F n all l Q ((d,v)::env) own ds):SO q P r F n all (i::l) Q env own ds:=by
  cases q
  · intro a w ha OT hs;rw [wpOpsIn_cons];exact bO hv hi (Ee ha hg) ha rfl hs fun w' s'=>by
      rw [hd];exact h _ w' (ha.put v hn) OT s'
  · exact⟨o,v,hi,.inl ⟨hg,hv⟩,fun d' ZQ=>(by rw [hd] at ZQ;cases ZQ;exact hn),by rw [hd];exact h⟩
theorem eU{d:Nat}(hi:all[i]?=some o)(hd:o.dst=some d)(hn:d<n)(hg:C6 all env o=some false)(hp:EX o.op=true)
    (h:SO q P r F n all l Q ((d,undef)::env) own ds):SO q P r F n all (i::l) Q env own ds:=by
  cases q
  · intro a w ha OT hs;rw [wpOpsIn_cons];simp only [wpOpIn,hi,Ee ha hg];refine⟨fun f _=>by simp,?_⟩;rw [hd];exact h _ w (ha.put undef hn) OT hs
  · exact⟨o,undef,hi,.inr ⟨hg,rfl,hp⟩,fun d' ZQ=>(by rw [hd] at ZQ;cases ZQ;exact hn),by rw [hd];exact h⟩
theorem WO{id:Nat}{ops:Array Oper}{k:List Nat}(hk:List.range ops.size=k)(h:SO false P r F n ops k Q env own ds):DI P r F n (.region id ops false) Q env own ds:=
  fun a w ha hd hs=>wpIn_region (by rw [hk];exact h a w ha hd hs)
end
def bitsOf(acc:List Nat)(o:Oper):Nat:=o.after.toList.foldl (fun s e=>if Region.binds .any e then s |||(1 <<<e.on) |||acc.getD e.on 0 else s) 0
def bits:List Oper->List Nat->List Nat
  | [],acc=>acc
  |o::l,acc=>bits l (acc++ [bitsOf acc o])
def Lz(all:Array Oper)(o:Oper):List Nat:=o.looksAt all++o.dst.toList
def Yi(bs:List Nat)(i k:Nat):Bool:=(Nat.blt k i && (bs.getD i 0).testBit k) ||(Nat.blt i k && (bs.getD k 0).testBit i) ||Nat.beq i k
def ZZ(all:Array Oper):Bool:=
  let bs:=bits all.toList []
  all.toList.zipIdx.all fun(o,i)=>EX o.op && (o.after.toList.all fun e=> !Region.binds .any e ||Nat.blt e.on i) && (Lz all o).all fun s=>all.toList.zipIdx.all fun(o',k)=> !(o'.dst ==some s) ||Yi bs i k
inductive MK (all:Array Oper):Nat->Nat->Prop
  |one {i j:Nat} {o:Oper} {e:Edge}:all[i]?=some o->e∈o.after->Region.binds .any e=true->e.on=j->MK all j i
  |more {i j k:Nat} {o:Oper} {e:Edge}:all[i]?=some o->e∈o.after->Region.binds .any e=true->e.on=k->MK all j k->MK all j i
theorem XL{all:Array Oper}{acc:List Nat}(oB:∀k j,(acc.getD k 0).testBit j=true->MK all j k){i:Nat}{o:Oper}(hi:all[i]?=some o):
    ∀ (es:List Edge) (s:Nat),(∀e∈es,e∈o.after)->(∀j,s.testBit j=true->MK all j i)->
      ∀j,(es.foldl (fun s e=>if Region.binds .any e then s |||(1 <<<e.on) |||acc.getD e.on 0 else s) s).testBit j=true->MK all j i:=by
  intro es;induction es with
  |nil=>exact fun s _ h j=>h j
  | cons e es ih=>
    intro s he h j;simp only [List.foldl_cons];refine ih _ (fun e' h'=>he e' (List.mem_cons_of_mem _ h')) (fun j hj=> ?_) j
    split at hj
    · rename_i hb
      simp only [Nat.testBit_or,Bool.or_eq_true] at hj
      rcases hj with (hj|hj)|hj
      · exact h j hj
      · refine .one hi (he e (List.mem_cons_self ..)) hb ?_;rw [Nat.one_shiftLeft,Nat.testBit_two_pow] at hj
        simpa using hj
      · exact .more hi (he e (List.mem_cons_self ..)) hb rfl (oB _ _ hj)
    · exact h j hj
theorem Z5{all:Array Oper}:∀(l:List Oper) (acc:List Nat),(∀m,l[m]?=all[acc.length+m]?)->(∀k j,(acc.getD k 0).testBit j=true->MK all j k)->
    ∀k j,((bits l acc).getD k 0).testBit j=true->MK all j k:=by
  intro l;induction l with
  |nil=>exact fun acc _ h=>h
  | cons o l ih=>
    intro acc hl h;refine ih _ (fun m=> ?_) (fun k j hj=> ?_)
    · have:=hl (m+1);simp only [List.getElem?_cons_succ] at this
      rw [this];simp only [List.length_append,List.length_cons,List.length_nil]
      congr 1;omega
    · rcases Nat.lt_trichotomy k acc.length with hk|hk|hk
      · rw [List.getD_eq_getElem?_getD,List.getElem?_append_left hk,<-List.getD_eq_getElem?_getD] at hj;exact h k j hj
      · subst hk;rw [List.getD_eq_getElem?_getD,List.getElem?_append_right (Nat.le_refl _)] at hj
        simp only [Nat.sub_self,List.getElem?_cons_zero,Option.getD_some] at hj
        have h0:=hl 0;simp only [List.getElem?_cons_zero,Nat.add_zero] at h0
        exact XL h h0.symm _ 0 (fun e he=>by simpa using he) (fun j hj=>by simp at hj) j hj
      · rw [List.getD_eq_getElem?_getD,List.getElem?_append_right (Nat.le_of_lt hk)] at hj
        have:([bitsOf acc o]:List Nat)[k - acc.length]?=none:=by rw [List.getElem?_eq_none];simp;omega
        rw [this] at hj;simp at hj
theorem Ix{all:Array Oper}{k j:Nat}(h:((bits all.toList []).getD k 0).testBit j=true):MK all j k:=
  Z5 all.toList [] (fun m=>by simp) (fun k j h=>by simp at h) k j h
theorem MK.listed{all:Array Oper}{L:Nat->Bool}(hL:∀i o,L i=true->all[i]?=some o->∀e∈o.after,Region.binds .any e=true->L e.on=true){i j:Nat}(h:MK all j i):L i=true->L j=true:=by
  induction h with
  |one hi he hb hj=>intro hl;exact hj▸hL _ _ hl hi _ he hb
  |more hi he hb hk _ ih=>intro hl;exact ih (hk▸hL _ _ hl hi _ he hb)
theorem MK.ready{all:Array Oper}{L:Nat->Bool}(hL:∀i o,L i=true->all[i]?=some o->∀e∈o.after,Region.binds .any e=true->L e.on=true){i j:Nat}{o:Oper}(hi:all[i]?=some o)
    (hr:∀e∈o.after,Region.binds .any e=true->L e.on=true) (h:MK all j i):L j=true:=by
  cases h with
  |one hi' he hb hj=>rw [hi] at hi';cases hi';exact hj▸hr _ he hb
  |more hi' he hb hk h'=>rw [hi] at hi';cases hi';exact h'.listed hL (hk▸hr _ he hb)
def D5(all:Array Oper)(L:Nat->Bool)(s:Nat):Nat->Option Nat
  |0=>none
  |k+1=>if L k && ((all[k]?).bind (·.dst)) ==some s then some k else D5 all L s k
theorem GH{all:Array Oper}{L L':Nat->Bool}{s:Nat}:∀ {k:Nat},(∀j,j<k->(all[j]?).bind (·.dst)=some s->L j=L' j)->D5 all L s k=D5 all L' s k:=by
  intro k;induction k with
  |zero=>intro _;rfl
  | succ k ih=>
    intro h;simp only [D5];rw [ih fun j hj=>h j Ab];by_cases e:(all[k]?).bind (·.dst)=some s
    · rw [h k Ab e]
    · have:((all[k]?).bind (·.dst) ==some s)=false:=by simpa using e
      simp [this]
theorem GQ{all:Array Oper}{L:Nat->Bool}{s i:Nat}:∀ {k:Nat},i≤k->(∀j,i≤j->j<k->L j=true->(all[j]?).bind (·.dst)≠some s)->D5 all L s k=D5 all L s i:=by
  intro k;induction k with
  | zero=>
    intro hi _;have:i=0:=by omega
    rw [this]
  | succ k ih=>
    intro hi h;by_cases e:i=k+1
    · rw [e]
    · simp only [D5];rw [ih Ab fun j h1 h2=>h j h1 Ab];cases hL:L k with
      |false=>simp
      | true=>
        have:=h k Ab Ab hL;have:((all[k]?).bind (·.dst) ==some s)=false:=by simpa using this
        simp [this]
def Hv(all:Array Oper)(vs:Nat->Value)(env:Env):Nat->Env
  |0=>env
  | k+1=>match(all[k]?).bind (·.dst) with
    |some d=>(d,vs k)::Hv all vs env k
    |none=>Hv all vs env k
def Ky(P:Program)(F:CA)(n:Nat)(all:Array Oper)(own:List CA)(env:Env)(o:Oper)(v:Value):Prop:=
  ((C6 all env o=some true/\DG P (F::own) n o env v)∨(C6 all env o=some false/\v=undef/\EX o.op=true))/\(∀d,o.dst=some d->d<n)
theorem Zp{P:Program}{F:CA}{n:Nat}{all:Array Oper}{own:List CA}{K:Env->Prop}{env:Env}:∀(m i:Nat) (vs:Nat->Value),i+m=all.size->
    Oy P F n all own K (List.range' i m) (Hv all vs env i)->∃ai:Nat->Value,(∀j,j<i->ai j=vs j)/\(∀j,i≤j->j<all.size->∃o,all[j]?=some o/\Ky P F n all own (Hv all ai env j) o (ai j))/\K (Hv all ai env all.size):=by
  intro m;induction m with
  |zero=>intro i vs h hq;exact⟨vs,fun _ _=>rfl,fun j h1 h2=>by omega,by simp only [Nat.add_zero] at h;subst h;exact hq⟩
  | succ m ih=>
    intro i vs h hq;simp only [List.range'_succ,Oy] at hq
    obtain⟨o,v,hi,hc,hd,iE⟩:=hq
    let vs1:Nat->Value:=fun j=>if j=i then v else vs j
    have e1:∀k,k≤i->Hv all vs1 env k=Hv all vs env k:=by
      intro k;induction k with
      |zero=>intro _;rfl
      | succ k ihk=>
        intro hk;simp only [Hv];rw [ihk Ab];have:vs1 k=vs k:=by simp only [vs1];rw [if_neg Ab]
        rw [this]
    have e2:Hv all vs1 env (i+1)=(match o.dst with|some d=>(d,v)::Hv all vs env i|none=>Hv all vs env i):=by
      simp only [Hv,hi,Option.bind_some,e1 i (Nat.le_refl _)];have:vs1 i=v:=by simp [vs1]
      rw [this]
    rw [<-e2] at iE
    obtain⟨ai,g1,g2,g3⟩:=ih (i+1) vs1 Ab iE;have e3:∀k,k≤i->Hv all ai env k=Hv all vs env k:=by
      intro k;induction k with
      |zero=>intro _;rfl
      | succ k ihk=>
        intro hk;simp only [Hv];rw [ihk Ab,g1 k Ab];have:vs1 k=vs k:=by simp only [vs1];rw [if_neg Ab]
        rw [this]
    refine⟨ai,fun j hj=>by rw [g1 j Ab];simp only [vs1];rw [if_neg Ab],fun j h1 h2=> ?_,g3⟩;by_cases e:j=i
    · subst e;refine⟨o,hi,?_⟩;rw [e3 j (Nat.le_refl _),g1 j Ab];have:vs1 j=v:=by simp [vs1]
      rw [this];exact⟨hc,hd⟩
    · exact g2 j Ab h2
theorem Xi{all:Array Oper}{vs:Nat->Value}{env:Env}{s:Nat}:∀k,look (Hv all vs env k) s=match D5 all (fun _=>true) s k with|some j=>some (vs j)|none=>look env s:=by
  intro k;induction k with
  |zero=>rfl
  | succ k ih=>
    simp only [Hv,D5,Bool.true_and];cases hd:(all[k]?).bind (·.dst) with
    |none=>simp [ih]
    | some d=>
      by_cases e:d=s
      · subst e;simp [Fy]
      · have:(some d ==some s)=false:=by simpa using e
        simp only [this,Bool.false_eq_true,if_false];rw [HN _ _ e,ih]
theorem Lm{all:Array Oper}(h:ZZ all=true){i k s:Nat}{o:Oper}(hi:all[i]?=some o)(hs:s∈Lz all o)(hk:(all[k]?).bind (·.dst)=some s)(Ns:k≠i):
    (k<i/\MK all k i)∨(i<k/\MK all i k):=by
  unfold ZZ at h
  simp only [List.all_eq_true,Bool.and_eq_true,Bool.or_eq_true,Bool.not_eq_true'] at h
  have hmem:∀ {m:Nat} {o:Oper},all[m]?=some o->(o,m)∈all.toList.zipIdx:=fun{m o} hm=>by
    rw [List.mem_iff_getElem?];exact⟨m,by simp [hm]⟩
  cases hko:all[k]? with
  |none=>rw [hko] at hk;cases hk
  | some o'=>
    rw [hko] at hk
    have:=(h _ (hmem hi)).2 s hs _ (hmem hko);simp only at this
    rcases this with h1|h1
    · have Oh:o'.dst=some s:=hk;rw [Oh] at h1;simp at h1
    · unfold Yi at h1
      simp only [Bool.or_eq_true,Bool.and_eq_true] at h1
      rcases h1 with (⟨h1,h2⟩|⟨h1,h2⟩)|h1
      · exact .inl ⟨Nat.le_of_ble_eq_true h1,Ix h2⟩
      · exact .inr ⟨Nat.le_of_ble_eq_true h1,Ix h2⟩
      · exact absurd (Nat.eq_of_beq_eq_true h1).symm Ns
theorem LN{all:Array Oper}(h:ZZ all=true){i:Nat}{o:Oper}(hi:all[i]?=some o):EX o.op=true:=by
  unfold ZZ at h
  simp only [List.all_eq_true,Bool.and_eq_true] at h
  have hmem:(o,i)∈all.toList.zipIdx:=by rw [List.mem_iff_getElem?];exact⟨i,by simp [hi]⟩
  exact(h _ hmem).1.1
theorem gD{all:Array Oper}(h:ZZ all=true){i:Nat}{o:Oper}(hi:all[i]?=some o){e:Edge}(he:e∈o.after)(hb:Region.binds .any e=true):e.on<i:=by
  unfold ZZ at h
  simp only [List.all_eq_true,Bool.and_eq_true,Bool.or_eq_true,Bool.not_eq_true'] at h
  have hmem:(o,i)∈all.toList.zipIdx:=by rw [List.mem_iff_getElem?];exact⟨i,by simp [hi]⟩
  rcases(h _ hmem).1.2 e (by simpa using he) with h1|h1
  · rw [hb] at h1;cases h1
  · exact Nat.le_of_ble_eq_true h1
def J7(L:Array Bool)(m:Nat):Nat:=((List.range m).filter fun i=>L.getD i false).length
theorem FX{L:Array Bool}{i j:Nat}(hi:i<L.size)(d:Bool):(L.setIfInBounds i true).getD j d=if j=i then true else L.getD j d:=by
  simp only [Array.getD_eq_getD_getElem?];by_cases e:i=j
  · subst e;simp [hi]
  · rw [Array.getElem?_setIfInBounds_ne e,if_neg (fun h=>e h.symm)]
theorem KA{L:Array Bool}{i:Nat}(hi:i<L.size)(hl:L.getD i false=false):∀m,J7 (L.setIfInBounds i true) m=J7 L m+if i<m then 1 else 0:=by
  intro m;induction m with
  |zero=>simp [J7]
  | succ m ih=>
    unfold J7 at ih ⊢
    rw [List.range_succ,List.filter_append,List.filter_append,List.length_append,List.length_append,ih];simp only [List.filter_cons,List.filter_nil,FX hi];by_cases e:m=i
    · subst e;simp [hl]
    · rw [if_neg e];by_cases h1:i<m
      · have h2:i<m+1:=by omega
        simp only [h1,h2,if_true];omega
      · have h2:¬i<m+1:=by omega
        simp only [h1,h2,if_false];omega
theorem VZ{L:Array Bool}:∀m,J7 L m=m->∀i,i<m->L.getD i false=true:=by
  intro m;induction m with
  |zero=>intro _ i hi;omega
  | succ m ih=>
    intro h i hi;have hle:J7 L m≤m:=by unfold J7;have:=List.length_filter_le (fun i=>L.getD i false) (List.range m);simpa using this
    unfold J7 at h hle ih
    rw [List.range_succ,List.filter_append,List.length_append] at h
    simp only [List.filter_cons,List.filter_nil] at h
    by_cases hm:L.getD m false=true
    · rw [if_pos hm] at h
      simp only [List.length_cons,List.length_nil] at h
      by_cases e:i=m
      · rw [e];exact hm
      · exact ih Ab i Ab
    · rw [if_neg hm] at h;simp only [List.length_nil] at h;omega
theorem Kw{all:Array Oper}{o:Oper}{a a':Act}(h:∀s∈o.looksAt all,a.tmps[s]?=a'.tmps[s]?)(hp:EX o.op=true):execOp a.eval o=execOp a'.eval o:=by
  refine execOp_congr o (fun cs b e=>by rw [e] at hp;cases hp) fun x hx=> ?_
  cases x with
  | tmp t=>
    have:a.tmps[t]?=a'.tmps[t]?:=h t (by
      unfold Oper.looksAt;refine List.mem_append.2 (.inl ?_);rw [List.mem_filterMap];exact⟨.tmp t,by simpa using hx,rfl⟩)
    simp only [Act.eval,Array.getD_eq_getD_getElem?,this]
  |_=>rfl
theorem F3{all:Array Oper}{o:Oper}{a a':Act}(h:∀s∈o.looksAt all,a.tmps[s]?=a'.tmps[s]?):
    Region.wanted o (yielded all a.tmps)=Region.wanted o (yielded all a'.tmps):=by
  unfold Region.wanted;cases hg:o.guard with
  |none=>rfl
  | some p=>
    obtain⟨j,want⟩:=p;simp only
    congr 1
    unfold yielded;cases hd:(all[j]?).bind (·.dst) with
    |none=>rfl
    | some d=>
      have:a.tmps[d]?=a'.tmps[d]?:=h d (by
        unfold Oper.looksAt;refine List.mem_append.2 (.inr ?_);rw [hg];simp [hd])
      simp only [Option.bind_some,this]
def fS(md:Region.Mode)(all:Array Oper):List Nat->List Nat->Bool
  |_,[]=>true
  | seen,i::l=>(match all[i]? with
    |some o=>o.after.toList.all fun e=> !Region.binds md e ||seen.contains e.on
    |none=>false) && fS md all (i::seen) l
def NV(md:Region.Mode)(all:Array Oper):Bool:=
  let ord:=Region.linearise md all 0
  fS md all [] ord && (List.range all.size).all fun i=>ord.contains i
def YR(all:Array Oper):Bool:=NV .any all && (!Region.departs all ||(NV .text all && NV .gc all))
theorem Vj {md:Region.Mode}{all:Array Oper}{L:Array Bool}(Hs:L.size=all.size)(hr:Region.ready md all L= []):∀ {l seen:List Nat},fS md all seen l=true->(∀j∈seen,L.getD j false=true)->∀i∈l,L.getD i false=true:=by
  intro l;induction l with
  |nil=>intro _ _ _ i hi;cases hi
  | cons i l ih=>
    intro seen h hs;simp only [fS,Bool.and_eq_true] at h
    have hi : L.getD i false=true:=by
      cases hL:L.getD i false with
      |true=>rfl
      | false =>
        exfalso;cases ho:all[i]? with
        |none=>rw [ho] at h;cases h.1
        | some o=>
          rw [ho] at h
          have E6:i<all.size:=(Array.getElem?_eq_some_iff.1 ho).1;have:i∈Region.ready md all L:=by
            unfold Region.ready;rw [List.mem_filter];refine⟨List.mem_range.2 E6,?_⟩;have hLt:L.getD i true=false:=by
              have E6:i<L.size:=by omega
              simp only [Array.getD,E6,dif_pos] at hL ⊢;exact hL
            simp only [hLt,Bool.not_false,Bool.true_and,ho,Option.map_some,Option.getD_some];rw [Array.all_eq_true'];intro e he;have:=List.all_eq_true.1 h.1 e (by simpa using he);simp only [Bool.or_eq_true] at this ⊢
            exact this.imp _root_.id fun hc=>hs e.on (by simpa using hc)
          rw [hr] at this;cases this
    intro k hk;rcases List.mem_cons.1 hk with rfl|hk
    · exact hi
    · exact ih h.2 (fun j hj=>by
        rcases List.mem_cons.1 hj with rfl|hj
        · exact hi
        · exact hs j hj) k hk
theorem Ur{md:Region.Mode}{all:Array Oper}(h:NV md all=true){L:Array Bool}(Hs:L.size=all.size)(hr:Region.ready md all L= []):∀i,i<all.size->L.getD i false=true:=fun i hi=>by
  simp only [NV,Bool.and_eq_true] at h
  have:=List.all_eq_true.1 h.2 i (List.mem_range.2 hi);exact Vj Hs hr h.1 (fun j hj=>by cases hj) i (by simpa using this)
theorem S6{md:Region.Mode}{e:Edge}(h:Region.binds .any e=true):Region.binds md e=true:=by
  unfold Region.binds at h ⊢
  split at h <;>first|rfl|(simp at h)|skip
  all_goals (split <;>simp_all)
theorem Rm{mixed:Bool}{all:Array Oper}(h:YR all=true)(t:Nat):∃md t',NV md all=true/\Region.schedule mixed all t=Region.linearise md all t':=by
  simp only [YR,Bool.and_eq_true,Bool.or_eq_true,Bool.not_eq_true'] at h
  unfold Region.schedule
  split
  · exact⟨.any,t,h.1,rfl⟩
  · rename_i hm
    have hd:Region.departs all=true:=by
      cases e:Region.departs all with
      |true=>rfl
      |false=>rw [e] at hm;simp at hm
    rcases h.2 with h2|h2
    · rw [hd] at h2;cases h2
    · split
      · exact⟨.text,_,h2.1,rfl⟩
      · exact⟨.gc,_,h2.2,rfl⟩
theorem aQ {P : Program}{r:Option Nat}{F:CA}{n:Nat}{Q:DD}{env:Env}{own:List CA}{ds:List Deferred}{id:Nat}{ops:Array Oper}{k:List Nat}
    (Ht:ZZ ops=true) (l6:YR ops=true) (hk:List.range ops.size=k) (h:SO true P r F n ops k Q env own ds):DI P r F n (.region id ops true) Q env own ds:=by
  intro a0 w0 VE c8 Wt;refine wpIn_region_draw fun t=> ?_
  obtain⟨md,t',kN,cT⟩:=Rm (mixed:=P.follows .mixedOrders) l6 t;rw [cT];have hq:Oy P F n ops own (fun env=>Q .normal env own ds) (List.range' 0 ops.size) (Hv ops (fun _=>undef) env 0):=by
    rw [<-List.range_eq_range',hk];exact h
  obtain⟨vs, -,hc,hK⟩:=Zp ops.size 0 (fun _=>undef) Ab hq
  let at_:(Nat->Bool)->Nat->Nat->Option Value:=fun L k s=>match D5 ops L s k with|some j=>some (vs j)|none=>a0.tmps[s]?
  let Inv:Array Bool->Act->World->Prop:=fun L a w=>L.size=ops.size/\a.tmps.size=n/\a.defers=ds/\Sat (F::own) w/\
    (∀s,s<n->a.tmps[s]?=at_ (fun i=>L.getD i false) ops.size s)/\
    (∀i o,L.getD i false=true->ops[i]?=some o->∀e∈o.after,Region.binds .any e=true->L.getD e.on false=true)
  have hhas :∀ {a:Act},a.tmps.size=n->∀k,(∀s,s<n->a.tmps[s]?=at_ (fun _=>true) k s)->Has n (Hv ops vs env k) a:=by
    intro a Hs k ht;refine⟨Hs,fun s v hv=> ?_⟩;rw [Xi] at hv
    have key:a.tmps[s]?=at_ (fun _=>true) k s∨n≤s:=by
      by_cases hs:s<n
      · exact .inl (ht s hs)
      · exact .inr Ab
    rcases key with key|key
    · rw [key];simp only [at_];cases hl:D5 ops (fun _=>true) s k with
      |some j=>rw [hl] at hv;exact hv
      |none=>rw [hl] at hv;exact VE.get s v hv
    · exfalso;cases hl:D5 ops (fun _=>true) s k with
      | none=>
        rw [hl] at hv
        have:=VE.get s v hv;rw [Array.getElem?_eq_none (by rw [VE.size];exact key)] at this;cases this
      | some j=>
        have hw:∀m,D5 ops (fun _=>true) s m=some j->(ops[j]?).bind (·.dst)=some s:=by
          intro m;induction m with
          |zero=>intro h;cases h
          | succ m ih=>
            intro h;simp only [D5,Bool.true_and] at h
            split at h
            · cases h;rename_i h2;simpa using h2
            · exact ih h
        have hj:=hw k hl;cases ho:ops[j]? with
        |none=>rw [ho] at hj;cases hj
        | some o=>
          rw [ho] at hj
          have hjlt:j<ops.size:=(Array.getElem?_eq_some_iff.1 ho).1;obtain⟨o',nh, -,nk⟩:=hc j (Nat.zero_le _) hjlt;rw [ho] at nh;cases nh
          exact absurd (nk s hj) (Nat.not_lt.2 key)
  have hend:∀L a w,Inv L a w->(∀i,i<ops.size->L.getD i false=true)->H9 F n Q .normal a w:=by
    intro L a w ⟨h1,h2,h3,h4,h5,h6⟩ Fp;refine⟨by simp,_,own,hhas h2 ops.size (fun s hs=> ?_),h4,h3▸hK⟩;rw [h5 s hs];simp only [at_];rw [GH (L:=fun i=>L.getD i false) (L':=fun _=>true) fun j hj _=>Fp j hj]
  have hempty:∀L a w,Inv L a w->Region.ready md ops L= []->∀i,i<ops.size->L.getD i false=true:=fun L a w hI hr=>Ur kN hI.1 hr
  have key:∀fuel L a w,Inv L a w->fuel+J7 L ops.size=ops.size->wpAnyIn (Pv r) 0 P md ops (H9 F n Q) fuel L a w:=by
    intro fuel;induction fuel with
    | zero=>
      intro L a w hI hf;have Fp:=VZ ops.size (by omega:J7 L ops.size=ops.size);refine⟨?_,hend L a w hI Fp⟩;unfold Region.ready;rw [List.filter_eq_nil_iff];intro i hi;have hi':=List.mem_range.1 hi;have hL:=Fp i hi';have hLt:L.getD i true=true:=by
        have E6:i<L.size:=by rw [hI.1];exact hi'
        simp only [Array.getD,E6,dif_pos] at hL ⊢;exact hL
      simp [hLt]
    | succ fuel ih=>
      intro L a w hI hf;refine⟨fun hr=>hend L a w hI (hempty L a w hI hr),fun i hi=> ?_⟩;obtain⟨h1,h2,h3,h4,h5,h6⟩:=hI;unfold Region.ready at hi
      rw [List.mem_filter] at hi
      obtain⟨NQ,LW⟩:=hi;have NQ:=List.mem_range.1 NQ;have JM:i<L.size:=by omega
      have JO:ops[i]?=some ops[i]:=Array.getElem?_eq_getElem NQ;simp only [JO,Option.map_some,Option.getD_some,Bool.and_eq_true,Bool.not_eq_true',Array.all_eq_true'] at LW
      obtain⟨Gt,Kq⟩:=LW;have hnl':L.getD i false=false:=by simp only [Array.getD,JM,dif_pos] at Gt ⊢;exact Gt
      have hrd':∀e∈ops[i].after,Region.binds .any e=true->L.getD e.on false=true:=fun e he hb=>by
        have:=Kq e he;rw [S6 hb] at this;simpa using this
      have hsame:∀s∈Lz ops ops[i],D5 ops (fun j=>L.getD j false) s ops.size=D5 ops (fun _=>true) s i:=by
        intro s hs;rw [GQ (i:=i) (Nat.le_of_lt NQ) (L:=fun j=>L.getD j false) (fun j g1 g2 g3 g4=> ?_)]
        · refine GH fun j hj hw=> ?_
          rcases Lm Ht JO hs hw Ab with ⟨g1,g2⟩|⟨g1,g2⟩
          · exact g2.ready h6 JO hrd'
          · omega
        · by_cases e:j=i
          · subst e;simp only [hnl'] at g3;cases g3
          · rcases Lm Ht JO hs g4 e with ⟨g5,g6⟩|⟨g5,g6⟩
            · omega
            · have:=g6.listed h6 g3;rw [hnl'] at this;cases this
      let Z8:Act:={tmps:=Array.ofFn (n:=n) fun s=>(at_ (fun _=>true) i s.val).getD undef,defers:=ds}
      have FD:∀s,s<n->Z8.tmps[s]?=at_ (fun _=>true) i s:=by
        intro s hs;simp only [Z8];rw [Array.getElem?_eq_getElem (by simpa using hs)];simp only [Array.getElem_ofFn];simp only [at_];cases hl:D5 ops (fun _=>true) s i with
        |some j=>rfl
        | none=>
          simp only [];rw [Array.getElem?_eq_getElem (by rw [VE.size];exact hs)];rfl
      have Nt:Has n (Hv ops vs env i) Z8:=hhas (by simp [Z8]) i FD;have Hu:∀s∈(ops[i]).looksAt ops,a.tmps[s]?=Z8.tmps[s]?:=by
        intro s hs;by_cases Wr:s<n
        · rw [h5 s Wr,FD s Wr];simp only [at_];rw [hsame s (List.mem_append.2 (.inl hs))]
        · have hge:n≤s:=Nat.not_lt.1 Wr;rw [Array.getElem?_eq_none (by rw [h2];exact hge),Array.getElem?_eq_none (by simpa [Z8] using hge)]
      obtain⟨o,ho,c9,nk⟩:=hc i (Nat.zero_le _) NQ;rw [JO] at ho;cases ho
      have hnext:∀w',Sat (F::own) w'->wpAnyIn (Pv r) 0 P md ops (H9 F n Q) fuel (L.setIfInBounds i true) (a.put (ops[i]).dst (vs i)) w':=by
        intro w' hs';refine ih _ _ _ ⟨by simpa using h1,?_,?_,hs',?_,?_⟩ ?_
        · cases (ops[i]).dst <;>simp [Act.put,h2]
        · cases (ops[i]).dst <;>simp [Act.put,h3]
        · intro s hs;by_cases hd:(ops[i]).dst=some s
          · have hmem:s∈Lz ops ops[i]:=List.mem_append.2 (.inr (by rw [hd];simp));have hl:D5 ops (fun j=>(L.setIfInBounds i true).getD j false) s ops.size=some i:=by
              rw [GQ (i:=i+1) Ab (L:=fun j=>(L.setIfInBounds i true).getD j false) (fun j g1 g2 g3 g4=> ?_)]
              · simp only [D5,FX JM,if_true,Bool.true_and,JO,Option.bind_some,hd];simp
              · rw [FX JM,if_neg Ab] at g3
                rcases Lm Ht JO hmem g4 Ab with ⟨g5,g6⟩|⟨g5,g6⟩
                · omega
                · have:=g6.listed h6 g3;rw [hnl'] at this;cases this
            simp only [at_,hl];rw [hd];simp only [Act.put];simp [h2,hs]
          · have hl:D5 ops (fun j=>(L.setIfInBounds i true).getD j false) s ops.size=D5 ops (fun j=>L.getD j false) s ops.size:=by
              refine GH fun j hj hw=> ?_
              rw [FX JM];by_cases e:j=i
              · subst e;rw [JO] at hw;exact absurd hw hd
              · rw [if_neg e]
            simp only [at_,hl];have:=h5 s hs;simp only [at_] at this
            rw [<-this];cases ZQ:(ops[i]).dst with
            |none=>rfl
            | some d=>
              have:d≠s:=fun e=>hd (e▸ZQ)
              simp only [Act.put];rw [Array.getElem?_setIfInBounds_ne this]
        · intro j o hj ho e he hb;rw [FX JM] at hj ⊢
          by_cases e':e.on=i
          · rw [if_pos e']
          · rw [if_neg e'];by_cases ej:j=i
            · subst ej;rw [JO] at ho;cases ho;exact hrd' e he hb
            · rw [if_neg ej] at hj;exact h6 j o hj ho e he hb
        · rw [KA JM hnl',if_pos NQ];omega
      rcases c9 with ⟨hg,hv⟩|⟨hg,hv,hp⟩
      · exact bO hv JO ((F3 Hu).trans (Ee Nt hg)) Nt (Kw Hu (LN Ht JO)) h4 hnext
      · simp only [wpOpIn,JO,(F3 Hu).trans (Ee Nt hg)];refine⟨fun f _=>by simp,?_⟩;rw [<-hv];exact hnext w h4
  refine wpAnyIn_sound ops.size t' (Array.replicate ops.size false) a0 _ (key ops.size _ a0 _ ⟨by simp,VE.size,c8,Wt.heap rfl rfl rfl,fun s hs=> ?_,fun i o hi=> ?_⟩ ?_)
  · have:D5 ops (fun j=>(Array.replicate ops.size false).getD j false) s ops.size=none:=by
      have hz:∀m,D5 ops (fun j=>(Array.replicate ops.size false).getD j false) s m=none:=by
        intro m;induction m with
        |zero=>rfl
        | succ m ih=>
          have:(Array.replicate ops.size false).getD m false=false:=by
            rw [Array.getD_eq_getD_getElem?,Array.getElem?_replicate];split <;>rfl
          simp only [D5,this,Bool.false_and,Bool.false_eq_true,if_false,ih]
      exact hz _
    simp only [at_,this]
  · exfalso;have:(Array.replicate ops.size false).getD i false=false:=by
      rw [Array.getD_eq_getD_getElem?,Array.getElem?_replicate];split <;>rfl
    rw [this] at hi;cases hi
  · have:∀m,J7 (Array.replicate ops.size false) m=0:=by
      intro m;unfold J7;rw [List.length_eq_zero_iff,List.filter_eq_nil_iff];intro i _;have:(Array.replicate ops.size false).getD i false=false:=by
        rw [Array.getD_eq_getD_getElem?,Array.getElem?_replicate];split <;>rfl
      simp [this]
    rw [this];omega
end Go.SL
end
section
namespace Go.SL
def T(P:Program)(f:FuncId)(args:List Value)(hs:List CA)(Q:Ending->List CA->Prop):Prop:=
  ∀w X,Sat (hs++X) w->Calls P f args.toArray w fun e w'=>∃own,Sat (own++X) w'/\Q e own
def Dw(P:Program)(f:FuncId)(args:List Value)(hs:List CA)(v:Value):Prop:=T P f args hs fun e own=>e= .returned v/\own=hs
theorem T.mono{P:Program}{f:FuncId}{args:List Value}{hs:List CA}{Q Q':Ending->List CA->Prop}(h:T P f args hs Q)(hq:∀e own,Q e own->Q' e own):T P f args hs Q':=
  fun w X s=>(h w X s).mono fun _ _ ⟨own,h1,h2⟩=>⟨own,h1,hq _ _ h2⟩
class Mg (own:List CA) (h:CA) (rest:outParam (List CA)):Prop where
  perm:own.Perm (h::rest)
instance Mg.head{h:CA}{r:List CA}:Mg (h::r) h r:=⟨List.Perm.refl _⟩
instance Mg.tail{h k:CA}{r r':List CA} [t:Mg r h r']:Mg (k::r) h (k::r'):=⟨(t.perm.cons k).trans (List.Perm.swap _ _ _)⟩
class Dx (own:List CA) (hs:List CA) (rest:outParam (List CA)):Prop where
  perm:own.Perm (hs++rest)
instance Dx.nil{own:List CA}:Dx own [] own:=⟨List.Perm.refl _⟩
instance Dx.cons{own:List CA}{h:CA}{hs r r':List CA} [t:Mg own h r] [u:Dx r hs r']:Dx own (h::hs) r':=
  ⟨t.perm.trans (u.perm.cons h)⟩
class LO (h:CA) (b:Nat) (o:outParam Obj):Prop where
  eq:h (.b b)=some (.o o)
instance LO.CV{b:Nat}{o:Obj}:LO (CV b o) b o:=⟨Dq b o⟩
class At (own:List CA) (b:Nat) (o:outParam Obj):Prop where
  mem:∃h∈own,h (.b b)=some (.o o)
instance At.head{h:CA}{r:List CA}{b:Nat}{o:Obj} [t:LO h b o]:At (h::r) b o:=⟨h,List.mem_cons_self ..,t.eq⟩
instance (priority:=low) At.tail{h:CA}{r:List CA}{b:Nat}{o:Obj} [t:At r b o]:At (h::r) b o:=let ⟨k,hk,e⟩:=t.mem;⟨k,List.mem_cons_of_mem _ hk,e⟩
theorem At.get{own:List CA}{b:Nat}{o:Obj}(t:At own b o){X:List CA}{w:World}(s:Sat (own++X) w):w.heap[b]?=some o:=
  let ⟨_,hm,e⟩:=t.mem;s.at (List.mem_append.2 (.inl hm)) e
class Wl (own:List CA) (b:Nat) (o:outParam Obj) (o':Obj) (own':outParam (List CA)):Prop where
  rest:∃r,own.Perm (SL.CV b o::r)/\own'.Perm (SL.CV b o'::r)
instance Wl.head{b:Nat}{o o':Obj}{r:List CA}:Wl (SL.CV b o::r) b o o' (SL.CV b o'::r):=⟨r,List.Perm.refl _,List.Perm.refl _⟩
instance (priority:=low) Wl.tail{k:CA}{b:Nat}{o o':Obj}{r r':List CA} [t:Wl r b o o' r']:Wl (k::r) b o o' (k::r'):=
  let ⟨l,h1,h2⟩:=t.rest;⟨k::l,(h1.cons k).trans (List.Perm.swap _ _ _),(h2.cons k).trans (List.Perm.swap _ _ _)⟩
def IK(P:Program)(rs:List ResultVar)(own:List CA)(env:Env)(n:Nat)(v:Value):Prop:=
  ∀(fn:Func) (a:Act) w X,fn.results.toList=rs->Has n env a->Sat (own++X) w->(results fn a.tmps).run P w= .ok v w
def PW(tmps:Array Value):ResultVar->Sem Value
  | .tmp t=>pure (tmps.getD t undef)
  | .cell a t=>do loadVar t (<-asAddr (tmps.getD a undef))
def Ui(P:Program)(own:List CA)(env:Env)(n:Nat)(x:ResultVar)(v:Value):Prop:=
  ∀(a:Act) w X,Has n env a->Sat (own++X) w->(PW a.tmps x).run P w= .ok v w
theorem Cx{P:Program}{own:List CA}{env:Env}{n t:Nat}{v:Value}(h:look env t=some v):Ui P own env n (.tmp t) v:=fun a w X ha _=>by
  have:a.tmps.getD t undef=v:=by rw [Array.getD_eq_getD_getElem?,ha.get t v h];rfl
  simp [PW,this]
theorem J9(fn:Func)(tmps:Array Value):results fn tmps=(do
    let vs <-fn.results.mapM (PW tmps)
    pure (if h:vs.size=1 then vs[0] else .tuple vs)):=by
  unfold results
  congr 1
theorem Dt{P:Program}{own:List CA}{env:Env}{n:Nat}:IK P [] own env n (.tuple #[]):=fun fn a w X hr _ _=>by
  have hf:fn.results= #[]:=Array.ext' (by simpa using hr);rw [J9,hf];simp
theorem CD{P:Program}{own:List CA}{env:Env}{n:Nat}{x:ResultVar}{v:Value}(h:Ui P own env n x v):IK P [x] own env n v:=fun fn a w X hr ha s=>by
  have hf:fn.results= #[x]:=Array.ext' (by simpa using hr);rw [J9,hf];simp [h a w X ha s]
theorem CU{P:Program}{own:List CA}{env:Env}{n:Nat}{x y:ResultVar}{v u:Value}(h:Ui P own env n x v)(h2:Ui P own env n y u):IK P [x,y] own env n (.tuple #[v,u]):=fun fn a w X hr ha s=>by
  have hf:fn.results= #[x,y]:=Array.ext' (by simpa using hr);rw [J9,hf];simp [h a w X ha s,h2 a w X ha s]
theorem KY{P:Program}{own:List CA}{env:Env}{n:Nat}{x y z:ResultVar}{v u t:Value}(h:Ui P own env n x v)(h2:Ui P own env n y u)(h3:Ui P own env n z t):IK P [x,y,z] own env n (.tuple #[v,u,t]):=fun fn a w X hr ha s=>by
  have hf:fn.results= #[x,y,z]:=Array.ext' (by simpa using hr);rw [J9,hf];simp [h a w X ha s,h2 a w X ha s,h3 a w X ha s]
def params(args:List Value):Nat->Env
  | k=>match args with
    | []=> []
    |v::r=>(k,v)::params r (k+1)
theorem K9(args:List Value):∀k i v,look (params args k) i=some v->k≤i/\args[i - k]?=some v:=by
  induction args with
  |nil=>intro k i v h;cases h
  | cons a r ih=>
    intro k i v h;simp only [params] at h
    by_cases e:k=i
    · subst e;rw [Fy] at h;cases h;simp
    · rw [HN _ _ e] at h
      obtain⟨h1,h2⟩:=ih _ _ _ h;refine⟨by omega,?_⟩;have:i - k=(i - (k+1))+1:=by omega
      rw [this];simpa using h2
def mark(D:Nat):Deferred:={target:= .collected D,args:= #[]}
class Marks (ds:List Deferred) (own:List CA) (own':outParam (List CA)):Prop where
  out:∀ {P:Program} {fn:Func} {tmps:Array Value} {R:Ending->World->Prop} {u:FrameMode} {w:World} {X:List CA},u≠ .run->Sat (own++X) w->(∀w',Sat (own'++X) w'->LeavesInM Fence.wide 0 P fn tmps R [] u w')->LeavesInM Fence.wide 0 P fn tmps R ds u w
instance Marks.nil{own:List CA}:Marks [] own own:=⟨fun _ s h=>h _ s⟩
theorem UL{P:Program}{hs:List CA}{w:World}{D:Nat}(s:Sat (CV D (.deferred (some []))::hs) w):
    ∃w',(Instr.takeDeferred D).run P w= .ok [] w'/\Sat hs w':=by
  have hb:w.heap[D]?=some (.deferred (some [])):=s.at (List.mem_cons_self ..) (Dq _ _);refine⟨{w with heap:=w.heap.setIfInBounds D (.deferred none)},?_,?_⟩
  · simp [Instr.takeDeferred,getObj,setObj,Sem.run,hb]
  · have:Sat (CV D (.deferred none)::hs) {w with heap:=w.heap.setIfInBounds D (.deferred none)}:=by
      have E6:=(Array.getElem?_eq_some_iff.1 hb).1;exact s.put (by simp [E6]) rfl rfl (fun k hk=>by simp only [];rw [Array.getElem?_setIfInBounds_ne (Ne.symm hk)]) (fun _=>rfl)
    exact this.tail
instance Marks.cons{D:Nat}{ds:List Deferred}{own r own':List CA} [t:Mg own (CV D (.deferred (some []))) r] [u:Marks ds r own']:Marks (mark D::ds) own own':=
  ⟨fun{P fn tmps R m w X} hm s h=>by
    obtain⟨w',h1,h2⟩:=UL (P:=P) (s.perm (t.perm.append_right X));exact⟨hm,.inl ⟨D,w',rfl,h1,u.out hm h2 h⟩⟩⟩
def Mf(P:Program)(fn:Func)(n:Nat)(Q:Ending->List CA->Prop):DD
  | .normal,env,own,ds| .ret,env,own,ds=>∃v own1 own',Marks ds own own1/\IK P fn.results.toList own1 env n v/\(∀F w,Sat (F::own1) w->Sat (F::own') w)/\Q (.returned v) own'
  | .panic chain,_,own,ds=>∃own1 own',Marks ds own own1/\(∀F w,Sat (F::own1) w->Sat (F::own') w)/\Q (.panicked chain) own'
  |_,_,_,_=>False
theorem N1{hs X:List CA}{w:World}(s:Sat (hs++X) w):Sat (Da X::hs) w:=(s.perm List.perm_append_comm).Da
theorem Jm{hs X:List CA}{w:World}(d:X.Pairwise Eo)(s:Sat (Da X::hs) w):Sat (hs++X) w:=(s.IL d).perm List.perm_append_comm
theorem PR{hs X:List CA}{w:World}(s:Sat (hs++X) w):X.Pairwise Eo:=(s.sub (List.sublist_append_right _ _)).dj
theorem CM{P:Program}{f:FuncId}{fn:Func}{c:Code}{args:List Value}{hs:List CA}{Q:Ending->List CA->Prop}(hf:P.funcs[f]?=some fn)(hb:fn.body=some c)
    (hn:args.length≤fn.ntmps) (h:∀F,DI P none F fn.ntmps c (Mf P fn fn.ntmps Q) (params args 0) hs []):T P f args hs Q:=by
  intro w X s;have hX:=PR s;refine(callsIn_wide (n:=0)).1 (callsIn_of_wp_marks hf hb trivial ?_);have ha:Has fn.ntmps (params args 0) {tmps:=args.toArray++Array.replicate (fn.ntmps - args.toArray.size) undef,defers:= []}:=by
    refine⟨by simp;omega,fun i v hi=> ?_⟩;obtain⟨-,h2⟩:=K9 args 0 i v hi;simp only [Nat.sub_zero] at h2
    have E6:i<args.length:=(List.getElem?_eq_some_iff.1 h2).1;rw [Array.getElem?_append_left (by simpa using E6)];simpa using h2
  refine wpIn_mono (h (Da X) _ w ha rfl (N1 s)) fun e a w' ⟨he,env,own,h1,h2,h3⟩=> ?_
  have h2':Sat (own++ [Da X]) w':=h2.perm (List.perm_append_comm (l₁:= [Da X]) (l₂:=own));have ret:(∃v own1 own',Marks a.defers own own1/\IK P fn.results.toList own1 env fn.ntmps v/\(∀F w,Sat (F::own1) w->Sat (F::own') w)/\Q (.returned v) own')->
      LeavesInM Fence.wide 0 P fn a.tmps (fun e w'=>∃own,Sat (own++X) w'/\Q e own) a.defers .returning w':=by
    rintro⟨v,own1,own',hm,hr,hw,hq⟩;refine hm.out Am h2' fun w2 s2=> ?_
    refine⟨v,hr fn a w2 [Da X] rfl h1 s2,own',Jm hX (hw _ _ (s2.perm (List.perm_append_comm (l₁:=own1) (l₂:= [Da X])))),hq⟩
  cases e with
  |normal=>exact ret h3
  |ret=>exact ret h3
  | panic chain=>
    obtain⟨own1,own',hm,hw,hq⟩:=h3;refine hm.out Am h2' fun w2 s2=> ?_
    exact⟨own',Jm hX (hw _ _ (s2.perm (List.perm_append_comm (l₁:=own1) (l₂:= [Da X])))),hq⟩
  |exit _=>exact h3.elim
  |goto _=>exact h3.elim
  |outgrown=>exact absurd rfl he
class Enters (P:Program) (f:FuncId):Prop where
  run:∀args w,(callFunc f args).run P w= .ok (.enter f args) w
def OW(env:Env):List Operand->Option (List Value)
  | []=>some []
  | x ::r=>match ev env x with
    | some v=>match OW env r with
      |some vs=>some (v::vs)
      |none=>none
    |none=>none
theorem Lk{n:Nat}{env:Env}{a:Act}(h:Has n env a):∀ {xs:List Operand} {vs:List Value},OW env xs=some vs->xs.map a.eval=vs:=by
  intro xs;induction xs with
  |nil=>intro vs e;cases e;rfl
  | cons x r ih=>
    intro vs e;simp only [OW] at e
    cases h1:ev env x with
    |none=>rw [h1] at e;cases e
    | some v=>
      rw [h1] at e
      cases h2:OW env r with
      |none=>rw [h2] at e;cases e
      | some ai=>
        rw [h2] at e;cases e
        simp [h.eval h1,ih h2]
theorem M7{P:Program}{n:Nat}{env:Env}{a:Act}{o:Oper}{c:Call}{x:Operand}{f:FuncId}{first captured:Array Value}{vs:List Value} [he:Enters P f](ha:Has n env a)
    (ho:o.op= .call c) (hc:c.callee= .value x) (hx:ev env x=some (.func (.func f) first captured)) (Ko:OW env c.args.toList=some vs) (w:World):
    (execOp a.eval o).run P w= .ok (.enter f (first++vs.toArray++captured)) w:=by
  have h1:c.args.map a.eval=vs.toArray:=Array.ext' (by simpa using Lk ha Ko);simp only [execOp,ho,resolve,hc,ha.eval hx,h1,Deferred.ofValue];exact he.run _ w
def XR:List Value->Option (List Value)->Option (List Value)
  | [],b=>b
  |v::r,b=>match XR r b with|some l=>some (v::l)|none=>none
def Lq(a b c:List Value):Option (List Value):=XR a (XR b (XR c (some [])))
theorem S9:∀(a x:List Value),XR a (some x)=some (a++x):=by
  intro a;induction a with
  |nil=>intro x;rfl
  |cons v r ih=>intro x;simp [XR,ih]
theorem Pw{a b c l:List Value}(h:Lq a b c=some l):a++b++c=l:=by
  simp only [Lq,S9,List.append_nil,Option.some.injEq] at h
  rw [<-h,List.append_assoc]
theorem CE{P:Program}{own rest hs:List CA}{n:Nat}{env:Env}{o:Oper}{c:Call}{x:Operand}{f:FuncId}{first captured:Array Value}{vs all:List Value}{v:Value} [Enters P f]
    [t:Dx own hs rest] (ho:o.op= .call c) (hc:c.callee= .value x) (hx:ev env x=some (.func (.func f) first captured)) (Ko:OW env c.args.toList=some vs)
    (dh:Lq first.toList vs captured.toList=some all) (h:Dw P f all hs v):DG P own n o env v:=by
  have Fp:=Pw dh;refine⟨by rw [ho];rfl,fun a w X ha hs'=> ?_⟩;have hp:(own++X).Perm (hs++(rest++X)):=by rw [<-List.append_assoc];exact t.perm.append_right X
  refine⟨w,hs',.inr (.inr ⟨f,_,M7 ha ho hc hx Ko w,?_⟩)⟩;have e:first++vs.toArray++captured=all.toArray:=by rw [<-Fp];simp
  rw [e];refine(h w (rest++X) (hs'.perm hp)).mono ?_;rintro e w' ⟨own',s2,rfl,rfl⟩;exact⟨rfl,s2.perm hp.symm⟩
section
variable {P:Program} {r:Option Nat} {F:CA} {n:Nat} {Q:DD} {env:Env} {own rest hs:List CA} {ds:List Deferred} {all:Array Oper} {l:List Nat} {i:Nat} {o:Oper}
theorem eV{c:Call}{x:Operand}{f:FuncId}{first captured:Array Value}{vs FI:List Value}{R:Ending->List CA->Prop} [Enters P f] [t:Dx own hs rest]{d:Nat}
    (hi:all[i]?=some o) (hd:o.dst=some d) (hn:d<n) (hg:C6 all env o=some true)
    (ho:o.op= .call c) (hc:c.callee= .value x) (hx:ev env x=some (.func (.func f) first captured)) (Ko:OW env c.args.toList=some vs)
    (Fp:first.toList++vs++captured.toList=FI) (h:T P f FI hs R)
    (hr:∀e own',R e own'->(∃v,e= .returned v/\SO false P r F n all l Q ((d,v)::env) (own'++rest) ds)∨(∃ch,e= .panicked ch/\Q (.panic ch) env (own'++rest) ds)):
    SO false P r F n all (i::l) Q env own ds:=by
  intro a w ha OT hs';rw [wpOpsIn_cons];simp only [wpOpIn,hi,Ee ha hg,if_true];refine⟨fun f _=>by simp,?_⟩;rw [Ff,semAt_plain (by rw [ho];rfl),M7 ha ho hc hx Ko w];have e:first++vs.toArray++captured=FI.toArray:=by rw [<-Fp];simp
  rw [e];refine⟨fun hx=>by simp at hx,(F0 _ (h w (rest++ [F]) ?_)).mono ?_⟩
  · exact hs'.perm ((List.perm_append_comm (l₁:= [F]) (l₂:=own)).trans (by rw [<-List.append_assoc];exact t.perm.append_right [F]))
  · rintro e w' ⟨own',s2,hR⟩;have s3:Sat (F::(own'++rest)) w':=s2.perm (by rw [<-List.append_assoc];exact List.perm_append_comm (l₁:=own'++rest) (l₂:= [F]));rcases hr e own' hR with ⟨v,rfl,hq⟩|⟨ch,rfl,hq⟩
    · rw [hd];exact hq _ w' (ha.put v hn) OT s3
    · exact H9.mk Am ha OT s3 hq
end
end Go.SL
end
