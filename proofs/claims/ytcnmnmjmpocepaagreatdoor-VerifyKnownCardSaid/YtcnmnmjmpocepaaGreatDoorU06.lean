
import Derived.Test.YtcnmnmjmpocepaaGreatDoorU05
set_option linter.unusedVariables false
set_option linter.unusedSimpArgs false
set_option linter.unusedSectionVars false
set_option maxRecDepth 100000
set_option maxHeartbeats 16000000
namespace Go.SL
def Kt(P:Program)(n:Nat)(o:Oper)(env:Env)(vf:Nat->Value)(ob:Obj):Prop:=
  Ek o.op=true/\(∀off,Ou ob off=false)/\∀a w,Has n env a->(execOp a.eval o).run P w= .ok (.value (vf w.heap.size)) {w with heap:=w.heap.push ob}
inductive It
  |q (i:Nat)
  |f (i:Nat)
  |r (i:Nat)
  |an (i:Nat)
  |rv (i:Nat)
  |h (c:Bool) (m:Nat)
  |fi (i j:Nat)
def It.ix:It->Nat
  | .q i| .f i| .r i| .an i| .rv i| .h _ i| .fi i _=>i
def It.O3:It->Bool
  | .an _=>false
  |_=>true
def It.exec:It->Bool
  | .rv _=>false
  |_=>true
def CM(l:List It):List Nat:=(l.filter It.O3).map It.ix
def F5(l:List It):List Nat:=(l.filter It.exec).map It.ix
theorem Di(l m:List It):CM (l++m)=CM l++CM m:=by simp [CM]
theorem Df(l m:List It):F5 (l++m)=F5 l++F5 m:=by simp [F5]
theorem Iu{l:List It}{x:Nat}(h:x∈CM l):∃p it t,l=p++it::t/\it.O3=true/\it.ix=x:=by
  simp only [CM,List.mem_map,List.mem_filter] at h
  obtain⟨it,⟨h1,h2⟩,h3⟩:=h;obtain⟨p,t,e⟩:=List.append_of_mem h1;exact⟨p,it,t,e,h2,h3⟩
theorem YN{l:List It}{x:Nat}(h:x∈F5 l):∃p it t,l=p++it::t/\it.exec=true/\it.ix=x:=by
  simp only [F5,List.mem_map,List.mem_filter] at h
  obtain⟨it,⟨h1,h2⟩,h3⟩:=h;obtain⟨p,t,e⟩:=List.append_of_mem h1;exact⟨p,it,t,e,h2,h3⟩
theorem C3{l:List It}{it:It}(h:it∈l)(he:it.exec=true):it.ix∈F5 l:=by
  simp only [F5,List.mem_map,List.mem_filter];exact⟨it,⟨h,he⟩,rfl⟩
theorem EZ{l:List It}{it:It}(h:it∈l)(he:it.O3=true):it.ix∈CM l:=by
  simp only [CM,List.mem_map,List.mem_filter];exact⟨it,⟨h,he⟩,rfl⟩
def Z7(i:Nat):It->Bool
  | .an j=>Nat.beq j i
  |_=>false
def eP(j:Nat):It->Bool
  | .fi _ k=>Nat.beq k j
  |_=>false
def fx(bs:List Nat)(i:Nat)(l:List Nat):It->Bool
  | .fi k j=> !Nat.beq j i ||l.all (fun x=>(bs.getD x 0).testBit k)
  |_=>true
def gG(k:Nat)(f:Nat->Bool):It->Bool
  | .fi i j=> !Nat.beq i k ||f j
  |_=>true
def lu(bs:List Nat)(m:Nat):It->Bool
  | .q i=>(bs.getD m 0).testBit i
  |_=>true
def cK(bs:List Nat)(pre r:List It):It->Bool
  | .h c m=>(F5 r).all (fun x=>(bs.getD x 0).testBit m) && (!c ||pre.all (lu bs m))
  | .rv i=>(F5 r).all (fun x=>(bs.getD x 0).testBit i) && pre.any (Z7 i) && pre.all (fx bs i (F5 r)) && r.all (fun it=> !eP i it)
  | .fi i j=>pre.any (Z7 j) && (bs.getD i 0).testBit j
  |_=>true
def VA(pre:List It)(it:It)(k:Nat):Bool:=match it with
  | .fi _ j=>Nat.beq k j ||((CM pre).contains k && pre.all (gG k fun j'=>Nat.beq j' j ||(CM pre).contains j'))
  |_=>(CM pre).contains k && pre.all (gG k fun j'=>(CM pre).contains j')
def U4(all:Array Oper)(bs:List Nat):List It->List It->Bool
  |_,[]=>true
  |pre,it::r=>(!it.exec ||(match all[it.ix]? with
      |some o=>o.after.toList.all fun e=> !Region.binds .any e ||VA pre it e.on
      |none=>false)) && cK bs pre r it && U4 all bs (pre++ [it]) r
theorem YQ{pre:List It}{it:It}{k:Nat}(h:VA pre it k=true):(∃i,it= .fi i k)∨(k∈CM pre/\∀j',.fi k j'∈pre->j'∈CM pre∨∃i,it= .fi i j'):=by
  have fin:∀ {f:Nat->Bool},pre.all (gG k f)=true->∀j',.fi k j'∈pre->f j'=true:=fun{f} hh j' hj=>by
    have:=List.all_eq_true.1 hh _ hj;simpa [gG] using this
  unfold VA at h
  split at h
  · rename_i i j
    simp only [Bool.or_eq_true,Bool.and_eq_true] at h
    rcases h with h|⟨h1,h2⟩
    · exact .inl ⟨i,by rw [Nat.eq_of_beq_eq_true h]⟩
    · refine .inr ⟨by simpa using h1,fun j' hj=> ?_⟩;have:=fin h2 j' hj;simp only [Bool.or_eq_true] at this
      rcases this with h3|h3
      · exact .inr ⟨i,by rw [Nat.eq_of_beq_eq_true h3]⟩
      · exact .inl (by simpa using h3)
  · simp only [Bool.and_eq_true] at h
    exact .inr ⟨by simpa using h.1,fun j' hj=> .inl (by simpa using fin h.2 j' hj)⟩
def Vp(all:Array Oper)(F6:List It):Bool:=
  NZ (F5 F6) && NZ (CM F6) && (List.range all.size).all (fun i=>(F5 F6).contains i && (CM F6).contains i) && (CM F6).all (fun i=>Nat.blt i all.size) &&
    aM all (CM F6) && U4 all (bits all.toList []) [] F6
structure LX(all:Array Oper)(F6:List It):Prop where
  av:(F5 F6).Nodup
  RY:(CM F6).Nodup
  fy:∀i,i<all.size->i∈F5 F6
  T4:∀i,i<all.size->i∈CM F6
  MK:∀i∈CM F6,i<all.size
  mN:Zh all (CM F6)
  jU:∀p it t,F6=p++it::t->it.exec=true->∀k,KZ all k it.ix->k∈CM p∨∃i,it= .fi i k
  c1:∀p c m t,F6=p++ .h c m::t->∀x∈F5 t,KZ all m x
  c2:∀p i t,F6=p++ .rv i::t->(∀x∈F5 t,KZ all i x)/\ .an i∈p
  c4:∀p i t,F6=p++ .rv i::t->(∀k,.fi k i∈p->∀x∈F5 t,KZ all k x)/\∀k,.fi k i∉t
  c5:∀p i j t,F6=p++ .fi i j::t-> .an j∈p/\KZ all j i
  c3:∀p m t,F6=p++ .h true m::t->∀i,.q i∈p->KZ all i m
theorem Xm{all:Array Oper}{bs:List Nat}:∀ {r pre:List It},U4 all bs pre r=true->∀p it t,r=p++it::t->
    (it.exec=true->∀o,all[it.ix]?=some o->∀e∈o.after,Region.binds .any e=true->VA (pre++p) it e.on=true)/\cK bs (pre++p) t it=true:=by
  intro r;induction r with
  |nil=>intro pre _ p it t e;simp at e
  | cons x r ih=>
    intro pre h p it t e;simp only [U4,Bool.and_eq_true] at h
    cases p with
    | nil=>
      simp only [List.nil_append,List.cons.injEq] at e
      obtain⟨rfl,rfl⟩:=e;rw [List.append_nil];refine⟨fun hx o ho ed l8 hb=> ?_,h.1.2⟩;have h1:=h.1.1;rw [hx,ho] at h1
      simp only [Bool.not_true,Bool.false_or,List.all_eq_true,Bool.or_eq_true,Bool.not_eq_true'] at h1
      rcases h1 ed (by simpa using l8) with h2|h2
      · rw [hb] at h2;cases h2
      · exact h2
    | cons y p=>
      simp only [List.cons_append,List.cons.injEq] at e
      obtain⟨rfl,rfl⟩:=e;have:=ih h.2 p it t rfl;simpa [List.append_assoc] using this
theorem Up {all:Array Oper}{F6:List It}(h:Vp all F6=true):LX all F6:=by
  simp only [Vp,Bool.and_eq_true] at h
  obtain⟨⟨⟨⟨⟨h1,h2⟩,h3⟩,h4⟩,h5⟩,h6⟩:=h;have hw:=fun p it t e=>by
    have:=Xm h6 p it t e;rw [List.nil_append] at this;exact this
  have hx:∀i,i<all.size->i∈F5 F6/\i∈CM F6:=fun i hi=>by
    have:=List.all_eq_true.1 h3 i (List.mem_range.2 hi);simpa using this
  have c2:∀p i t,F6=p++ .rv i::t->(∀x∈F5 t,KZ all i x)/\ .an i∈p:=fun p i t e=>by
    have:=(hw p _ t e).2;simp only [cK,Bool.and_eq_true,List.all_eq_true,List.any_eq_true] at this
    refine⟨fun x hx=>G6 (this.1.1.1 x hx),?_⟩;obtain⟨it,c7,hb⟩:=this.1.1.2;cases it with
    |an j=>simp only [Z7] at hb;rw [Nat.eq_of_beq_eq_true hb] at c7;exact c7
    |_=>cases hb
  have c4:∀p i t,F6=p++ .rv i::t->(∀k,.fi k i∈p->∀x∈F5 t,KZ all k x)/\∀k,.fi k i∉t:=fun p i t e=>by
    have:=(hw p _ t e).2;simp only [cK,Bool.and_eq_true,List.all_eq_true,List.any_eq_true] at this
    refine⟨fun k hk x hx=> ?_,fun k hk=> ?_⟩
    · have h8:=this.1.2 _ hk;simp only [fx,Bool.or_eq_true,List.all_eq_true] at h8
      rcases h8 with h8|h8
      · simp at h8
      · exact G6 (h8 x hx)
    · have h8:=this.2 _ hk;simp [eP] at h8
  have c5:∀p i j t,F6=p++ .fi i j::t-> .an j∈p/\KZ all j i:=fun p i j t e=>by
    have:=(hw p _ t e).2;simp only [cK,Bool.and_eq_true,List.any_eq_true] at this
    refine⟨?_,G6 this.2⟩;obtain⟨it,c7,hb⟩:=this.1;cases it with
    |an j=>simp only [Z7] at hb;rw [Nat.eq_of_beq_eq_true hb] at c7;exact c7
    |_=>cases hb
  refine⟨MM h1,MM h2,fun i hi=>(hx i hi).1,fun i hi=>(hx i hi).2,fun i hi=>Nat.le_of_ble_eq_true (List.all_eq_true.1 h4 i hi),W4 h5,?_,fun p c m t e x hx=> ?_,c2,c4,c5,fun p m t e i hi=> ?_⟩
  · intro p;induction p using(measure List.length).wf.induction with
    | _ p ih=>
      intro it t he hex j hj;have one:∀o,all[it.ix]?=some o->∀e∈o.after,Region.binds .any e=true->(∃i,it= .fi i e.on)∨(e.on∈CM p/\∀j',.fi e.on j'∈p->j'∈CM p∨∃i,it= .fi i j'):=fun o ho e he hb=>YQ ((hw p it t ‹_›).1 hex o ho e he hb)
      have anP:∀k,.an k∈p->KZ all j k->j∈CM p:=fun k hk ke=>by
        obtain⟨p3,p4,rfl⟩:=List.append_of_mem hk;rcases ih p3 (by simp [InvImage,WellFoundedRelation.rel]) (.an k) (p4++it::t) (by rw [he];simp) rfl j ke with h8|⟨i,h8⟩
        · rw [Di];exact List.mem_append.2 (.inl h8)
        · cases h8
      cases hj with
      | one hi he' hb eZ=>
        rcases one _ hi _ he' hb with h8|⟨h8, -⟩
        · exact .inr (eZ▸h8)
        · exact .inl (eZ▸h8)
      | more hi he' hb hk hj'=>
        rcases one _ hi _ he' hb with ⟨i,h8⟩|⟨hkp,hfl⟩
        · left
          rw [hk] at h8
          exact anP _ (c5 p i _ t (by rw [he,h8])).1 hj'
        · rw [hk] at hkp hfl
          obtain⟨p1,QT,p2,rfl,hs,rfl⟩:=Iu hkp;have key:QT.exec=true->j∈CM (p1++QT::p2)∨∃i,it= .fi i j:=fun I9=>by
            rcases ih p1 (by simp [InvImage,WellFoundedRelation.rel]) QT (p2++it::t) (by rw [he];simp) I9 j hj' with h9|⟨i,h9⟩
            · left;rw [Di];exact List.mem_append.2 (.inl h9)
            · subst h9;exact hfl j (List.mem_append.2 (.inr (List.mem_cons_self ..)))
          cases QT with
          | rv k=>
            have hc:=(c2 p1 k (p2++it::t) (by rw [he];simp)).2;exact .inl (anP k (by simp [hc]) hj')
          |_=>exact key rfl
  · have:=(hw p _ t e).2;simp only [cK,Bool.and_eq_true,List.all_eq_true] at this
    exact G6 (this.1 x hx)
  · have:=(hw p _ t e).2;simp only [cK,Bool.and_eq_true,List.all_eq_true,Bool.not_true,Bool.false_or] at this
    exact G6 (this.2 _ hi)
abbrev An:=Nat->Option ((Nat->Value)×Obj)
def HN(all:Array Oper)(i:Nat)(v:Value)(env:Env):Env:=match(all[i]?).bind (·.dst) with|some d=>(d,v)::env|none=>env
def RP(an:An)(i:Nat)(x:(Nat->Value)×Obj):An:=fun j=>if j=i then some x else an j
theorem LK{all:Array Oper}{vs:Nat->Value}{l:List Nat}{i:Nat}{env:Env}:Gc all vs (l++ [i]) env=HN all i (vs i) (Gc all vs l env):=Qa
abbrev En:=Nat->Option (Nat×TypeDesc×Value×Value)
def O6(en:En)(i:Nat)(x:Nat×TypeDesc×Value×Value):En:=fun j=>if j=i then some x else en j
def Fj(en:En)(L:Nat->Bool)(N j:Nat):List (Value×Value):=(List.range N).filterMap fun k=>match L k,en k with
  |true,some (j',_,kv,xv)=>if j'=j then some (kv,xv) else none
  |_,_=>none
def M6(dg:List (Value×Value))(ob o:Obj):Prop:=match ob with
  | .map es0 _=>∃es JH,o= .map es JH/\(es.toList.map fun e=>(e.key,e.val)).Perm (es0.toList.map (fun e=>(e.key,e.val))++dg)
  |ob=>o=ob
structure Zc(P:Program)(all:Array Oper)(env:Env)(an:An)(en:En)(i j:Nat)(dd:TypeDesc)(kv xv:Value):Prop where
  ex:∃(o:Oper) (t:TypeId) (d:Nat) (k x:Operand) (kt et:TypeId) (vf:Nat->Value),all[i]?=some o/\o.op= .insert t (.tmp d) k x/\o.dst=none/\o.guard=none/\(all[j]?).bind (·.dst)=some d/\
    (∀l,(all[l]?).bind (·.dst)=some d->l=j)/\k≠ .tmp d/\x≠ .tmp d/\ev env k=some kv/\ev env x=some xv/\P.underlying t=some (.map kt et)/\P.underlying kt=some dd/\
    (∀w,(Instr.checkKey false 10000 kt kv).run P w= .ok () w)/\an j=some (vf,.map #[] 0)/\(∀b,vf b= .map (some b))/\
    ∀l fD Xd aR,en l=some (j,fD,Xd,aR)->Instr.sameNow dd kv Xd=some false/\Instr.sameNow fD Xd kv=some false
def N9(all:Array Oper)(m:Nat):Bool:=(List.range all.size).all fun i=>Nat.beq i m ||((bits all.toList []).getD m 0).testBit i
theorem Ul{all:Array Oper}{m:Nat}(h:N9 all m=true):∀i,i<all.size->i=m∨KZ all i m:=fun i hi=>by
  have:=List.all_eq_true.1 h i (List.mem_range.2 hi);rcases Bool.or_eq_true _ _▸this with h|h
  · exact .inl (Nat.eq_of_beq_eq_true h)
  · exact .inr (G6 h)
def Zf(P:Program)(hs:List B6)(n:Nat)(o:Oper)(env:Env)(R:Value->List B6->Prop)(Z:List PanicEntry->List B6->Prop):Prop:=
  Ek o.op=true/\∀a w X,Has n env a->Sat (hs++X) w->∃w',
    (∃v own,(execOp a.eval o).run P w= .ok (.value v) w'/\Sat (own++X) w'/\R v own)∨
    (∃own,(execOp a.eval o).run P w= .ok .skip w'/\Sat (own++X) w'/\R undef own)∨
    (∃f args,(execOp a.eval o).run P w= .ok (.enter f args) w'/\Calls P f args w' fun e K9=>(∃v own,e= .returned v/\Sat (own++X) K9/\R v own)∨(∃ch own,e= .panicked ch/\Sat (own++X) K9/\Z ch own))∨
    (∃L f tmps assign body,(execOp a.eval o).run P w= .ok (.round L f tmps assign body) w'/\∀r,RoundIn (Np r) 0 P L f tmps assign body w' fun e K9=>∃v own,e= .returned v/\Sat (own++X) K9/\R v own)
theorem DS.z{P:Program}{hs:List B6}{n:Nat}{o:Oper}{env:Env}{R:Value->List B6->Prop}(h:DS P hs n o env R):Zf P hs n o env R (fun _ _=>False):=
  ⟨h.1,fun a w X ha hS=>by
    obtain⟨w',h1|h1|⟨f,args,h1,h2⟩|h1⟩:=h.2 a w X ha hS
    · exact⟨w',.inl h1⟩
    · exact⟨w',.inr (.inl h1)⟩
    · exact⟨w',.inr (.inr (.inl ⟨f,args,h1,h2.mono fun _ _ h=> .inl h⟩))⟩
    · exact⟨w',.inr (.inr (.inr h1))⟩⟩
theorem af{P:Program}{r:Option Nat}{hs X:List B6}{n:Nat}{o:Oper}{env:Env}{R:Value->List B6->Prop}{Z:List PanicEntry->List B6->Prop}(h:Zf P hs n o env R Z)
    {all:Array Oper} {Q:Exit->Act->World->Prop} {i:Nat} {K:Act->World->Prop} {a:Act} {w:World} (hi:all[i]?=some o)
    (hw:Region.wanted o (yielded all a.tmps)=true) {a':Act} (ha:Has n env a') (he:execOp a.eval o=execOp a'.eval o) (hs':Sat (hs++X) w)
    (hk:∀v own w',R v own->Sat (own++X) w'->K (a.put o.dst v) w') (hz:∀ch own w',Z ch own->Sat (own++X) w'->Q (.panic ch) a w'):wpOpIn (Np r) 0 P all Q i K a w:=by
  simp only [wpOpIn,hi,hw,if_true];refine⟨fun f _=>by simp,?_⟩;rw [Eo,semAt_plain h.1,he];obtain⟨w',⟨v,own,h1,h2,h3⟩|⟨own,h1,h2,h3⟩|⟨f,args,h1,h2⟩|⟨L,f,tmps,as,body,h1,h2⟩⟩:=h.2 a' w X ha hs'
  · rw [h1];exact hk v own w' h3 h2
  · rw [h1];exact hk undef own w' h3 h2
  · rw [h1];refine⟨fun hx=>by simp at hx,(E8 _ h2).mono ?_⟩;rintro e K9 (⟨v,own,rfl,s2,hR⟩|⟨ch,own,rfl,s2,hZ⟩)
    · exact hk v own K9 hR s2
    · exact hz ch own K9 hZ s2
  · rw [h1];refine⟨fun hx=>by simp at hx,(h2 r).mono ?_⟩;rintro e K9 ⟨v,own,rfl,s2,hR⟩;exact hk v own K9 hR s2
def HQ(P:Program)(F:B6)(n:Nat)(all:Array Oper)(CR:List B6)(K:Env->List B6->Prop)(Kz:List PanicEntry->List B6->Prop):List It->Env->List B6->An->En->Prop
  | [],env,own,_,_=>K env own
  | .q i::r,env,own,an,en=>∃o v,all[i]?=some o/\I0 P F n all own env o v/\HQ P F n all CR K Kz r (HN all i v env) own an en
  | .f i::r,env,own,an,en=>∃o v,all[i]?=some o/\I0 P emp n all [] env o v/\HQ P F n all CR K Kz r (HN all i v env) own an en
  | .r i::r,env,own,an,en=>∃o v,all[i]?=some o/\I0 P F n all CR env o v/\HQ P F n all CR K Kz r (HN all i v env) own an en
  | .an i::r,env,own,an,en=>∃o vf ob,all[i]?=some o/\Cy all env o=some true/\Kt P n o env vf ob/\HQ P F n all CR K Kz r env own (RP an i (vf,ob)) en
  | .rv i::r,env,own,an,en=>∃vf ob,an i=some (vf,ob)/\∀b Wm,M6 (Fj en (fun _=>true) all.size i) ob Wm->HQ P F n all CR K Kz r (HN all i (vf b) env) (Co b Wm::own) an en
  | .fi i j::r,env,own,an,en=>∃dd kv xv,Zc P all env an en i j dd kv xv/\HQ P F n all CR K Kz r env own an (O6 en i (j,dd,kv,xv))
  | .h c m::r,env,own,an,en=>∃o Hn Fg R Z,all[m]?=some o/\own.Perm (Hn++Fg)/\((Cy all env o=some true/\Zf P Hn n o env R Z)∨(Cy all env o=some false/\Ek o.op=true/\R undef Hn))/\
      (c=false->∀v own',R v own'->∃N,own'.Perm (Hn++N))/\(c=true->(∃Y,Fg.Perm (CR++Y))∨N9 all m=true)/\(∀v own',R v own'->HQ P F n all CR K Kz r (HN all m v env) (own'++Fg) an en)/\∀ch own',Z ch own'->Kz ch (own'++Fg)
section
variable (P:Program) (F:B6) (n:Nat) (all:Array Oper) (CR:List B6) (K:Env->List B6->Prop) (Kz:List PanicEntry->List B6->Prop) (F6:List It) (Hr:Env) (a0:Act) (ds:List Deferred)
def Kn(val:Nat->Value)(an:An)(en:En)(own:List B6)(L:Array Bool)(bf:Nat->Nat)(p:List It):It->Prop
  | .q i=>∃o Je,all[i]?=some o/\I0 P F n all Je (Gc all val (CM p) Hr) o (val i)/\(L.getD i false=false->∃Y,own.Perm (Je++Y))
  | .f i=>∃o,all[i]?=some o/\I0 P emp n all [] (Gc all val (CM p) Hr) o (val i)
  | .r i=>∃o,all[i]?=some o/\I0 P F n all CR (Gc all val (CM p) Hr) o (val i)
  | .an i=>∃o vf ob,all[i]?=some o/\Cy all (Gc all val (CM p) Hr) o=some true/\Kt P n o (Gc all val (CM p) Hr) vf ob/\an i=some (vf,ob)/\(L.getD i false=true->val i=vf (bf i))
  | .rv i=>L.getD i false=true
  | .h _ m=>L.getD m false=true
  | .fi i j=>∃dd kv xv bF,Zc P all (Gc all val (CM p) Hr) an bF i j dd kv xv/\en i=some (j,dd,kv,xv)
def Hx(cur:Nat->Obj)(bf:Nat->Nat)(pl:List Nat):List B6:=pl.map fun i=>Co (bf i) (cur i)
def Qh(val:Nat->Value)(L:Nat->Bool)(s:Nat):Option Value:=match Dy all L s all.size with|some j=>some (val j)|none=>a0.tmps[s]?
structure CI(pre post:List It)(val:Nat->Value)(own:List B6)(an:An)(en:En)(cur:Nat->Obj)(bf:Nat->Nat)(pl:List Nat)(L:Array Bool)(a:Act)(w:World):Prop where
  s1:L.size=all.size
  s2:a.tmps.size=n
  s3:a.defers=ds
  s4:∀i o,L.getD i false=true->all[i]?=some o->∀e∈o.after,Region.binds .any e=true->L.getD e.on false=true
  e:F6=pre++post
  sl:∀s,s<n->a.tmps[s]?=Qh all a0 val (fun i=>L.getD i false) s
  ch:HQ P F n all CR K Kz post (Gc all val (CM pre) Hr) own an en
  sat:Sat (F::own++Hx cur bf pl) w
  kn:∀p it t,pre=p++it::t->Kn P F n all CR Hr val an en own L bf p it
  un:∀it∈post,it.exec=true->L.getD it.ix false=false
  pr:∀i,i<all.size->L.getD i false=false->∃Y,own.Perm (CR++Y)
  pn:pl.Nodup
  pm:∀i,i∈pl↔(.an i∈pre/\L.getD i false=true/\ .rv i∈post)
  cu:∀i∈pl,∀vf ob,an i=some (vf,ob)->M6 (Fj en (fun j=>L.getD j false) all.size i) ob (cur i)
  ei:∀k x,en k=some x-> .fi k x.1∈pre
  ed:∀k l j dk kv xv dl Xd aR,en k=some (j,dk,kv,xv)->en l=some (j,dl,Xd,aR)->k≠l->Instr.sameNow dk kv Xd=some false
  rq:∀j,.rv j∈pre->∀k x,en k=some x->x.1=j->L.getD k false=true
end
section
variable {P:Program} {F:B6} {n:Nat} {all:Array Oper} {CR:List B6} {K:Env->List B6->Prop} {Kz:List PanicEntry->List B6->Prop} {F6:List It} {Hr:Env} {a0:Act} {ds:List Deferred}
theorem M6.perm{e e':List (Value×Value)}{ob o:Obj}(h:M6 e ob o)(p:e.Perm e'):M6 e' ob o:=by
  cases ob with
  | map es0 c0=>
    obtain⟨es,JH,rfl,h2⟩:=h;exact⟨es,JH,rfl,h2.trans (p.append_left _)⟩
  |_=>exact h
theorem IX{α β:Type}{f g:α->Option β}:∀ {l:List α},(∀k∈l,f k=g k)->l.filterMap f=l.filterMap g
  | [],_=>rfl
  | a::l,h=>by
    rw [List.filterMap_cons,List.filterMap_cons,h a (List.mem_cons_self ..),IX fun k hk=>h k (List.mem_cons_of_mem _ hk)]
theorem Ko{α β:Type} [DecidableEq α]{f g:α->Option β}{i:α}:∀ {l:List α},l.Nodup->i∈l->f i=none->(∀k∈l,k≠i->g k=f k)->(l.filterMap g).Perm (l.filterMap f++(g i).toList)
  | [],_,hi,_,_=>by cases hi
  | a ::l,hn,hi,hf,hg=>by
    have hn':=List.nodup_cons.1 hn;by_cases e:a=i
    · subst e;have h2:l.filterMap g=l.filterMap f:=IX fun k hk=>hg k (List.mem_cons_of_mem _ hk) fun e=>by subst e;exact hn'.1 hk
      rw [List.filterMap_cons,List.filterMap_cons,hf,h2];cases g a with
      |none=>simp
      |some b=>simpa using(List.perm_append_comm (l₁:= [b]) (l₂:=l.filterMap f))
    · have hi':i∈l:=by
        rcases List.mem_cons.1 hi with h|h
        · exact(e h.symm).elim
        · exact h
      have ih:=Ko (f:=f) (g:=g) hn'.2 hi' hf fun k hk=>hg k (List.mem_cons_of_mem _ hk)
      rw [List.filterMap_cons,List.filterMap_cons,hg a (List.mem_cons_self ..) e];cases f a with
      |none=>exact ih
      |some b=>exact ih.cons b
def HO(en:En)(L:Nat->Bool)(j k:Nat):Option (Value×Value):=match L k,en k with
  |true,some (j',_,kv,xv)=>if j'=j then some (kv,xv) else none
  |_,_=>none
theorem Hz(en:En)(L:Nat->Bool)(N j:Nat):Fj en L N j=(List.range N).filterMap (HO en L j):=rfl
theorem Ow{en:En}{L:Array Bool}{N i j:Nat}(hi:i<N)(c8:i<L.size)(hL:L.getD i false=false):
    (Fj en (fun k=>(L.setIfInBounds i true).getD k false) N j).Perm (Fj en (fun k=>L.getD k false) N j++(match en i with|some (j',_,kv,xv)=>(if j'=j then [(kv,xv)] else [])|none=> [])):=by
  have h:=Ko (f:=HO en (fun k=>L.getD k false) j) (g:=HO en (fun k=>(L.setIfInBounds i true).getD k false) j) (i:=i) List.nodup_range (List.mem_range.2 hi) (by simp only [HO,hL]) fun k _ hk=>by
    simp only [HO,E2 c8,if_neg hk]
  rw [Hz,Hz];refine h.trans (List.Perm.append_left _ ?_);have:HO en (fun k=>(L.setIfInBounds i true).getD k false) j i=(match en i with|some (j',_,kv,xv)=>(if j'=j then some (kv,xv) else none)|none=>none):=by
    simp only [HO,E2 c8,if_true];cases en i with
    |none=>rfl
    |some x=>rfl
  rw [this];cases en i with
  |none=>exact List.Perm.refl _
  | some x=>
    obtain⟨j',dd,kv,xv⟩:=x;by_cases e:j'=j <;>simp [e]
theorem LL{en en':En}{L L':Nat->Bool}{N j:Nat}(h:∀k,HO en L j k=HO en' L' j k):Fj en L N j=Fj en' L' N j:=by
  rw [Hz,Hz];exact IX fun k _=>h k
theorem UJ{en:En}{L:Nat->Bool}{N j:Nat}(h:∀k,HO en L j k=none):Fj en L N j= []:=by
  rw [Hz,List.filterMap_eq_nil_iff];exact fun k _=>h k
theorem DJ(ho:LX all F6){p t:List It}{it:It}(e:F6=p++it::t)(hx:it.exec=true):it.ix∉F5 p/\it.ix∉F5 t:=by
  have h:=ho.av;rw [e,Df] at h
  have e2:F5 (it::t)=it.ix::F5 t:=by simp [F5,hx]
  rw [e2] at h
  obtain⟨h1,h2,h3⟩:=List.nodup_append.1 h;exact⟨fun hp=>h3 _ hp _ (List.mem_cons_self ..) rfl,(List.nodup_cons.1 h2).1⟩
theorem XW(ho:LX all F6){p t:List It}(e:F6=p++t){x:Nat}(hx:x∈CM p):∃p1 it p2,p=p1++it::p2/\it.exec=true/\it.ix=x:=by
  obtain⟨p1,it,p2,rfl,hs,rfl⟩:=Iu hx;cases it with
  | rv i=>
    have hc:=(ho.c2 p1 i (p2++t) (by rw [e];simp)).2;obtain⟨p3,p4,rfl⟩:=List.append_of_mem hc;exact⟨p3,.an i,p4++ .rv i::p2,by simp,rfl,rfl⟩
  |q i=>exact⟨p1,_,p2,rfl,rfl,rfl⟩
  |f i=>exact⟨p1,_,p2,rfl,rfl,rfl⟩
  |r i=>exact⟨p1,_,p2,rfl,rfl,rfl⟩
  |an i=>cases hs
  |h c i=>exact⟨p1,_,p2,rfl,rfl,rfl⟩
  |fi i j=>exact⟨p1,_,p2,rfl,rfl,rfl⟩
theorem Md(ho:LX all F6){p t:List It}{it:It}(e:F6=p++it::t)(hx:it.exec=true):it.ix∉CM p:=fun h=>by
  obtain⟨p1,QT,p2,rfl,I9,e'⟩:=XW ho e h;exact(DJ ho e hx).1 (by rw [<-e',Df];exact List.mem_append.2 (.inr (C3 (List.mem_cons_self ..) I9)))
theorem UP(ho:LX all F6){p t:List It}(e:F6=p++t):Zh all (CM p):=by
  have:=ho.mN;rw [e,Di] at this;exact(List.pairwise_append.1 this).1
theorem Wv(ho:LX all F6){p t:List It}(e:F6=p++t):∀i∈CM p,i<all.size:=fun i hi=>ho.MK i (by rw [e,Di];exact List.mem_append.2 (.inl hi))
theorem Om(ho:LX all F6)(MZ:∀(i d:Nat),(all[i]?).bind (·.dst)=some d->d<n)(SU:Has n Hr a0){p t:List It}(e:F6=p++t){val:Nat->Value}{a:Act}(GH:a.tmps.size=n)
    (ht:∀s,s<n->a.tmps[s]?=Qh all a0 val (fun j=>(CM p).contains j) s):Has n (Gc all val (CM p) Hr) a:=by
  refine⟨GH,fun s u hu=> ?_⟩;rw [Ww _ (UP ho e) (Wv ho e)] at hu
  by_cases hs:s<n
  · rw [ht s hs];simp only [Qh];cases hl:Dy all (fun j=>(CM p).contains j) s all.size with
    |some j=>rw [hl] at hu;exact hu
    |none=>rw [hl] at hu;exact SU.get s u hu
  · exfalso;cases hl:Dy all (fun j=>(CM p).contains j) s all.size with
    |some j=>exact hs (MZ j s (JV hl).2.1)
    | none=>
      rw [hl] at hu
      have:=SU.get s u hu;rw [Array.getElem?_eq_none (by rw [SU.size];omega)] at this;cases this
theorem Tj (Jf:WW all=true)(ho:LX all F6)(MZ:∀(i d:Nat),(all[i]?).bind (·.dst)=some d->d<n)(SU:Has n Hr a0){L:Array Bool}{a:Act}{val:Nat->Value}
    (s2:a.tmps.size=n) (s4:∀i o,L.getD i false=true->all[i]?=some o->∀e∈o.after,Region.binds .any e=true->L.getD e.on false=true)
    (sl:∀s,s<n->a.tmps[s]?=Qh all a0 val (fun i=>L.getD i false) s) {p t:List It} {it:It} (e:F6=p++it::t) (hx:it.exec=true) {o:Oper} (Ik:all[it.ix]?=some o)
    (FZ:L.getD it.ix false=false) (Jw:∀j,KZ all j it.ix->L.getD j false=true):
    ∃W5,Has n (Gc all val (CM p) Hr) W5/\∀s∈o.looksAt all,(∀i j,it= .fi i j->(all[j]?).bind (·.dst)≠some s)->a.tmps[s]?=W5.tmps[s]?:=by
  have hlisted:∀j k,KZ all j k->L.getD k false=true->L.getD j false=true:=fun j k hj=>hj.listed (L:=fun j=>L.getD j false) s4
  have hsame:∀s∈JR all o,(∀i j,it= .fi i j->(all[j]?).bind (·.dst)≠some s)->Dy all (fun j=>L.getD j false) s all.size=Dy all (fun j=>(CM p).contains j) s all.size:=by
    intro s hs dP;refine FN fun j hj hw=> ?_
    by_cases ej:j=it.ix
    · rw [ej,FZ];symm;simpa using Md ho e hx
    · rcases JF Jf Ik hs hw ej with ⟨g1,g2⟩|⟨g1,g2⟩
      · rw [Jw j g2];symm;rcases ho.jU p it t e hx j g2 with g3|⟨i,g3⟩
        · simpa using g3
        · exact(dP i j g3 hw).elim
      · have Rr:L.getD j false=false:=by
          cases hy:L.getD j false with
          |false=>rfl
          |true=>have:=hlisted _ j g2 hy;rw [FZ] at this;cases this
        have fj:j∉CM p:=fun c6=>by
          obtain⟨p1,QT,p2,rfl,I9,rfl⟩:=XW ho e c6;rcases ho.jU p1 QT (p2++it::t) (by rw [e];simp) I9 _ g2 with this|⟨i,this⟩
          · exact Md ho e hx (by rw [Di];exact List.mem_append.2 (.inl this))
          ·
            subst this;have h5:=(ho.c5 p1 i it.ix (p2++it::t) (by rw [e];simp)).1;exact(DJ ho e hx).1 (by rw [Df];exact List.mem_append.2 (.inl (C3 (it:= .an it.ix) h5 rfl)))
        rw [Rr];symm;simpa using fj
  refine⟨{tmps:=Array.ofFn (n:=n) fun s=>(Qh all a0 val (fun j=>(CM p).contains j) s.val).getD undef,defers:= []},?_,?_⟩
  all_goals
    have E5:∀s,s<n->(Array.ofFn (n:=n) fun s=>(Qh all a0 val (fun j=>(CM p).contains j) s.val).getD undef)[s]?=Qh all a0 val (fun j=>(CM p).contains j) s:=by
      intro s hs;rw [Array.getElem?_eq_getElem (by simpa using hs)];simp only [Array.getElem_ofFn];simp only [Qh];cases hl:Dy all (fun j=>(CM p).contains j) s all.size with
      |some j=>rfl
      | none=>
        simp only [];rw [Array.getElem?_eq_getElem (by rw [SU.size];exact hs)];rfl
  · exact Om ho MZ SU (t:=it::t) e Ak E5
  · intro s hs dP;by_cases WE:s<n
    · rw [sl s WE];show _=(Array.ofFn (n:=n) fun s=>(Qh all a0 val (fun j=>(CM p).contains j) s.val).getD undef)[s]?;rw [E5 s WE];simp only [Qh];rw [hsame s (List.mem_append.2 (.inl hs)) dP]
    · have hge:n≤s:=Nat.not_lt.1 WE;rw [Array.getElem?_eq_none (by rw [s2];exact hge),Array.getElem?_eq_none (by simpa using hge)]
theorem OD(Jf:WW all=true){L:Array Bool}{a:Act}{val:Nat->Value}{i:Nat}{o:Oper}
    (s2:a.tmps.size=n) (s4:∀i o,L.getD i false=true->all[i]?=some o->∀e∈o.after,Region.binds .any e=true->L.getD e.on false=true)
    (sl:∀s,s<n->a.tmps[s]?=Qh all a0 val (fun i=>L.getD i false) s) (Ik:all[i]?=some o) (Ii:i<L.size) (GH:L.size=all.size) (FZ:L.getD i false=false)
    (val':Nat->Value) (u:Value) (hu:val' i=u) (DE:∀j,L.getD j false=true->val' j=val j):∀s,s<n->(a.put o.dst u).tmps[s]?=Qh all a0 val' (fun j=>(L.setIfInBounds i true).getD j false) s:=by
  have hlisted:∀j k,KZ all j k->L.getD k false=true->L.getD j false=true:=fun j k hj=>hj.listed (L:=fun j=>L.getD j false) s4
  intro s hs;by_cases hd:o.dst=some s
  · have hmem:s∈JR all o:=List.mem_append.2 (.inr (by rw [hd];simp));have hl:Dy all (fun j=>(L.setIfInBounds i true).getD j false) s all.size=some i:=by
      rw [FY (i:=i+1) Ab (L:=fun j=>(L.setIfInBounds i true).getD j false) (fun j g1 g2 g3 g4=> ?_)]
      · simp only [Dy,E2 Ii,if_true,Bool.true_and,Ik,Option.bind_some,hd];simp
      · rw [E2 Ii,if_neg Ab] at g3
        rcases JF Jf Ik hmem g4 Ab with ⟨g5,g6⟩|⟨g5,g6⟩
        · omega
        · have:=hlisted i j g6 g3;rw [FZ] at this;cases this
    simp only [Qh,hl];rw [hd,hu];simp only [Act.put];simp [s2,hs]
  · have hl:Dy all (fun j=>(L.setIfInBounds i true).getD j false) s all.size=Dy all (fun j=>L.getD j false) s all.size:=by
      refine FN fun j hj hw=> ?_
      rw [E2 Ii];by_cases e:j=i
      · subst e;rw [Ik] at hw;exact absurd hw hd
      · rw [if_neg e]
    have h7s:=sl s hs;have hput:(a.put o.dst u).tmps[s]?=a.tmps[s]?:=by
      cases WN:o.dst with
      |none=>rfl
      | some d=>
        have:d≠s:=fun e=>hd (e▸WN)
        simp only [Act.put];rw [Array.getElem?_setIfInBounds_ne this]
    rw [hput,h7s];simp only [Qh,hl];cases hlw:Dy all (fun j=>L.getD j false) s all.size with
    |none=>rfl
    |some j=>simp only [];rw [DE j (JV hlw).1]
theorem W2{val val':Nat->Value}{L:Array Bool}(h:∀j,L.getD j false=true->val' j=val j)(s:Nat):Qh all a0 val (fun i=>L.getD i false) s=Qh all a0 val' (fun i=>L.getD i false) s:=by
  simp only [Qh];cases hl:Dy all (fun j=>L.getD j false) s all.size with
  |none=>rfl
  |some j=>simp only [];rw [h j (JV hl).1]
theorem Kn.congr{val val':Nat->Value}{an an':An}{en en':En}{own own':List B6}{L:Array Bool}{bf:Nat->Nat}{p:List It}{it:It}(h:Kn P F n all CR Hr val an en own L bf p it)
    (hv:∀j∈CM p,val' j=val j) (hi:val' it.ix=val it.ix) (ha:an' it.ix=an it.ix) (ak:∀i j,it= .fi i j->an' j=an j/\en' i=en i) (ho:∃N,own'.Perm (own++N)):Kn P F n all CR Hr val' an' en' own' L bf p it:=by
  have he:Gc all val' (CM p) Hr=Gc all val (CM p) Hr:=Fi hv;cases it with
  | q i=>
    obtain⟨o,Je,h1,h2,h3⟩:=h;refine⟨o,Je,h1,by rw [he,show val' i=val i from hi];exact h2,fun hl=> ?_⟩;obtain⟨Y,hY⟩:=h3 hl;obtain⟨N,hN⟩:=ho;exact⟨Y++N,by rw [<-List.append_assoc];exact hN.trans (hY.append_right N)⟩
  | f i=>
    obtain⟨o,h1,h2⟩:=h;exact⟨o,h1,by rw [he,show val' i=val i from hi];exact h2⟩
  | r i=>
    obtain⟨o,h1,h2⟩:=h;exact⟨o,h1,by rw [he,show val' i=val i from hi];exact h2⟩
  | an i=>
    obtain⟨o,vf,ob,h1,h2,h3,h4,h5⟩:=h;exact⟨o,vf,ob,h1,by rw [he];exact h2,by rw [he];exact h3,(show an' i=an i from ha).trans h4,fun hl=>(show val' i=val i from hi).trans (h5 hl)⟩
  |rv i=>exact h
  |h c m=>exact h
  | fi i j=>
    obtain⟨dd,kv,xv,bF,h1,h2⟩:=h;obtain⟨a1,a2⟩:=ak i j rfl;obtain⟨o,t,d,k,x,kt,et,vf,g1,g2,g3,g4,g5,g6,g7,g8,g9,g10,g11,g12,g13,g14,g15,g16⟩:=h1.ex;exact⟨dd,kv,xv,bF,⟨o,t,d,k,x,kt,et,vf,g1,g2,g3,g4,g5,g6,g7,g8,by rw [he];exact g9,by rw [he];exact g10,g11,g12,g13,a1.trans g14,g15,g16⟩,a2.trans h2⟩
theorem HD{pre p t:List It}{x it:It}(h:pre++ [x]=p++it::t):(∃t',pre=p++it::t')∨(p=pre/\it=x/\t= []):=by
  rcases List.eq_nil_or_concat t with rfl|⟨t',y,rfl⟩
  · obtain⟨h1,h2⟩:=List.append_inj' h rfl;simp only [List.cons.injEq,and_true] at h2
    exact .inr ⟨h1.symm,h2.symm,rfl⟩
  · left
    rw [List.concat_eq_append,<-List.cons_append,<-List.append_assoc] at h
    exact⟨t',(List.append_inj' h rfl).1⟩
def Y9(en:En)(L:Array Bool):List It->Prop
  | []=>True
  | .h _ _::_=>True
  | .rv i::_=>L.getD i false=false∨∃k x,en k=some x/\x.1=i/\L.getD k false=false
  |_=>False
theorem PI{cur cur':Nat->Obj}{bf bf':Nat->Nat}{pl:List Nat}(h:∀i∈pl,cur' i=cur i/\bf' i=bf i):Hx cur' bf' pl=Hx cur bf pl:=by
  unfold Hx;refine List.map_congr_left fun i hi=> ?_
  rw [(h i hi).1,(h i hi).2]
theorem advance(ho:LX all F6){L:Array Bool}{a:Act}{w:World}{bf:Nat->Nat}{cur:Nat->Obj}:∀ {post pre:List It} {val:Nat->Value} {own:List B6} {an:An} {en:En} {pl:List Nat},CI P F n all CR K Kz F6 Hr a0 ds pre post val own an en cur bf pl L a w->
    ∃pre' post' val' own' an' en' pl',CI P F n all CR K Kz F6 Hr a0 ds pre' post' val' own' an' en' cur bf pl' L a w/\Y9 en' L post':=by
  intro post;induction post with
  |nil=>intro pre val own an en pl h;exact⟨_,_,_,_,_,_,_,h,trivial⟩
  | cons it r ih=>
    intro pre val own an en pl h;have hu:=h.un it (List.mem_cons_self ..);have hun:∀x∈r,x.exec=true->L.getD x.ix false=false:=fun x hx=>h.un x (List.mem_cons_of_mem _ hx)
    have he:F6=(pre++ [it])++r:=by rw [h.e];simp
    have hi:it.O3=true->it.ix∉CM pre:=fun hs hm=>by
      have:=ho.RY;rw [h.e,Di] at this
      refine(List.nodup_append.1 this).2.2 _ hm it.ix ?_ rfl;simp [CM,hs]
    have quiet:∀(i:Nat) (o:Oper) (v:Value) (hx:it.exec=true) (Jy:it.ix=i) (hs:it.O3=true),(∀i,it≠ .rv i)->(∀i,it≠ .an i)->HQ P F n all CR K Kz r (HN all i v (Gc all val (CM pre) Hr)) own an en->
        (∀val':Nat->Value,val' i=v->(∀j,j≠i->val' j=val j)->Kn P F n all CR Hr val' an en own L bf pre it)->
        ∃pre' post' val' own' an' en' pl',CI P F n all CR K Kz F6 Hr a0 ds pre' post' val' own' an' en' cur bf pl' L a w/\Y9 en' L post':=by
      intro i o v hx Jy hs j4 ah Xh Yz;have FZ:L.getD i false=false:=Jy▸hu hx;have hi':i∉CM pre:=Jy▸hi hs
      let val':Nat->Value:=fun j=>if j=i then v else val j
      have v1:val' i=v:=by simp [val']
      have v2:∀j,j≠i->val' j=val j:=fun j hj=>by simp only [val'];rw [if_neg hj]
      have vL:∀j,L.getD j false=true->val' j=val j:=fun j hj=>v2 j fun e=>by rw [e,FZ] at hj;cases hj
      have vp:∀j∈CM pre,val' j=val j:=fun j hj=>v2 j fun e=>hi' (e▸hj)
      refine ih (pre:=pre++ [it]) (val:=val') (own:=own) (an:=an) (en:=en) (pl:=pl) ⟨h.s1,h.s2,h.s3,h.s4,he,fun s hs=> ?_,?_,h.sat,fun p jt t hp=> ?_,hun,h.pr,h.pn,fun j=> ?_,h.cu,fun k x hk=>List.mem_append.2 (.inl (h.ei k x hk)),h.ed,fun j hj=>h.rq j ((List.mem_append.1 hj).resolve_right fun e=>j4 j (List.mem_singleton.1 e).symm)⟩
      · rw [h.sl s hs,W2 vL]
      · have e1:CM (pre++ [it])=CM pre++ [i]:=by rw [Di];simp [CM,hs,Jy]
        rw [e1,LK,v1,Fi vp];exact Xh
      · rcases HD hp with ⟨t',rfl⟩|⟨rfl,rfl, -⟩
        · refine(h.kn p jt t' rfl).congr (fun j hj=>vp j (by rw [Di];exact List.mem_append.2 (.inl hj))) (v2 _ fun e=> ?_) rfl (fun _ _ _=>⟨rfl,rfl⟩) ⟨[],by simp⟩;by_cases hjx:jt.exec=true
          · refine(DJ ho (p:=p++jt::t') (t:=r) (it:=it) (by rw [h.e]) hx).1 ?_;rw [Jy,<-e];exact C3 Ak hjx
          · cases jt with
            |rv k=>exact hi' (by rw [<-e];exact EZ (it:= .rv k) Ak rfl)
            |_=>exact absurd rfl hjx
        · exact Yz val' v1 v2
      · rw [h.pm j];refine⟨fun⟨g1,g2,g3⟩=>⟨List.mem_append.2 (.inl g1),g2,?_⟩,fun⟨g1,g2,g3⟩=>⟨?_,g2,List.mem_cons_of_mem _ g3⟩⟩
        · rcases List.mem_cons.1 g3 with g3|g3
          · exact absurd g3.symm (j4 j)
          · exact g3
        · rcases List.mem_append.1 g1 with g1|g1
          · exact g1
          · exact absurd (List.mem_singleton.1 g1).symm (ah j)
    cases it with
    | q i=>
      obtain⟨o,v,h1,h2,h3⟩:=h.ch;refine quiet i o v rfl rfl rfl (fun _ e=>by cases e) (fun _ e=>by cases e) h3 fun val' v1 v2=>⟨o,own,h1,?_,fun _=>⟨[],by simp⟩⟩
      rw [v1,Fi fun j hj=>v2 j fun e=>hi rfl (e▸hj)];exact h2
    | f i=>
      obtain⟨o,v,h1,h2,h3⟩:=h.ch;refine quiet i o v rfl rfl rfl (fun _ e=>by cases e) (fun _ e=>by cases e) h3 fun val' v1 v2=>⟨o,h1,?_⟩
      rw [v1,Fi fun j hj=>v2 j fun e=>hi rfl (e▸hj)];exact h2
    | r i=>
      obtain⟨o,v,h1,h2,h3⟩:=h.ch;refine quiet i o v rfl rfl rfl (fun _ e=>by cases e) (fun _ e=>by cases e) h3 fun val' v1 v2=>⟨o,h1,?_⟩
      rw [v1,Fi fun j hj=>v2 j fun e=>hi rfl (e▸hj)];exact h2
    | an i=>
      obtain⟨o,vf,ob,h1,h2,h3,h4⟩:=h.ch;have FZ:L.getD i false=false:=hu rfl;have ha:∀j,j≠i->RP an i (vf,ob) j=an j:=fun j hj=>by simp only [RP];rw [if_neg hj]
      have OW:∀j∈pl,j≠i:=fun j hj e=>by have:=((h.pm j).1 hj).2.1;rw [e,FZ] at this;cases this
      refine ih (pre:=pre++ [.an i]) (val:=val) (own:=own) (an:=RP an i (vf,ob)) (en:=en) (pl:=pl) ⟨h.s1,h.s2,h.s3,h.s4,he,h.sl,?_,h.sat,fun p jt t hp=> ?_,hun,h.pr,h.pn,fun j=> ?_,fun j hj Zu X4 Rs=>h.cu j hj Zu X4 (by rw [ha j (OW j hj)] at Rs;exact Rs),fun k x hk=>List.mem_append.2 (.inl (h.ei k x hk)),h.ed,fun j hj=>h.rq j ((List.mem_append.1 hj).resolve_right fun e=>by cases List.mem_singleton.1 e)⟩
      · have e1:CM (pre++ [.an i])=CM pre:=by rw [Di];simp [CM,It.O3]
        rw [e1];exact h4
      · rcases HD hp with ⟨t',rfl⟩|⟨rfl,rfl, -⟩
        · have ak:∀i2 j2,jt= .fi i2 j2->RP an i (vf,ob) j2=an j2/\en i2=en i2:=fun i2 j2 e2=>by
            subst e2;refine⟨ha j2 fun e3=> ?_,rfl⟩;subst e3;have h5:=(ho.c5 p i2 j2 (t'++ .an j2::r) (by rw [h.e];simp)).1;exact(DJ ho (p:=p++ .fi i2 j2::t') (t:=r) (it:= .an j2) (by rw [h.e]) rfl).1 (by rw [Df];exact List.mem_append.2 (.inl (C3 (it:= .an j2) h5 rfl)))
          by_cases ej:jt.ix=i
          · by_cases hjx:jt.exec=true
            · exfalso;refine(DJ ho (p:=p++jt::t') (t:=r) (it:= .an i) (by rw [h.e]) rfl).1 ?_;rw [show(It.an i).ix=i from rfl,<-ej];exact C3 Ak hjx
            · cases jt with
              |rv k=>exact h.kn p (.rv k) t' rfl
              |_=>exact absurd rfl hjx
          · exact(h.kn p jt t' rfl).congr (fun _ _=>rfl) rfl (ha _ ej) ak ⟨[],by simp⟩
        · exact⟨o,vf,ob,h1,h2,h3,by simp [RP],fun hl=>by rw [FZ] at hl;cases hl⟩
      · rw [h.pm j];refine⟨fun⟨g1,g2,g3⟩=>⟨List.mem_append.2 (.inl g1),g2,?_⟩,fun⟨g1,g2,g3⟩=>⟨?_,g2,List.mem_cons_of_mem _ g3⟩⟩
        · rcases List.mem_cons.1 g3 with g3|g3
          · cases g3
          · exact g3
        · rcases List.mem_append.1 g1 with g1|g1
          · exact g1
          · have:=List.mem_singleton.1 g1;cases this;rw [FZ] at g2;cases g2
    | fi i j=>
      obtain⟨dd,kv,xv,h1,h2⟩:=h.ch;have FZ:L.getD i false=false:=hu rfl;have hni:i∉F5 pre:=(DJ ho h.e rfl).1;have bu:en i=none:=by
        cases e:en i with
        |none=>rfl
        |some x=>exact(hni (C3 (it:= .fi i x.1) (h.ei i x e) rfl)).elim
      have e2:∀k,k≠i->O6 en i (j,dd,kv,xv) k=en k:=fun k hk=>by simp only [O6];rw [if_neg hk]
      have e3:O6 en i (j,dd,kv,xv) i=some (j,dd,kv,xv):=by simp [O6]
      have MZ:(all[i]?).bind (·.dst)=none:=by
        obtain⟨o,t,d,k,x,kt,et,vf,g1,g2,g3, -⟩:=h1.ex;rw [g1];exact g3
      have henv:∀l:List Nat,Gc all val (l++ [i]) Hr=Gc all val l Hr:=fun l=>by rw [LK];simp only [HN,MZ]
      obtain⟨o1,t1,d1,k1,x1,ny,nL,mX,q1,q2,q3,q4,q5,q6,q7,q8,q9,np,nk,ni,nh,ng,nf,jR⟩:=h1.ex;have OW:∀l∈pl,Fj (O6 en i (j,dd,kv,xv)) (fun k=>L.getD k false) all.size l=Fj en (fun k=>L.getD k false) all.size l:=fun l _=>LL fun k=>by
        by_cases ek:k=i
        · subst ek;simp only [HO,FZ]
        · simp only [HO,e2 k ek]
      refine ih (pre:=pre++ [.fi i j]) (val:=val) (own:=own) (an:=an) (en:=O6 en i (j,dd,kv,xv)) (pl:=pl) ⟨h.s1,h.s2,h.s3,h.s4,he,h.sl,?_,h.sat,fun p jt t hp=> ?_,hun,h.pr,h.pn,fun l=> ?_,fun l hl vf ob ha=>by rw [OW l hl];exact h.cu l hl vf ob ha,fun k x hk=> ?_,fun k l j' dk jX jl dl jW jk hk hl LC=> ?_,fun l hl k x hk hx=> ?_⟩
      · have e1:CM (pre++ [.fi i j])=CM pre++ [i]:=by rw [Di];rfl
        rw [e1,henv];exact h2
      · rcases HD hp with ⟨t',rfl⟩|⟨rfl,rfl, -⟩
        · refine(h.kn p jt t' rfl).congr (fun _ _=>rfl) rfl rfl (fun i2 j2 e4=>⟨rfl,e2 i2 fun e5=> ?_⟩) ⟨[],by simp⟩;subst e4;subst e5;exact hni (C3 (it:= .fi i2 j2) Ak rfl)
        · exact⟨dd,kv,xv,en,h1,e3⟩
      · rw [h.pm l];refine⟨fun⟨g1,g2,g3⟩=>⟨List.mem_append.2 (.inl g1),g2,?_⟩,fun⟨g1,g2,g3⟩=>⟨?_,g2,List.mem_cons_of_mem _ g3⟩⟩
        · rcases List.mem_cons.1 g3 with g3|g3
          · cases g3
          · exact g3
        · rcases List.mem_append.1 g1 with g1|g1
          · exact g1
          · cases List.mem_singleton.1 g1
      · by_cases ek:k=i
        · subst ek;rw [e3] at hk;cases hk;simp
        · rw [e2 k ek] at hk;exact List.mem_append.2 (.inl (h.ei k x hk))
      · by_cases ek:k=i
        · subst ek;rw [e3] at hk;cases hk
          rw [e2 l (Ne.symm LC)] at hl
          exact(jR l dl jW jk hl).1
        · rw [e2 k ek] at hk
          by_cases el:l=i
          · subst el;rw [e3] at hl;cases hl
            exact(jR k dk jX jl hk).2
          · rw [e2 l el] at hl
            exact h.ed k l j' dk jX jl dl jW jk hk hl LC
      · have hl': .rv l∈pre:=(List.mem_append.1 hl).resolve_right fun e=>by cases List.mem_singleton.1 e
        by_cases ek:k=i
        · subst ek;rw [e3] at hk;cases hk
          obtain⟨p5,p6,cW⟩:=List.append_of_mem hl';have I9:j=l:=hx;subst I9;exact((ho.c4 p5 j (p6++ .fi k j::r) (by rw [h.e,cW];simp)).2 k Ak).elim
        · rw [e2 k ek] at hk;exact h.rq l hl' k x hk hx
    | rv i=>
      by_cases hW:L.getD i false=true/\∀k x,en k=some x->x.1=i->L.getD k false=true
      · obtain⟨hL,hW⟩:=hW;obtain⟨vf,ob,h1,h2⟩:=h.ch;have hc:=ho.c2 pre i r h.e;obtain⟨p3,p4,iA⟩:=List.append_of_mem hc.2;obtain⟨o,mY,Wm,k1,k2,k3,k4,k5⟩:=h.kn p3 (.an i) p4 iA;rw [h1] at k4;cases k4
        have hpi:i∈pl:=(h.pm i).2 ⟨hc.2,hL,List.mem_cons_self ..⟩;have hper:(Hx cur bf pl).Perm (Co (bf i) (cur i)::Hx cur bf (pl.erase i)):=by
          have:=(List.perm_cons_erase hpi).map (fun i=>Co (bf i) (cur i));simp only [List.map_cons] at this
          exact this
        have Ei:M6 (Fj en (fun _=>true) all.size i) ob (cur i):=by
          have:=h.cu i hpi vf ob h1;rw [LL (L':=fun _=>true) (en':=en)] at this
          · exact this
          · intro k;simp only [HO];cases e:en k with
            |none=>cases L.getD k false <;>rfl
            | some x=>
              by_cases ex:x.1=i
              · rw [hW k x e ex]
              · obtain⟨j',dd,kv,xv⟩:=x;have:¬j'=i:=ex;cases L.getD k false <;>simp [this]
        refine ih (pre:=pre++ [.rv i]) (val:=val) (own:=Co (bf i) (cur i)::own) (an:=an) (en:=en) (pl:=pl.erase i) ⟨h.s1,h.s2,h.s3,h.s4,he,h.sl,?_,?_,fun p jt t hp=> ?_,hun,(fun k hk Uz=>by obtain⟨Y,hY⟩:=h.pr k hk Uz;exact⟨Co (bf i) (cur i)::Y,(hY.cons _).trans (List.perm_middle (a:=Co (bf i) (cur i)) (l₁:=CR) (l₂:=Y)).symm⟩),h.pn.erase _,fun j=> ?_,fun j hj=>h.cu j (List.mem_of_mem_erase hj),fun k x hk=>List.mem_append.2 (.inl (h.ei k x hk)),h.ed,fun j hj k x hk hx=>by
          rcases List.mem_append.1 hj with hj|hj
          · exact h.rq j hj k x hk hx
          · cases List.mem_singleton.1 hj;exact hW k x hk hx⟩
        · have e1:CM (pre++ [.rv i])=CM pre++ [i]:=by rw [Di];rfl
          rw [e1,LK,k5 hL];exact h2 (bf i) _ Ei
        · refine h.sat.perm ?_;have:=(hper.append_left (F::own)).trans (List.perm_middle (a:=Co (bf i) (cur i)) (l₁:=F::own) (l₂:=Hx cur bf (pl.erase i)));refine this.trans ?_;simpa using List.Perm.swap F (Co (bf i) (cur i)) (own++Hx cur bf (pl.erase i))
        · rcases HD hp with ⟨t',rfl⟩|⟨rfl,rfl, -⟩
          · exact(h.kn p jt t' rfl).congr (fun _ _=>rfl) rfl rfl (fun _ _ _=>⟨rfl,rfl⟩) ⟨[Co (bf i) (cur i)],by simpa using(List.perm_append_comm (l₁:= [Co (bf i) (cur i)]) (l₂:=own))⟩
          · exact hL
        · rw [List.Nodup.mem_erase_iff h.pn,h.pm j];constructor
          · rintro⟨g0,g1,g2,g3⟩;refine⟨List.mem_append.2 (.inl g1),g2,?_⟩;rcases List.mem_cons.1 g3 with g3|g3
            · cases g3;exact absurd rfl g0
            · exact g3
          · rintro⟨g1,g2,g3⟩;refine⟨fun e=> ?_,?_,g2,List.mem_cons_of_mem _ g3⟩
            · subst e;have:=ho.RY;rw [he,Di] at this
              refine(List.nodup_append.1 this).2.2 j ?_ j (EZ (it:= .rv j) g3 rfl) rfl;exact EZ (it:= .rv j) Ak rfl
            · rcases List.mem_append.1 g1 with g1|g1
              · exact g1
              · cases List.mem_singleton.1 g1
      · refine⟨_,_,_,_,_,_,_,h,?_⟩;show L.getD i false=false∨_;cases hL:L.getD i false with
        |false=>exact .inl rfl
        | true=>
          right
          refine Classical.byContradiction fun dQ=>hW ⟨hL,fun k x hk hx=> ?_⟩
          cases hLk:L.getD k false with
          |true=>rfl
          |false=>exact(dQ ⟨k,x,hk,hx,hLk⟩).elim
    |h c m=>exact⟨_,_,_,_,_,_,_,h,trivial⟩
end
section
theorem Tp{all:Array Oper}(h:WW all=true){L:Array Bool}(GH:L.size=all.size)(hr:Region.ready .any all L= []):∀i,i<all.size->L.getD i false=true:=by
  intro i;induction i using Nat.strongRecOn with
  | _ i ih=>
    intro hi;cases hL:L.getD i false with
    |true=>rfl
    | false=>
      exfalso;have ho:all[i]?=some all[i]:=Array.getElem?_eq_getElem hi;have:i∈Region.ready .any all L:=by
        unfold Region.ready;rw [List.mem_filter];refine⟨List.mem_range.2 hi,?_⟩;have hLt:L.getD i true=false:=by
          have Em:i<L.size:=by omega
          simp only [Array.getD,Em,dif_pos] at hL ⊢;exact hL
        simp only [hLt,Bool.not_false,Bool.true_and,ho,Option.map_some,Option.getD_some];rw [Array.all_eq_true'];intro e he;cases hb:Region.binds .any e with
        |false=>rfl
        | true=>
          have Em:e.on<i:=az h ho he hb;simpa using ih e.on Em Ab
      rw [hr] at this;cases this
theorem Uk{all:Array Oper}{L:Nat->Bool}{s j:Nat}:∀ {m:Nat},j<m->L j=true->(all[j]?).bind (·.dst)=some s->∃k,Dy all L s m=some k:=by
  intro m;induction m with
  |zero=>intro h;omega
  | succ m ih=>
    intro hj hL hd;simp only [Dy];by_cases e:j=m
    · subst e;rw [hL,hd];simp
    · split
      · exact⟨m,rfl⟩
      · exact ih Ab hL hd
theorem LJ{d:TypeDesc}{k:Value}:∀ {l:List MapEntry} {i:Nat},(∀e∈l,Instr.sameNow d k e.key=some false)->Instr.findNow d k l i=some none
  | [],i,_=>rfl
  | e::l,i,h=>by
    simp only [Instr.findNow,h e (List.mem_cons_self ..)];exact LJ fun e' he=>h e' (List.mem_cons_of_mem _ he)
theorem VY {P : Program}{r:Option Nat}{F:B6}{n:Nat}{Q:C4}{env:Env}{own:List B6}{ds:List Deferred}{id:Nat}{ops:Array Oper}{F6:List It}(CR:List B6)(lV:∃Y,own.Perm (CR++Y))
    (Jf:WW ops=true) (lX:P.follows .mixedOrders=true) (WM:Vp ops F6=true) (MZ:∀(i d:Nat),(ops[i]?).bind (·.dst)=some d->d<n)
    (h:HQ P F n ops CR (fun env own=>Q .normal env own ds) (fun ch own=>Q (.panic ch) [] own ds) F6 env own (fun _=>none) (fun _=>none)):Db P r F n (.region id ops true) Q env own ds:=by
  intro a0 w0 SU ai Xe;refine wpIn_region_draw fun t=> ?_
  obtain⟨md,t',Yq⟩:∃md t',Region.schedule (P.follows .mixedOrders) ops t=Region.linearise md ops t'/\md= .any:=⟨.any,t,by unfold Region.schedule;rw [lX];rfl,rfl⟩;obtain⟨Yq,iG⟩:=Yq;rw [Yq];have ho:=Up WM
  let Inv:Array Bool->Act->World->Prop:=fun L a w=>∃pre post val own an en cur bf pl,CI P F n ops CR (fun env own=>Q .normal env own ds) (fun ch own=>Q (.panic ch) [] own ds) F6 env a0 ds pre post val own an en cur bf pl L a w/\Y9 en L post
  have hend : ∀L a w,Inv L a w->(∀i,i<ops.size->L.getD i false=true)->GR F n Q .normal a w:=by
    rintro L a w ⟨pre,post,val,own,an,en,cur,bf,pl,h,FB⟩ Et;have hpost:post= []:=by
      cases post with
      |nil=>rfl
      | cons it r=>
        exfalso;have Em:it.exec=true->False:=fun hx=>by
          have h1:=h.un it (List.mem_cons_self ..) hx;have hs:it.O3=true∨it.O3=false:=by cases it.O3 <;>simp
          have:it.ix<ops.size:=by
            have hm:it.ix∈F5 F6:=by rw [h.e];exact C3 Ak hx
            cases it with
            | an i=>
              by_cases hb:i<ops.size
              · exact hb
              · exfalso;cases FB
            |q i=>exact ho.MK i (by rw [h.e];exact EZ (it:= .q i) Ak rfl)
            |f i=>exact ho.MK i (by rw [h.e];exact EZ (it:= .f i) Ak rfl)
            |r i=>exact ho.MK i (by rw [h.e];exact EZ (it:= .r i) Ak rfl)
            |rv i=>cases hx
            |h c i=>exact ho.MK i (by rw [h.e];exact EZ (it:= .h c i) Ak rfl)
            |fi i j=>exact ho.MK i (by rw [h.e];exact EZ (it:= .fi i j) Ak rfl)
          rw [Et _ this] at h1;cases h1
        cases it with
        | rv i=>
          have:i<ops.size:=ho.MK i (by rw [h.e];exact EZ (it:= .rv i) Ak rfl);have Of:L.getD i false=false∨∃k x,en k=some x/\x.1=i/\L.getD k false=false:=FB;rcases Of with Of|⟨k,x,hk, -,Of⟩
          · rw [Et _ this] at Of;cases Of
          · have Em:k<ops.size:=ho.MK k (by rw [h.e];exact EZ (it:= .fi k x.1) (List.mem_append.2 (.inl (h.ei k x hk))) rfl);rw [Et _ Em] at Of;cases Of
        |_=>exact Em rfl
    subst hpost;have ae:F6=pre:=by rw [h.e,List.append_nil]
    have OW:pl= []:=by
      cases pl with
      |nil=>rfl
      |cons i l=>have:=((h.pm i).1 (List.mem_cons_self ..)).2.2;cases this
    have Sw:=h.sat;rw [OW] at Sw
    refine⟨by simp,_,_,Om ho MZ SU (p:=F6) (t:= []) (val:=val) Ak h.s2 (fun s hs=> ?_),by simpa [Hx] using Sw,?_⟩
    · rw [h.sl s hs];simp only [Qh];rw [FN (L:=fun i=>L.getD i false) (L':=fun j=>(CM F6).contains j) fun j hj _=>by rw [Et j hj];simpa using ho.T4 j hj]
    · rw [h.s3,ae];exact h.ch
  have key : ∀ fuel L a w,Inv L a w->fuel+I2 L ops.size=ops.size->wpAnyIn (Np r) 0 P md ops (GR F n Q) fuel L a w:=by
    intro fuel;induction fuel with
    | zero=>
      intro L a w hI hf;have Et:=Th ops.size (by omega:I2 L ops.size=ops.size);refine⟨?_,hend L a w hI Et⟩;obtain⟨pre,post,val,own,an,en,cur,bf,pl,h,FB⟩:=hI;unfold Region.ready;rw [List.filter_eq_nil_iff];intro i hi;have hi':=List.mem_range.1 hi;have hL:=Et i hi';have hLt:L.getD i true=true:=by
        have Em:i<L.size:=by rw [h.s1];exact hi'
        simp only [Array.getD,Em,dif_pos] at hL ⊢;exact hL
      simp [hLt]
    | succ fuel ih=>
      intro L a w hI hf;refine⟨fun hr=>hend L a w hI (by obtain⟨pre,post,val,own,an,en,cur,bf,pl,h,FB⟩:=hI;exact Tp Jf h.s1 (iG▸hr)),fun i hi=> ?_⟩;obtain⟨pre,post,val,own,an,en,cur,bf,pl,h,FB⟩:=hI;unfold Region.ready at hi
      rw [List.mem_filter] at hi
      obtain⟨Pn,TC⟩:=hi;have Pn:=List.mem_range.1 Pn;have Ii:i<L.size:=by rw [h.s1];exact Pn
      have Ik:ops[i]?=some ops[i]:=Array.getElem?_eq_getElem Pn;simp only [Ik,Option.map_some,Option.getD_some,Bool.and_eq_true,Bool.not_eq_true',Array.all_eq_true'] at TC
      obtain⟨fa,P1⟩:=TC;have FZ:L.getD i false=false:=by simp only [Array.getD,Ii,dif_pos] at fa ⊢;exact fa
      have hrd':∀e∈ops[i].after,Region.binds .any e=true->L.getD e.on false=true:=fun e he hb=>by
        have:=P1 e he;rw [Qg hb] at this;simpa using this
      have Jw:∀j,KZ ops j i->L.getD j false=true:=fun j hj=>hj.ready (L:=fun j=>L.getD j false) h.s4 Ik hrd'
      have hdown:∀j o,(L.setIfInBounds i true).getD j false=true->ops[j]?=some o->∀e∈o.after,Region.binds .any e=true->(L.setIfInBounds i true).getD e.on false=true:=by
        intro j o hj ho e he hb;rw [E2 Ii] at hj ⊢
        by_cases e':e.on=i
        · rw [if_pos e']
        · rw [if_neg e'];by_cases ej:j=i
          · subst ej;rw [Ik] at ho;cases ho;exact hrd' e he hb
          · rw [if_neg ej] at hj;exact h.s4 j o hj ho e he hb
      have hcnt:fuel+I2 (L.setIfInBounds i true) ops.size=ops.size:=by rw [I1 Ii FZ,if_pos Pn];omega
      have hsz2:∀u,(a.put (ops[i]).dst u).tmps.size=n:=fun u=>by cases (ops[i]).dst <;>simp [Act.put,h.s2]
      have hdf2:∀u,(a.put (ops[i]).dst u).defers=ds:=fun u=>by cases (ops[i]).dst <;>simp [Act.put,h.s3]
      have hLo:∀j,j≠i->(L.setIfInBounds i true).getD j false=L.getD j false:=fun j hj=>by rw [E2 Ii,if_neg hj]
      have hLi:(L.setIfInBounds i true).getD i false=true:=by rw [E2 Ii,if_pos rfl]
      have hold:∀k,(L.setIfInBounds i true).getD k false=false->L.getD k false=false:=fun k hk=>by
        by_cases e:k=i
        · rw [e,hLi] at hk;cases hk
        · rwa [hLo k e] at hk
      have fin:∀ {pre' post' val' own' an' en' cur' bf' pl' a' w'},CI P F n ops CR (fun env own=>Q .normal env own ds) (fun ch own=>Q (.panic ch) [] own ds) F6 env a0 ds pre' post' val' own' an' en' cur' bf' pl' (L.setIfInBounds i true) a' w'->wpAnyIn (Np r) 0 P md ops (GR F n Q) fuel (L.setIfInBounds i true) a' w':=fun hc=>by
        obtain⟨pre',post',val',own',an',en',pl',YC,Of⟩:=advance ho hc;exact ih _ _ _ ⟨pre',post',val',own',an',en',_,_,pl',YC,Of⟩ hcnt
      have hrq:∀j,.rv j∈pre->∀k x,en k=some x->x.1=j->(L.setIfInBounds i true).getD k false=true:=fun j hj k x hk hx=>by
        by_cases ek:k=i
        · subst ek;exact hLi
        · rw [hLo k ek];exact h.rq j hj k x hk hx
      have cu2:en i=none->∀l∈pl,∀vf ob,an l=some (vf,ob)->M6 (Fj en (fun k=>(L.setIfInBounds i true).getD k false) ops.size l) ob (cur l):=fun bu l hl vf ob ha=>by
        refine(h.cu l hl vf ob ha).perm ?_;have:=Ow (en:=en) (j:=l) Pn Ii FZ;rw [bu,List.append_nil] at this
        exact this.symm
      have hmem:=ho.fy i Pn;rw [h.e,Df] at hmem
      rcases List.mem_append.1 hmem with hmem|hmem
      · obtain ⟨p,it,t2,hp,hx,Jy⟩:=YN hmem;have hsplit:F6=p++it::(t2++post):=by rw [h.e,hp];simp
        have hio':ops[it.ix]?=some ops[i]:=by rw [Jy];exact Ik
        obtain⟨W5,LF,Gn⟩:=Tj Jf ho MZ SU h.s2 h.s4 h.sl hsplit hx hio' (by rw [Jy];exact FZ) (by rw [Jy];exact Jw);have Yz:=h.kn p it t2 hp;have bu:(∀i' j',it≠ .fi i' j')->en i=none:=fun cZ=>by
          cases e:en i with
          |none=>rfl
          | some x=>
            exfalso;have Eh:=h.ei i x e;have q1:=DJ ho hsplit hx;rw [hp] at Eh
            rcases List.mem_append.1 Eh with Eh|Eh
            · exact q1.1 (by rw [Jy];exact C3 (it:= .fi i x.1) Eh rfl)
            · rcases List.mem_cons.1 Eh with Eh|Eh
              · exact cZ _ _ Eh.symm
              · exact q1.2 (by rw [Df,Jy];exact List.mem_append.2 (.inl (C3 (it:= .fi i x.1) Eh rfl)))
        have next :∀w' LN,val i=val i->Sat (F::own++Hx LN bf pl) w'->(∀j,it≠ .an j)->(∀l∈pl,∀vf ob,an l=some (vf,ob)->M6 (Fj en (fun k=>(L.setIfInBounds i true).getD k false) ops.size l) ob (LN l))->wpAnyIn (Np r) 0 P md ops (GR F n Q) fuel (L.setIfInBounds i true) (a.put (ops[i]).dst (val i)) w':=fun w' LN _ hs' ah iQ=>by
          refine fin (pre':=pre) (post':=post) (val':=val) (own':=own) (an':=an) (en':=en) (cur':=LN) (bf':=bf) (pl':=pl) ⟨by simpa using h.s1,hsz2 _,hdf2 _,hdown,h.e,OD Jf h.s2 h.s4 h.sl Ik Ii h.s1 FZ val _ rfl (fun _ _=>rfl),h.ch,hs',fun p' jt t' Xf=> ?_,fun x I9 aZ=> ?_,(fun k hk Uz=>h.pr k hk (hold k Uz)),h.pn,fun j=> ?_,iQ,h.ei,h.ed,hrq⟩
          · have hk:=h.kn p' jt t' Xf;cases jt with
            | q j=>
              obtain⟨o,Je,h1,h2,h3⟩:=hk;refine⟨o,Je,h1,h2,fun hl=>h3 ?_⟩;by_cases ej:j=i
              · subst ej;rw [hLi] at hl;cases hl
              · rwa [hLo j ej] at hl
            |f j=>exact hk
            |r j=>exact hk
            | an j=>
              obtain⟨o,vf,ob,h1,h2,h3,h4,h5⟩:=hk;refine⟨o,vf,ob,h1,h2,h3,h4,fun hl=>h5 ?_⟩;by_cases ej:j=i
              · exfalso;subst ej;have Gs:F6=p'++ .an j::(t'++post):=by rw [h.e,Xf];simp
                have q1:=DJ ho Gs rfl;have Eh:it∈pre:=by rw [hp];simp
                rw [Xf] at Eh
                rcases List.mem_append.1 Eh with Eh|Eh
                · exact q1.1 (by rw [show(It.an j).ix=it.ix from Jy.symm];exact C3 Eh hx)
                · rcases List.mem_cons.1 Eh with Eh|Eh
                  · exact ah j Eh
                  · exact q1.2 (by rw [Df,show(It.an j).ix=it.ix from Jy.symm];exact List.mem_append.2 (.inl (C3 Eh hx)))
              · rwa [hLo j ej] at hl
            | rv j=>
              show(L.setIfInBounds i true).getD j false=true;by_cases ej:j=i
              · subst ej;exact hLi
              · rw [hLo j ej];exact hk
            | h c j=>
              show(L.setIfInBounds i true).getD j false=true;by_cases ej:j=i
              · subst ej;exact hLi
              · rw [hLo j ej];exact hk
            |fi i2 j=>exact hk
          · rw [hLo]
            · exact h.un x I9 aZ
            · intro e;have q2:=(DJ ho hsplit hx).2;rw [Jy,<-e,Df] at q2
              exact q2 (List.mem_append.2 (.inr (C3 I9 aZ)))
          · rw [h.pm j];by_cases ej:j=i
            · subst ej;rw [FZ,hLi];refine⟨fun g=>by simp at g,fun⟨g1,_,g3⟩=> ?_⟩;exfalso;obtain⟨q1,q2,hq⟩:=List.append_of_mem g1;have Gs:F6=q1++ .an j::(q2++post):=by rw [h.e,hq];simp
              have hn:=DJ ho Gs rfl;have Eh:it∈pre:=by rw [hp];simp
              rw [hq] at Eh
              rcases List.mem_append.1 Eh with Eh|Eh
              · exact hn.1 (by rw [show(It.an j).ix=it.ix from Jy.symm];exact C3 Eh hx)
              · rcases List.mem_cons.1 Eh with Eh|Eh
                · exact ah j Eh
                · exact hn.2 (by rw [Df,show(It.an j).ix=it.ix from Jy.symm];exact List.mem_append.2 (.inl (C3 Eh hx)))
            · rw [hLo j ej]
        have quiet:∀ {F1:B6} {own1 Y:List B6},I0 P F1 n ops own1 (Gc ops val (CM p) env) ops[i] (val i)->Sat (F1::own1++Y) w->
            (∀w',Sat (F1::own1++Y) w'->Sat (F::own++Hx cur bf pl) w')->(∀j,it≠ .an j)->(∀i' j',it≠ .fi i' j')->
            wpOpIn (Np r) 0 P ops (GR F n Q) i (wpAnyIn (Np r) 0 P md ops (GR F n Q) fuel (L.setIfInBounds i true)) a w:=by
          intro F1 own1 Y hc hs hk ah cZ;have Gn:=fun s hs=>Gn s hs (fun i' j' e=>(cZ i' j' e).elim)
          rcases hc.1 with ⟨hg,hvv⟩|⟨hg,hu,OW⟩
          · simp only [wpOpIn,Ik,(Fa Gn).trans (DH LF hg),if_true];refine⟨fun f _=>by simp,?_⟩;rw [Eo,semAt_plain hvv.1,IZ Gn (J5 Jf Ik)];obtain⟨w',s',g1|⟨g1,g2⟩|⟨f,args,g1,g2⟩⟩:=hvv.2 W5 w Y LF hs
            · rw [g1];exact next w' cur rfl (hk w' s') ah (cu2 (bu cZ))
            · rw [g1];have:=next w' cur rfl (hk w' s') ah (cu2 (bu cZ));rw [g2] at this;exact this
            · rw [g1];refine⟨fun hx=>by simp at hx,(E8 _ g2).mono ?_⟩;rintro e K9 ⟨rfl,s2⟩;exact next K9 cur rfl (hk K9 s2) ah (cu2 (bu cZ))
          · simp only [wpOpIn,Ik,(Fa Gn).trans (DH LF hg)];refine⟨fun f _=>by simp,?_⟩;have:=next w cur rfl (hk w hs) ah (cu2 (bu cZ));rw [hu] at this;exact this
        cases it with
        | q j=>
          obtain rfl:j=i:=Jy;obtain⟨o,Je,h1,h2,h3⟩:=Yz;rw [Ik] at h1;cases h1
          obtain⟨Y,hY⟩:=h3 FZ;have pp:(F::own++Hx cur bf pl).Perm (F::Je++(Y++Hx cur bf pl)):=by
            have:=(hY.append_right (Hx cur bf pl)).cons F;simpa [List.append_assoc] using this
          exact quiet h2 (h.sat.perm pp) (fun w' s'=>s'.perm pp.symm) (fun _ e=>by cases e) (fun _ _ e=>by cases e)
        | f j=>
          obtain rfl:j=i:=Jy;obtain⟨o,h1,h2⟩:=Yz;rw [Ik] at h1;cases h1
          have hemp:Sat (emp::(F::own++Hx cur bf pl)) w:=⟨fun k hk=>by
            rcases List.mem_cons.1 hk with rfl|hk
            · intro b o e;cases e
            · exact h.sat.le k hk,List.pairwise_cons.2 ⟨fun _ _ _ _ _ e _=>(by cases e),h.sat.dj⟩⟩
          exact quiet (Y:=F::own++Hx cur bf pl) h2 (by simpa using hemp) (fun w' s'=>s'.tail) (fun _ e=>by cases e) (fun _ _ e=>by cases e)
        | r j=>
          obtain rfl:j=i:=Jy;obtain⟨o,h1,h2⟩:=Yz;rw [Ik] at h1;cases h1
          obtain⟨Y,hY⟩:=h.pr j (by simpa using Pn) FZ;have pp:(F::own++Hx cur bf pl).Perm (F::CR++(Y++Hx cur bf pl)):=by
            have:=(hY.append_right (Hx cur bf pl)).cons F;simpa [List.append_assoc] using this
          exact quiet h2 (h.sat.perm pp) (fun w' s'=>s'.perm pp.symm) (fun _ e=>by cases e) (fun _ _ e=>by cases e)
        |rv j=>cases hx
        | h c j=>
          obtain rfl:j=i:=Jy;rw [show L.getD j false=true from Yz] at FZ;cases FZ
        | fi i2 j=>
          obtain rfl:i2=i:=Jy;obtain⟨dd,kv,xv,bF,iL,YA⟩:=Yz;obtain⟨o,t,d,k,x,kt,et,vf,g1,g2,g3,g4,g5,g6,g7,g8,g9,g10,g11,g12,g13,g14,g15, -⟩:=iL.ex;rw [Ik] at g1;cases g1
          obtain⟨mH,mG⟩:=ho.c5 p i2 j (t2++post) hsplit;have hLj:L.getD j false=true:=Jw j mG;have hjlt:j<ops.size:=by
            cases e:ops[j]? with
            |none=>rw [e] at g5;cases g5
            |some _=>exact(Array.getElem?_eq_some_iff.1 e).1
          have hanpre: .an j∈pre:=by rw [hp];exact List.mem_append.2 (.inl mH)
          have hrv: .rv j∈post:=by
            have h1:=ho.T4 j hjlt;obtain⟨p1,QT,p2,KO,hs',I9⟩:=Iu h1;have excl:QT.exec=true->(∀k,QT≠ .an k)->False:=fun jZ iF=>by
              obtain⟨q1,q2,aa⟩:=List.append_of_mem hanpre;have hn:=DJ ho (p:=q1) (t:=q2++post) (it:= .an j) (by rw [h.e,aa];simp) rfl;have Eh:(p1++QT::p2)=(q1++ .an j::(q2++post)):=by rw [<-KO,h.e,aa];simp
              have hmem:QT∈q1++ .an j::(q2++post):=Eh▸List.mem_append.2 (.inr (List.mem_cons_self ..));rcases List.mem_append.1 hmem with hm|hm
              · exact hn.1 (by have:=C3 hm jZ;rw [I9] at this;exact this)
              · rcases List.mem_cons.1 hm with hm|hm
                · exact iF j hm
                · exact hn.2 (by have:=C3 hm jZ;rw [I9] at this;exact this)
            have hrvits:QT= .rv j:=by
              cases QT with
              |rv k=>rw [show k=j from I9]
              |an k=>cases hs'
              |_=>exact(excl rfl fun _ e=>by cases e).elim
            have WM: .rv j∈F6:=by rw [KO,hrvits];simp
            rw [h.e] at WM
            rcases List.mem_append.1 WM with hm|hm
            · have:=h.rq j hm i2 _ YA rfl;rw [FZ] at this;cases this
            · exact hm
          have hjpl:j∈pl:=(h.pm j).2 ⟨hanpre,hLj,hrv⟩;have hval:val j= .map (some (bf j)):=by
            obtain⟨q1,q2,aa⟩:=List.append_of_mem hanpre;obtain⟨o3,mW,nq,k1,k2,k3,k4,k5⟩:=h.kn q1 (.an j) q2 aa;rw [g14] at k4;cases k4
            rw [k5 hLj,g15]
          obtain⟨es,JH,iO,l6⟩:=h.cu j hjpl vf _ g14;have hes':(es.toList.map fun e=>(e.key,e.val)).Perm (Fj en (fun k=>L.getD k false) ops.size j):=by simpa using l6
          have hper:(F::own++Hx cur bf pl).Perm (Co (bf j) (.map es JH)::(F::own++Hx cur bf (pl.erase j))):=by
            have h8:=(List.perm_cons_erase hjpl).map (fun i=>Co (bf i) (cur i));simp only [List.map_cons,iO] at h8
            exact(h8.append_left (F::own)).trans (List.perm_middle (a:=Co (bf j) (.map es JH)) (l₁:=F::own) (l₂:=Hx cur bf (pl.erase j)))
          have s1:=h.sat.perm hper;have hb:w.heap[bf j]?=some (.map es JH):=s1.at (List.mem_cons_self ..) (CT _ _);have hslot:a.tmps[d]?=some (.map (some (bf j))):=by
            rw [h.sl d (MZ j d g5)];obtain⟨k8,kd⟩:=Uk (all:=ops) (L:=fun i=>L.getD i false) (s:=d) hjlt hLj g5;simp only [Qh,kd];rw [g6 k8 (JV kd).2.1,hval]
          have hev:∀ {y:Operand} {v:Value},y∈ [k,x]->y≠ .tmp d->ev (Gc ops val (CM p) env) y=some v->a.eval y=v:=fun{y v} hy LC he=>by
            rw [<-LF.eval he];cases y with
            | tmp s=>
              have hs8:s∈(ops[i2]).looksAt ops:=by
                unfold Oper.looksAt;refine List.mem_append.2 (.inl ?_);rw [List.mem_filterMap];refine⟨.tmp s,?_,rfl⟩;rw [g2];simp only [Op.operands];rcases List.mem_cons.1 hy with rfl|hy
                · simp
                · have:=List.mem_singleton.1 hy;subst this;simp
              have:=Gn s hs8 fun i' j' e=>by
                cases e
                rw [g5];intro e;cases e;exact LC rfl
              simp only [Act.eval,Array.getD_eq_getD_getElem?,this]
            |_=>rfl
          have hem:a.eval (.tmp d)= .map (some (bf j)):=by simp only [Act.eval,Array.getD_eq_getD_getElem?,hslot];rfl
          have hek:=hev Ak g7 g9;have hex:=hev Ak g8 g10;have hfind:Instr.findNow dd kv es.toList 0=some none:=by
            refine LJ fun e he=> ?_
            have hm:(e.key,e.val)∈Fj en (fun k=>L.getD k false) ops.size j:=hes'.mem_iff.1 (List.mem_map.2 ⟨e,he,rfl⟩);rw [Hz,List.mem_filterMap] at hm
            obtain⟨k9, -,hk9⟩:=hm;simp only [HO] at hk9
            split at hk9
            · rename_i j' dl Xd aR hL9 he9
              split at hk9
              · rename_i ej
                subst ej;cases hk9;exact h.ed i2 k9 j' dd kv xv dl _ _ YA he9 fun e2=>by subst e2;rw [FZ] at hL9;cases hL9
              · cases hk9
            · cases hk9
          let w2:World:={w with heap:=w.heap.setIfInBounds (bf j) (.map (es.push {key:=kv,val:=xv,born:=JH}) (JH+1))}
          have Em:=(Array.getElem?_eq_some_iff.1 hb).1;have E0:(execOp a.eval ops[i2]).run P w= .ok .skip w2:=by
            simp [execOp,g2,hem,hek,hex,Instr.mapUpdate,CL g11,getObj,setObj,Sem.run,hb,g13,Instr.findKey,CL g12,hfind,w2]
          have hwant:Region.wanted ops[i2] (yielded ops a.tmps)=true:=by unfold Region.wanted;rw [g4]
          simp only [wpOpIn,Ik,hwant,if_true];refine⟨fun f _=>by simp,?_⟩;rw [Eo,semAt_plain (by rw [g2];rfl),E0,Oper.uponIn_skip]
          let LN:Nat->Obj:=fun l=>if l=j then .map (es.push {key:=kv,val:=xv,born:=JH}) (JH+1) else cur l
          have u1:LN j= .map (es.push {key:=kv,val:=xv,born:=JH}) (JH+1):=by simp [LN]
          have u2:∀l,l≠j->LN l=cur l:=fun l hl=>by simp only [LN];rw [if_neg hl]
          have s2:Sat (Co (bf j) (.map (es.push {key:=kv,val:=xv,born:=JH}) (JH+1))::(F::own++Hx cur bf (pl.erase j))) w2:=
            s1.put (by simp [w2,Em]) rfl rfl (fun l hl=>by simp only [w2];rw [Array.getElem?_setIfInBounds_ne (Ne.symm hl)]) (fun _=>rfl)
          have hsat2:Sat (F::own++Hx LN bf pl) w2:=by
            refine s2.perm ?_;have h8:=(List.perm_cons_erase hjpl).map (fun i=>Co (bf i) (LN i));simp only [List.map_cons,u1] at h8
            have h9:Hx LN bf (pl.erase j)=Hx cur bf (pl.erase j):=PI fun l hl=>⟨u2 l fun e=>by subst e;exact(List.Nodup.not_mem_erase h.pn) hl,rfl⟩
            have h10:(pl.erase j).map (fun i=>Co (bf i) (LN i))=Hx cur bf (pl.erase j):=h9;rw [h10] at h8
            exact((h8.append_left (F::own)).trans (List.perm_middle (a:=Co (bf j) (.map (es.push {key:=kv,val:=xv,born:=JH}) (JH+1))) (l₁:=F::own) (l₂:=Hx cur bf (pl.erase j)))).symm
          have hgo:=next w2 LN rfl hsat2 (fun _ e=>by cases e) fun l hl Zu X4 Rs=>by
            have hset:=Ow (en:=en) (j:=l) Pn Ii FZ;rw [YA] at hset
            by_cases el:l=j
            · subst el;rw [g14] at Rs;cases Rs
              rw [u1];refine⟨_,_,rfl,?_⟩;simp only [if_true] at hset
              have:(es.push {key:=kv,val:=xv,born:=JH}).toList.map (fun e=>(e.key,e.val))=es.toList.map (fun e=>(e.key,e.val))++ [(kv,xv)]:=by simp
              rw [this];simpa using(hes'.append_right [(kv,xv)]).trans hset.symm
            · rw [u2 l el];have LC:¬j=l:=fun e=>el e.symm
              simp only [LC,if_false,List.append_nil] at hset
              exact(h.cu l hl Zu X4 Rs).perm hset.symm
          rw [g3] at hgo ⊢
          exact hgo
        | an j=>
          obtain rfl:j=i:=Jy;obtain⟨o,vf,ob,h1,h2,h3,h4,h5⟩:=Yz;rw [Ik] at h1;cases h1
          have Gn:=fun s hs=>Gn s hs (fun i' j' e=>by cases e)
          simp only [wpOpIn,Ik,(Fa Gn).trans (DH LF h2),if_true];refine⟨fun f _=>by simp,?_⟩;rw [Eo,semAt_plain h3.1,IZ Gn (J5 Jf Ik),h3.2.2 W5 w LF];show wpAnyIn (Np r) 0 P md ops (GR F n Q) fuel (L.setIfInBounds j true) (a.put (ops[j]).dst (vf w.heap.size)) _
          let val':Nat->Value:=fun k=>if k=j then vf w.heap.size else val k
          let bf':Nat->Nat:=fun k=>if k=j then w.heap.size else bf k
          let cur':Nat->Obj:=fun k=>if k=j then ob else cur k
          have u1:cur' j=ob:=by simp [cur']
          have u2:∀k,k≠j->cur' k=cur k:=fun k hk=>by simp only [cur'];rw [if_neg hk]
          have v1:val' j=vf w.heap.size:=by simp [val']
          have v2:∀k,k≠j->val' k=val k:=fun k hk=>by simp only [val'];rw [if_neg hk]
          have b1:bf' j=w.heap.size:=by simp [bf']
          have b2:∀k,k≠j->bf' k=bf k:=fun k hk=>by simp only [bf'];rw [if_neg hk]
          have hjo:j∉CM pre:=fun hj=>by
            obtain⟨p1,QT,p2,KO,hs',I9⟩:=Iu hj;have:=h.kn p1 QT p2 KO;cases QT with
            |rv k=>obtain rfl:k=j:=I9;rw [show L.getD k false=true from this] at FZ;cases FZ
            |h c k=>obtain rfl:k=j:=I9;rw [show L.getD k false=true from this] at FZ;cases FZ
            |an k=>cases hs'
            | fi k l=>
              obtain rfl:k=j:=I9;have Eh:It.fi k l∈pre:=by rw [KO];simp
              have hn:=DJ ho hsplit rfl;rw [hp] at Eh
              rcases List.mem_append.1 Eh with Eh|Eh
              · exact hn.1 (C3 (it:= .fi k l) Eh rfl)
              · rcases List.mem_cons.1 Eh with Eh|Eh
                · cases Eh
                · exact hn.2 (by rw [Df];exact List.mem_append.2 (.inl (C3 (it:= .fi k l) Eh rfl)))
            | q k=>
              obtain rfl:k=j:=I9;have Eh:It.q k∈pre:=by rw [KO];simp
              have hn:=DJ ho hsplit rfl;rw [hp] at Eh
              rcases List.mem_append.1 Eh with Eh|Eh
              · exact hn.1 (C3 (it:= .q k) Eh rfl)
              · rcases List.mem_cons.1 Eh with Eh|Eh
                · cases Eh
                · exact hn.2 (by rw [Df];exact List.mem_append.2 (.inl (C3 (it:= .q k) Eh rfl)))
            | f k=>
              obtain rfl:k=j:=I9;have Eh:It.f k∈pre:=by rw [KO];simp
              have hn:=DJ ho hsplit rfl;rw [hp] at Eh
              rcases List.mem_append.1 Eh with Eh|Eh
              · exact hn.1 (C3 (it:= .f k) Eh rfl)
              · rcases List.mem_cons.1 Eh with Eh|Eh
                · cases Eh
                · exact hn.2 (by rw [Df];exact List.mem_append.2 (.inl (C3 (it:= .f k) Eh rfl)))
            | r k=>
              obtain rfl:k=j:=I9;have Eh:It.r k∈pre:=by rw [KO];simp
              have hn:=DJ ho hsplit rfl;rw [hp] at Eh
              rcases List.mem_append.1 Eh with Eh|Eh
              · exact hn.1 (C3 (it:= .r k) Eh rfl)
              · rcases List.mem_cons.1 Eh with Eh|Eh
                · cases Eh
                · exact hn.2 (by rw [Df];exact List.mem_append.2 (.inl (C3 (it:= .r k) Eh rfl)))
          have c6:j∉pl:=fun hj=>by have:=((h.pm j).1 hj).2.1;rw [FZ] at this;cases this
          have hrvpost: .rv j∈post:=by
            have h1:=ho.T4 j Pn;rw [h.e,Di] at h1
            rcases List.mem_append.1 h1 with h1|h1
            · exact absurd h1 hjo
            · obtain⟨p1,QT,p2,KO,hs',I9⟩:=Iu h1;cases QT with
              |rv k=>obtain rfl:k=j:=I9;rw [KO];simp
              |an k=>cases hs'
              | fi k l=>
                exfalso;obtain rfl:k=j:=I9;exact(DJ ho hsplit rfl).2 (by rw [Df];exact List.mem_append.2 (.inr (C3 (it:= .fi k l) (by rw [KO];simp) rfl)))
              | q k=>
                exfalso;obtain rfl:k=j:=I9;exact(DJ ho hsplit rfl).2 (by rw [Df];exact List.mem_append.2 (.inr (C3 (it:= .q k) (by rw [KO];simp) rfl)))
              | f k=>
                exfalso;obtain rfl:k=j:=I9;exact(DJ ho hsplit rfl).2 (by rw [Df];exact List.mem_append.2 (.inr (C3 (it:= .f k) (by rw [KO];simp) rfl)))
              | r k=>
                exfalso;obtain rfl:k=j:=I9;exact(DJ ho hsplit rfl).2 (by rw [Df];exact List.mem_append.2 (.inr (C3 (it:= .r k) (by rw [KO];simp) rfl)))
              | h c k=>
                exfalso;obtain rfl:k=j:=I9;exact(DJ ho hsplit rfl).2 (by rw [Df];exact List.mem_append.2 (.inr (C3 (it:= .h c k) (by rw [KO];simp) rfl)))
          have vL:∀k,L.getD k false=true->val' k=val k:=fun k hk=>v2 k fun e=>by rw [e,FZ] at hk;cases hk
          have vp:∀k∈CM pre,val' k=val k:=fun k hk=>v2 k fun e=>hjo (e▸hk)
          have henj:=bu (fun _ _ e=>by cases e);refine fin (pre':=pre) (post':=post) (val':=val') (own':=own) (an':=an) (en':=en) (cur':=cur') (bf':=bf') (pl':=j::pl) ⟨by simpa using h.s1,hsz2 _,hdf2 _,hdown,h.e,OD Jf h.s2 h.s4 h.sl Ik Ii h.s1 FZ val' _ v1 vL,?_,?_,fun p' jt t' Xf=> ?_,fun x I9 aZ=> ?_,(fun k hk Uz=>h.pr k hk (hold k Uz)),List.nodup_cons.2 ⟨c6,h.pn⟩,fun k=> ?_,fun l hl Zu X4 Rs=> ?_,h.ei,h.ed,hrq⟩
          · rw [Fi vp];exact h.ch
          · have e1:Hx cur' bf' (j::pl)=Co w.heap.size ob::Hx cur bf pl:=by
              have:=PI (cur:=cur) (cur':=cur') (bf:=bf) (bf':=bf') (pl:=pl) fun k hk=>⟨u2 k fun e=>c6 (e▸hk),b2 k fun e=>c6 (e▸hk)⟩
              simp only [Hx,List.map_cons,u1,b1] at this ⊢
              rw [this]
            rw [e1];have:=D4 h.sat ob h3.2.1;exact this.perm (List.perm_middle (a:=Co w.heap.size ob) (l₁:=F::own) (l₂:=Hx cur bf pl)).symm
          · have hk:=h.kn p' jt t' Xf;have hpo:∀k∈CM p',val' k=val k:=fun k hk=>vp k (by rw [Xf,Di];exact List.mem_append.2 (.inl hk))
            have he':Gc ops val' (CM p') env=Gc ops val (CM p') env:=Fi hpo;have LC:jt.O3=true->jt.ix≠j:=fun hs e=>hjo (e▸EZ (by rw [Xf];simp) hs)
            cases jt with
            | q k=>
              obtain⟨o,Je,g1,g2,g3⟩:=hk;exact⟨o,Je,g1,by rw [he',v2 k (LC rfl)];exact g2,fun hl=>g3 (by rwa [hLo k (LC rfl)] at hl)⟩
            | f k=>
              obtain⟨o,g1,g2⟩:=hk;exact⟨o,g1,by rw [he',v2 k (LC rfl)];exact g2⟩
            | r k=>
              obtain⟨o,g1,g2⟩:=hk;exact⟨o,g1,by rw [he',v2 k (LC rfl)];exact g2⟩
            | an k=>
              obtain⟨o,Zu,X4,g1,g2,g3,g4,g5⟩:=hk;refine⟨o,Zu,X4,g1,by rw [he'];exact g2,by rw [he'];exact g3,g4,fun hl=> ?_⟩;by_cases ek:k=j
              · subst ek;rw [h4] at g4;cases g4;rw [v1,b1]
              · rw [v2 k ek,b2 k ek];exact g5 (by rwa [hLo k ek] at hl)
            |rv k=>show(L.setIfInBounds j true).getD k false=true;rw [hLo k (LC rfl)];exact hk
            |h c k=>show(L.setIfInBounds j true).getD k false=true;rw [hLo k (LC rfl)];exact hk
            | fi k l=>
              obtain⟨dd,kv,xv,bF,g1,g2⟩:=hk;exact⟨dd,kv,xv,bF,by rw [he'];exact g1,g2⟩
          · rw [hLo]
            · exact h.un x I9 aZ
            · intro e;have q2:=(DJ ho hsplit hx).2;rw [show(It.an j).ix=j from rfl,<-e,Df] at q2
              exact q2 (List.mem_append.2 (.inr (C3 I9 aZ)))
          · by_cases ek:k=j
            · subst ek;exact⟨fun _=>⟨by rw [hp];simp,hLi,hrvpost⟩,fun _=>List.mem_cons_self ..⟩
            · rw [hLo k ek,List.mem_cons,h.pm k];exact⟨fun hh=>hh.resolve_left ek,.inr⟩
          · by_cases el:l=j
            · subst el;rw [h4] at Rs;cases Rs
              rw [u1,UJ fun k=> ?_]
              · cases ob with
                |map es0 c0=>exact⟨es0,c0,rfl,by simp⟩
                |_=>rfl
              · simp only [HO];cases e:en k with
                |none=>cases (L.setIfInBounds l true).getD k false <;>rfl
                | some x=>
                  obtain⟨l',dd,kv,xv⟩:=x;by_cases ex:l'=l
                  · subst ex;have Uz:k≠l':=fun e2=>by rw [e2,henj] at e;cases e
                    rw [hLo k Uz];cases hLk:L.getD k false with
                    |false=>rfl
                    | true=>
                      exfalso;obtain⟨p5,p6,cW⟩:=List.append_of_mem (h.ei k _ e);have h5:=(ho.c5 p5 k l' (p6++post) (by rw [h.e,cW];simp)).2;have:=h5.listed (L:=fun j=>L.getD j false) h.s4 hLk;rw [FZ] at this;cases this
                  · cases (L.setIfInBounds l true).getD k false <;>simp [ex]
            · rw [u2 l el];exact cu2 henj l ((List.mem_cons.1 hl).resolve_left el) Zu X4 Rs
      ·
        cases post with
        |nil=>cases hmem
        | cons it rest=>
          have hwait:∀m,(∀x∈F5 rest,KZ ops m x)->L.getD m false=false->i∈F5 rest->False:=fun m hm fq gz=>by
            have:=Jw m (hm i gz);rw [fq] at this;cases this
          cases it with
          |q _=>cases FB
          |f _=>cases FB
          |r _=>cases FB
          |an _=>cases FB
          |fi _ _=>cases FB
          | rv m=>
            have gz:i∈F5 rest:=by simpa [F5,It.exec] using hmem
            rcases(show L.getD m false=false∨∃k x,en k=some x/\x.1=m/\L.getD k false=false from FB) with hst2|⟨k,x,hk,rfl,hst2⟩
            · exact(hwait m (ho.c2 pre m rest h.e).1 hst2 gz).elim
            · exact(hwait k ((ho.c4 pre x.1 rest h.e).1 k (h.ei k x hk)) hst2 gz).elim
          | h c m =>
            have fq:L.getD m false=false:=h.un (.h c m) (List.mem_cons_self ..) rfl;have ff:i=m:=by
              have e1:F5 (.h c m::rest)=m::F5 rest:=rfl;rw [e1] at hmem
              rcases List.mem_cons.1 hmem with hm|hm
              · exact hm
              · exact(hwait m (ho.c1 pre c m rest h.e) fq hm).elim
            subst ff;obtain⟨W5,LF,Gn⟩:=Tj Jf ho MZ SU h.s2 h.s4 h.sl h.e rfl (by exact Ik) (by exact FZ) (by exact Jw);have Gn:=fun s hs=>Gn s hs (fun i' j' e=>by cases e)
            obtain⟨o,Hn,Fg,R,Z,k1,k2,lG,k5,k7,k6,k8⟩:=h.ch;rw [Ik] at k1;cases k1
            have pp:(F::own++Hx cur bf pl).Perm (Hn++(Fg++(F::Hx cur bf pl))):=by
              have e1:(F::own++Hx cur bf pl).Perm (own++(F::Hx cur bf pl)):=(List.perm_middle (a:=F) (l₁:=own) (l₂:=Hx cur bf pl)).symm;refine e1.trans ?_;have:=k2.append_right (F::Hx cur bf pl);simpa [List.append_assoc] using this
            have cont:∀v own' w',R v own'->Sat (own'++(Fg++(F::Hx cur bf pl))) w'->wpAnyIn (Np r) 0 P md ops (GR F n Q) fuel (L.setIfInBounds i true) (a.put (ops[i]).dst v) w':= ?_;have zont:∀ch own' w',Z ch own'->Sat (own'++(Fg++(F::Hx cur bf pl))) w'->GR F n Q (.panic ch) a w':=fun ch own' w' hZ s2=>
              ⟨by simp,[],own'++Fg,⟨h.s2,fun i v hi=>by cases hi⟩,(s2.perm (show(own'++(Fg++(F::Hx cur bf pl))).Perm (F::(own'++Fg)++Hx cur bf pl) by rw [<-List.append_assoc];exact List.perm_middle (a:=F) (l₁:=own'++Fg) (l₂:=Hx cur bf pl))).sub (List.sublist_append_left _ _),by rw [h.s3];exact k8 ch own' hZ⟩
            · rcases lG with ⟨k3,k4⟩|⟨k3, -,k4⟩
              · exact af (X:=Fg++(F::Hx cur bf pl)) k4 Ik ((Fa Gn).trans (DH LF k3)) LF (IZ Gn (J5 Jf Ik)) (h.sat.perm pp) cont zont
              · simp only [wpOpIn,Ik,(Fa Gn).trans (DH LF k3)];exact⟨fun f _=>by simp,cont undef Hn w k4 (h.sat.perm pp)⟩
            intro v own' w' hR s2
            let val':Nat->Value:=fun k=>if k=i then v else val k
            have v1:val' i=v:=by simp [val']
            have v2:∀k,k≠i->val' k=val k:=fun k hk=>by simp only [val'];rw [if_neg hk]
            have vL:∀k,L.getD k false=true->val' k=val k:=fun k hk=>v2 k fun e=>by rw [e,FZ] at hk;cases hk
            have hjo:i∉CM pre:=Md ho h.e rfl;have vp:∀k∈CM pre,val' k=val k:=fun k hk=>v2 k fun e=>hjo (e▸hk)
            have Zl:=DJ ho h.e rfl;have he2:F6=(pre++ [.h c i])++rest:=by rw [h.e];simp
            have YA:en i=none:=by
              cases e:en i with
              |none=>rfl
              |some x=>exact(Zl.1 (C3 (it:= .fi i x.1) (h.ei i x e) rfl)).elim
            refine fin (pre':=pre++ [.h c i]) (post':=rest) (val':=val') (own':=own'++Fg) (an':=an) (en':=en) (cur':=cur) (bf':=bf) (pl':=pl) ⟨by simpa using h.s1,hsz2 _,hdf2 _,hdown,he2,OD Jf h.s2 h.s4 h.sl Ik Ii h.s1 FZ val' _ v1 vL,?_,?_,fun p' jt t' Xf=> ?_,fun x I9 aZ=> ?_,?_,h.pn,fun k=> ?_,cu2 YA,fun k x hk=>List.mem_append.2 (.inl (h.ei k x hk)),h.ed,fun j hj=>hrq j ((List.mem_append.1 hj).resolve_right fun e=>by cases List.mem_singleton.1 e)⟩
            · have e1:CM (pre++ [.h c i])=CM pre++ [i]:=by rw [Di];rfl
              rw [e1,LK,v1,Fi vp];exact k6 v own' hR
            · refine s2.perm ?_;have e1:(own'++(Fg++(F::Hx cur bf pl))).Perm (F::(own'++Fg)++Hx cur bf pl):=by
                rw [<-List.append_assoc];exact List.perm_middle (a:=F) (l₁:=own'++Fg) (l₂:=Hx cur bf pl)
              exact e1
            · rcases HD Xf with ⟨t2,rfl⟩|⟨rfl,rfl, -⟩
              · have hk :=h.kn p' jt t2 rfl;have LC:jt.exec=true->jt.ix≠i:=fun hx e=>Zl.1 (by rw [show(It.h c i).ix=jt.ix from e.symm];exact C3 Ak hx)
                have hpo:∀k∈CM p',val' k=val k:=fun k hk=>vp k (by rw [Di];exact List.mem_append.2 (.inl hk))
                have he':Gc ops val' (CM p') env=Gc ops val (CM p') env:=Fi hpo;cases jt with
                | q k =>
                  obtain⟨o,Je,g1,g2,g3⟩:=hk;refine⟨o,Je,g1,by rw [he',v2 k (LC rfl)];exact g2,fun hl=> ?_⟩;rw [hLo k (LC rfl)] at hl
                  cases c with
                  | true=>
                    have:=Jw k (ho.c3 _ i rest h.e k Ak);rw [hl] at this;cases this
                  | false=>
                    obtain⟨Y,hY⟩:=g3 hl;obtain⟨N,hN⟩:=k5 rfl v own' hR;refine⟨Y++N,?_⟩;have q1:(own'++Fg).Perm (own++N):=by
                      refine(hN.append_right Fg).trans ?_;have:((Hn++N)++Fg).Perm ((Hn++Fg)++N):=by
                        rw [List.append_assoc,List.append_assoc];exact(List.perm_append_comm (l₁:=N) (l₂:=Fg)).append_left Hn
                      exact this.trans (k2.symm.append_right N)
                    refine q1.trans ?_;rw [<-List.append_assoc];exact hY.append_right N
                | f k=>
                  obtain⟨o,g1,g2⟩:=hk;exact⟨o,g1,by rw [he',v2 k (LC rfl)];exact g2⟩
                | r k=>
                  obtain⟨o,g1,g2⟩:=hk;exact⟨o,g1,by rw [he',v2 k (LC rfl)];exact g2⟩
                | an k=>
                  obtain⟨o,Zu,X4,g1,g2,g3,g4,g5⟩:=hk;exact⟨o,Zu,X4,g1,by rw [he'];exact g2,by rw [he'];exact g3,g4,fun hl=>by
                    rw [v2 k (LC rfl)];exact g5 (by rwa [hLo k (LC rfl)] at hl)⟩
                | rv k=>
                  show(L.setIfInBounds i true).getD k false=true;by_cases ek:k=i
                  · subst ek;exact hLi
                  · rw [hLo k ek];exact hk
                |h c' k=>show(L.setIfInBounds i true).getD k false=true;rw [hLo k (LC rfl)];exact hk
                | fi k l=>
                  obtain⟨dd,kv,xv,bF,g1,g2⟩:=hk;exact⟨dd,kv,xv,bF,by rw [he'];exact g1,g2⟩
              · exact hLi
            · rw [hLo]
              · exact h.un x (List.mem_cons_of_mem _ I9) aZ
              · intro e;exact Zl.2 (by rw [show(It.h c i).ix=x.ix from e.symm];exact C3 I9 aZ)
            · cases c with
              | true=>
                intro k hk Uz;rcases k7 rfl with ⟨Y,hY⟩|hlast
                case inr=>
                  exfalso;rcases Ul hlast k hk with rfl|hp
                  · rw [hLi] at Uz;cases Uz
                  · have:=Jw k hp;rw [hold k Uz] at this;cases this
                exact⟨Y++own',(List.perm_append_comm (l₁:=own') (l₂:=Fg)).trans (by rw [<-List.append_assoc];exact hY.append_right own')⟩
              | false=>
                obtain⟨N,hN⟩:=k5 rfl v own' hR;intro k hk Uz;obtain⟨Y,hY⟩:=h.pr k hk (hold k Uz);have q1:(own'++Fg).Perm (own++N):=by
                  refine(hN.append_right Fg).trans ?_;have:((Hn++N)++Fg).Perm ((Hn++Fg)++N):=by
                    rw [List.append_assoc,List.append_assoc];exact(List.perm_append_comm (l₁:=N) (l₂:=Fg)).append_left Hn
                  exact this.trans (k2.symm.append_right N)
                exact⟨Y++N,q1.trans (by rw [<-List.append_assoc];exact hY.append_right N)⟩
            · rw [h.pm k];constructor
              · rintro⟨g1,g2,g3⟩;refine⟨List.mem_append.2 (.inl g1),?_,?_⟩
                · rw [hLo k fun e=>by rw [e,FZ] at g2;cases g2];exact g2
                · rcases List.mem_cons.1 g3 with g3|g3
                  · cases g3
                  · exact g3
              · rintro⟨g1,g2,g3⟩;have g1': .an k∈pre:=by
                  rcases List.mem_append.1 g1 with g1|g1
                  · exact g1
                  · cases List.mem_singleton.1 g1
                have hk:k≠i:=fun e=>Zl.1 (by rw [show(It.h c i).ix=(It.an k).ix from e.symm];exact C3 g1' rfl)
                exact⟨g1',by rwa [hLo k hk] at g2,List.mem_cons_of_mem _ g3⟩
  have hrep:∀j,(Array.replicate ops.size false).getD j false=false:=fun j=>by
    rw [Array.getD_eq_getD_getElem?,Array.getElem?_replicate];split <;>rfl
  have h0 :CI P F n ops CR (fun env own=>Q .normal env own ds) (fun ch own=>Q (.panic ch) [] own ds) F6 env a0 ds [] F6 (fun _=>undef) own (fun _=>none) (fun _=>none) (fun _=> .map #[] 0) (fun _=>0) [] (Array.replicate ops.size false) a0 {w0 with drawn:=w0.drawn+1}:=by
    refine⟨by simp,SU.size,ai,fun i o hi=> ?_,rfl,fun s hs=> ?_,h,?_,fun p it t hp=> ?_,fun x _ _=>hrep _,fun _ _ _=>lV,List.nodup_nil,fun i=> ?_,fun l hl=>(by cases hl),fun k x hk=>(by cases hk),fun k l j dk kv xv dl Xd aR hk=>(by cases hk),fun j hj=>(by cases hj)⟩
    · rw [hrep] at hi;cases hi
    · have hz:∀k,Dy ops (fun j=>(Array.replicate ops.size false).getD j false) s k=none:=by
        intro k;induction k with
        |zero=>rfl
        | succ k ih=>
          simp only [hrep] at ih
          simp only [Dy,hrep,Bool.false_and,Bool.false_eq_true,if_false];exact ih
      simp only [Qh,hz]
    · exact(Xe.heap (w':={w0 with drawn:=w0.drawn+1}) rfl rfl rfl).perm (by simp [Hx])
    · simp at hp
    · simp
  obtain⟨pre',post',val',own',an',en',pl',YC,Of⟩:=advance ho h0;refine wpAnyIn_sound ops.size t' (Array.replicate ops.size false) a0 _ (key ops.size _ a0 _ ⟨pre',post',val',own',an',en',_,_,pl',YC,Of⟩ ?_);have:∀k,I2 (Array.replicate ops.size false) k=0:=by
    intro k;unfold I2;rw [List.length_eq_zero_iff,List.filter_eq_nil_iff];intro i _;simp [hrep]
  rw [this];omega
end
end Go.SL
