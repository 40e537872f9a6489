
import Derived.Test.YtcnmnmjmpocepaaGreatDoorU03
import Derived.RangeFuncRecord
import Derived.Laws.StructEq
import Derived.RowKit3
import Derived.Deep.Slices
import Derived.WideKeyArgs
import Derived.ProofKit
import Derived.OpenShut
set_option linter.unusedVariables false
set_option linter.unusedSimpArgs false
set_option linter.unusedSectionVars false
set_option maxRecDepth 100000
set_option maxHeartbeats 16000000
section
namespace Go.SL
def YT(P:Program)(L:Nat)(args:List Value)(H:B6)(R:Value->B6->Prop):Prop:=
  ∀ w X,Sat (H::X) w->∃f tmps assign body,(Instr.yield L args.toArray).run P w= .ok (.round L f tmps assign body) w/\
    ∀r,RoundIn (Np r) 0 P L f tmps assign body w fun e K9=>∃v H',e= .returned v/\Sat (H'::X) K9/\R v H'
def Iter(P:Program)(f:FuncId)(first captured:List Value)(hs:List B6)(xs:List (List Value)):Prop:=
  ∀ (L:Nat) (J:Nat->B6->Prop) (Jx:B6->Prop),
    (∀k x H,xs[k]?=some x->J k H->YT P L x H fun v H'=>(v= .bool true/\J (k+1) H')∨(v= .bool false/\Jx H'))->
    ∀H,J 0 H->T P f (first++ [.func (.yield L) #[] #[]]++captured) (H::hs) fun e own'=>e= .returned (.tuple #[])/\∃H',own'=H'::hs/\(J xs.length H'∨Jx H')
theorem Kj{P:Program}{n:Nat}{env:Env}{a:Act}{o:Oper}{c:Call}{x:Operand}{L:Nat}{vs:List Value}(ha:Has n env a)
    (ho:o.op= .call c) (hc:c.callee= .value x) (hx:ev env x=some (.func (.yield L) #[] #[])) (IV:MU env c.args.toList=some vs) (w:World):
    (execOp a.eval o).run P w=(Instr.yield L vs.toArray).run P w:=by
  have h1:c.args.map a.eval=vs.toArray:=Array.ext' (by simpa using JC ha IV);simp only [execOp,ho,resolve,hc,ha.eval hx,h1,Deferred.ofValue];simp [invoke]
theorem P2{P:Program}{n:Nat}{env:Env}{o:Oper}{c:Call}{x:Operand}{L:Nat}{vs:List Value}{H:B6}{R:Value->B6->Prop}
    (ho:o.op= .call c) (hc:c.callee= .value x) (hx:ev env x=some (.func (.yield L) #[] #[])) (IV:MU env c.args.toList=some vs) (h:YT P L vs H R):
    DS P [H] n o env fun v own'=>∃H',own'= [H']/\R v H':=by
  refine⟨by rw [ho];rfl,fun a w X ha hs=> ?_⟩;obtain⟨f,tmps,assign,body,h1,h2⟩:=h w X hs;refine⟨w,.inr (.inr (.inr ⟨L,f,tmps,assign,body,(Kj ha ho hc hx IV w).trans h1,fun r=>(h2 r).mono ?_⟩))⟩;rintro e K9 ⟨v,H',he,s,hR⟩;exact⟨v,[H'],he,s,H',rfl,hR⟩
theorem Sx{P:Program}{n:Nat}{env:Env}{o:Oper}{c:Call}{x:Operand}{f:FuncId}{first captured:Array Value}{vs EL:List Value}{hs:List B6}{R:Value->List B6->Prop} [Enters P f]
    (ho:o.op= .call c) (hc:c.callee= .value x) (hx:ev env x=some (.func (.func f) first captured)) (IV:MU env c.args.toList=some vs)
    (Et:JK first.toList vs captured.toList=some EL) (h:T P f EL hs fun e own'=>∃v,e= .returned v/\R v own'):
    DS P hs n o env R:=by
  refine⟨by rw [ho];rfl,fun a w X ha hs=> ?_⟩;refine⟨w,.inr (.inr (.inl ⟨f,_,Li ha ho hc hx IV w,?_⟩))⟩;have e:first++vs.toArray++captured=EL.toArray:=by rw [<-Nq Et];simp
  rw [e];refine(h w X hs).mono ?_;rintro e K9 ⟨own',s,v,he,hR⟩;exact⟨v,own',he,s,hR⟩
def Ht:List B6->List B6->Option (List B6)
  | [],b=>some b
  |v::r,b=>match Ht r b with|some l=>some (v::l)|none=>none
theorem Fk:∀ {a b l:List B6},Ht a b=some l->l=a++b:=by
  intro a;induction a with
  |nil=>intro b l h;cases h;rfl
  | cons v r ih=>
    intro b l h;simp only [Ht] at h
    cases e:Ht r b with
    |none=>rw [e] at h;cases h
    |some l'=>rw [e] at h;cases h;rw [ih e];rfl
section
variable {P:Program} {r:Option Nat} {F:B6} {n:Nat} {Q:C4} {env:Env} {own rest hs Hn Fg:List B6} {ds:List Deferred} {all:Array Oper} {l:List Oper} {o:Oper} {id:Nat}
theorem KB{d:Nat}{R:Value->List B6->Prop}(hd:o.dst=some d)(hn:Nat.blt d n=true)(hg:Cy all env o=some true) [t:C1 own hs rest](h:DS P hs n o env R)
    (hr:∀v own',R v own'->∃CN,Ht own' rest=some CN/\C6 false P r F n all l Q ((d,v)::env) CN ds):C6 false P r F n all (o::l) Q env own ds:=fun k hk=>by
  obtain⟨i,k',rfl,hi,Mm⟩:=VP hk;intro a w ha MO hs';rw [wpOpsIn_cons];have pp:(F::own).Perm (hs++(rest++ [F])):=(List.perm_append_comm (l₁:= [F]) (l₂:=own)).trans (by rw [<-List.append_assoc];exact t.perm.append_right [F]);refine Ys h hi (DH ha hg) ha rfl (hs'.perm pp) fun v own' w' hR s=> ?_
  rw [hd];obtain⟨CN,e2,h2⟩:=hr v own' hR;rw [Fk e2] at h2
  exact h2 k' Mm _ w' (ha.put v (Nat.le_of_ble_eq_true hn)) MO (s.perm (by rw [<-List.append_assoc];exact List.perm_append_comm (l₁:=own'++rest) (l₂:= [F])))
def NS(all:Array Oper):List Nat->Option (List Oper)
  | []=>some []
  | i ::l=>match all[i]? with
    | some o=>match NS all l with
      |some r=>some (o::r)
      |none=>none
    |none=>none
theorem NQ{all:Array Oper}:∀ {l:List Nat} {r:List Oper},NS all l=some r->l.map (fun i=>all[i]?)=r.map some:=by
  intro l;induction l with
  |nil=>intro r h;cases h;rfl
  | cons i l ih=>
    intro r h;simp only [NS] at h
    cases h1:all[i]? with
    |none=>rw [h1] at h;cases h
    | some o=>
      rw [h1] at h
      cases h2:NS all l with
      |none=>rw [h2] at h;cases h
      |some r'=>rw [h2] at h;cases h;simp [h1,ih h2]
def fB(all:Array Oper)(n:Nat):Bool:=all.toList.all fun o=>match o.dst with|some d=>Nat.blt d n|none=>true
theorem WV{all:Array Oper}{n:Nat}(h:fB all n=true):∀(i d:Nat),(all[i]?).bind (·.dst)=some d->d<n:=by
  intro i d hd;cases hi:all[i]? with
  |none=>rw [hi] at hd;cases hd
  | some o=>
    rw [hi] at hd
    have hm:o∈all:=by rw [Array.mem_iff_getElem?];exact⟨i,hi⟩
    have:=List.all_eq_true.1 h o (by simpa using hm);simp only [Option.bind_some] at hd
    rw [hd] at this
    exact Nat.le_of_ble_eq_true this
theorem Mc{K K':Env->Prop}(hk:∀env,K env->K' env):∀ {l:List Nat} {env:Env},Mz P F n all own K l env->Mz P F n all own K' l env:=by
  intro l;induction l with
  |nil=>intro env h;exact hk _ h
  | cons i l ih=>
    intro env h;simp only [Mz] at h ⊢
    obtain⟨o,v,h1,h2,h3,h4⟩:=h;exact⟨o,v,h1,h2,h3,ih h4⟩
end
def LQ:List Nat->List Value->Env->Env
  |t::ts,v::vs,env=>LQ ts vs ((t,v)::env)
  |_,_,env=>env
def To:List Nat->List Value->Env->Option Env
  |t::ts,v::vs,env=>To ts vs ((t,v)::env)
  |_,_,env=>some env
theorem OJ:∀ {ts:List Nat} {vs:List Value} {env env':Env},To ts vs env=some env'->env'=LQ ts vs env:=by
  intro ts;induction ts with
  |nil=>intro vs env env' h;cases h;rfl
  | cons t ts ih=>intro vs env env' h;cases vs with
    |nil=>cases h;rfl
    |cons v vs=>exact ih h
theorem Gz{n:Nat}{env:Env}{a:Act}(h:Has n env a){ds:List Deferred}:Has n env {tmps:=a.tmps,defers:=ds}:=⟨h.size,h.get⟩
theorem YE{n:Nat}:∀ {ps:List Nat} {vs:List Value} {env:Env} {tmps:Array Value},(∀p∈ps,p<n)->Has n env {tmps:=tmps,defers:= []}->
    Has n (LQ ps vs env) {tmps:=(ps.zip vs).foldl (fun tmps (t,a)=>tmps.setIfInBounds t a) tmps,defers:= []}:=by
  intro ps;induction ps with
  |nil=>intro vs env tmps _ h;simpa [LQ] using h
  | cons p ps ih=>
    intro vs env tmps hp h;cases vs with
    |nil=>simpa [LQ] using h
    | cons v vs=>
      simp only [LQ,List.zip_cons_cons,List.foldl_cons];refine ih (fun q hq=>hp q (List.mem_cons_of_mem _ hq)) ?_;have:=h.put (d:=p) v (hp p (List.mem_cons_self ..));exact this
def KY(J:List B6->Prop)(Jx:Code->List B6->Prop):C4
  | .normal,_,own,_=>∃own',(∀F w,Sat (F::own) w->Sat (F::own') w)/\J own'
  | .ret,_,own,_=>∃own',(∀F w,Sat (F::own) w->Sat (F::own') w)/\Jx .ret own'
  | .exit id,_,own,_=>∃own',(∀F w,Sat (F::own) w->Sat (F::own') w)/\Jx (.exit id) own'
  |_,_,_,_=>False
theorem NA{own hs rest:List B6} [t:C1 own hs rest](F:B6)(w:World)(s:Sat (F::own) w):Sat (F::hs) w:=(s.perm (t.perm.cons F)).sub (List.Sublist.cons_cons F (List.sublist_append_left _ _))
theorem JQ{J:List B6->Prop}{Jx:Code->List B6->Prop}{env:Env}{own rest:List B6}{ds:List Deferred}(hs:List B6) [t:C1 own hs rest](h:J hs):KY J Jx .normal env own ds:=⟨hs,NA,h⟩
theorem Is{J:List B6->Prop}{Jx:Code->List B6->Prop}{env:Env}{own rest:List B6}{ds:List Deferred}(hs:List B6) [t:C1 own hs rest](h:Jx .ret hs):KY J Jx .ret env own ds:=⟨hs,NA,h⟩
theorem Le{b:Nat}{o o':Obj}{hs:List B6}{w:World}(s:Sat (Co b o::hs) w)(hz:∀off,Ou o' off=Ou o off):Sat (Co b o'::hs) (w.putObj b o'):=by
  have hb:w.heap[b]?=some o:=s.at (List.mem_cons_self ..) (CT _ _);exact s.put (World.putObj_heap_same (Array.getElem?_eq_some_iff.1 hb).1) rfl rfl (fun k hk=>World.putObj_heap_other hk) hz
theorem Ss(r:Option Nat)(L:Nat):(Np r).inRound L=Np (some L):=by cases r <;>rfl
section
variable {P:Program} {F:B6} {n:Nat} {Q:C4} {env:Env} {own rest hsI:List B6} {ds:List Deferred} {assign body:Code}
theorem Nu{L:Nat}{rc:Loop}{x:List Value}{own1:List B6}{K:List B6->Prop}{Kx:Code->List B6->Prop}
    (hh:Has n env {tmps:=rc.tmps,defers:= []}) (hp:∀p∈rc.params.toList,p<n) (hl:x.length=rc.params.size) (FB:rc.state= .ready)
    (hd:(Co L (.loop rc)::own1).Pairwise DM)
    (hr:∀F,Db P (some L) F n rc.assign (Qj (fun ID CN ax=>∀F2,Db P (some L) F2 n rc.body (KY K Kx) ID CN ax) fun _ _ _ _=>False) (LQ rc.params.toList x env) own1 []):
    YT P L x (CB (Co L (.loop rc)::own1)) fun v H'=>
      (v= .bool true/\∃CN,(Co L (.loop {rc with state:= .ready,pending:=none})::CN).Pairwise DM/\H'=CB (Co L (.loop {rc with state:= .ready,pending:=none})::CN)/\K CN)∨
      (v= .bool false/\∃c CN,(Co L (.loop {rc with state:= .done,pending:=some c})::CN).Pairwise DM/\H'=CB (Co L (.loop {rc with state:= .done,pending:=some c})::CN)/\Kx c CN):=by
  intro w X s;have s1:Sat ((Co L (.loop rc)::own1)++X) w:=s.Hl hd;have hL:w.heap[L]?=some (.loop rc):=s1.at (List.mem_cons_self ..) (CT _ _);refine⟨rc.fn,_,rc.assign,rc.body,run_yield hL (by simpa using hl),fun r=>roundIn_of_wpIn Ak ?_⟩;rw [Ss];have s2:Sat (CB (Co L (.loop rc)::X)::own1) w:=by
    refine Sat.CB (hs:=Co L (.loop rc)::X) (s1.perm ?_);exact(List.perm_append_comm (l₁:=own1) (l₂:=X)).cons _
  have hpX:(Co L (.loop rc)::X).Pairwise DM:=(s1.sub (List.Sublist.cons_cons _ (List.sublist_append_right _ _))).dj;have ha:Has n (LQ rc.params.toList x env) {tmps:=(rc.params.zip x.toArray).foldl (fun tmps (t,a)=>tmps.setIfInBounds t a) rc.tmps,defers:= []}:=by
    have:=YE (vs:=x) hp hh;rw [<-Array.foldl_toList,Array.toList_zip];exact this
  refine wpIn_mono (hr _ _ w ha rfl s2) fun e UO OY ⟨he,ID,CN,h1,h2,h3⟩=> ?_
  cases e with
  | normal=>
    have s3:Sat (Co L (.loop rc)::(X++CN)) OY:=h2.Hl hpX;have hL1:OY.heap[L]?=some (.loop rc):=s3.at (List.mem_cons_self ..) (CT _ _);refine⟨_,run_beginRound hL1 FB,?_⟩;have s4:Sat (Co L (.loop {rc with state:= .busy})::(X++CN)) (OY.putObj L (.loop {rc with state:= .busy})):=Le s3 (fun _=>rfl);have hpX':(Co L (.loop {rc with state:= .busy})::X).Pairwise DM:=(s4.sub (List.Sublist.cons_cons _ (List.sublist_append_left _ _))).dj;have s5:Sat (CB (Co L (.loop {rc with state:= .busy})::X)::CN) (OY.putObj L (.loop {rc with state:= .busy})):=Sat.CB (hs:=Co L _::X) s4;refine wpIn_mono (h3 _ UO _ h1 rfl s5) fun e mM Xj ⟨he,env3,T1,g1,g2,g3⟩=> ?_
    have key:∀T1,Sat (CB (Co L (.loop {rc with state:= .busy})::X)::T1) Xj->∀o',(∀off,Ou o' off=false)->Xj.heap[L]?=some (.loop {rc with state:= .busy})/\Sat ((Co L o'::T1)++X) (Xj.putObj L o'):=fun T1 g2 o' hz=>by
      have s6:Sat (Co L (.loop {rc with state:= .busy})::(X++T1)) Xj:=g2.Hl hpX';exact⟨s6.at (List.mem_cons_self ..) (CT _ _),(Le s6 hz).perm ((List.perm_append_comm (l₁:=X) (l₂:=T1)).cons _)⟩
    have stop:∀c,(∃own',(∀F w,Sat (F::T1) w->Sat (F::own') w)/\Kx c own')->∃v w',(Instr.endRound L (some c)).run P Xj= .ok v w'/\∃v',∃H',Ending.returned v= .returned v'/\Sat (H'::X) w'/\
        ((v'= .bool true/\∃CN,(Co L (.loop {rc with state:= .ready,pending:=none})::CN).Pairwise DM/\H'=CB (Co L (.loop {rc with state:= .ready,pending:=none})::CN)/\K CN)∨
        (v'= .bool false/\∃c CN,(Co L (.loop {rc with state:= .done,pending:=some c})::CN).Pairwise DM/\H'=CB (Co L (.loop {rc with state:= .done,pending:=some c})::CN)/\Kx c CN)):=fun c ⟨T0,hw,hc⟩=>by
      have fin:=(key T0 (hw _ _ g2) (.loop {rc with state:= .done,pending:=some c}) (fun _=>rfl)).2;exact⟨_,_,run_endRound (some c) (key T0 (hw _ _ g2) (.loop rc) (fun _=>rfl)).1,_,_,rfl,Sat.CB (ks:=X) fin,.inr ⟨rfl,c,T0,(fin.sub (List.sublist_append_left _ _)).dj,rfl,hc⟩⟩
    cases e with
    | normal=>
      obtain⟨T0,hw,hc⟩:=g3;have fin:=(key T0 (hw _ _ g2) (.loop {rc with state:= .ready,pending:=none}) (fun _=>rfl)).2;exact⟨_,_,run_endRound none (key T0 (hw _ _ g2) (.loop rc) (fun _=>rfl)).1,_,_,rfl,Sat.CB (ks:=X) fin,.inl ⟨rfl,T0,(fin.sub (List.sublist_append_left _ _)).dj,rfl,hc⟩⟩
    |ret=>exact stop _ g3
    |exit id=>exact stop _ g3
    |goto _=>exact g3.elim
    |panic _=>exact g3.elim
    |outgrown=>exact g3.elim
  |outgrown=>exact absurd rfl he
  |ret=>exact h3.elim
  |exit _=>exact h3.elim
  |goto _=>exact h3.elim
  |panic _=>exact h3.elim
theorem VR{g:Operand}{ps:Array Tmp}{f:FuncId}{first captured:Array Value}{xs:List (List Value)} [he:Enters P f] [t:C1 own hsI rest]
    (J:Nat->List B6->Prop) (Jx:Code->List B6->Prop)
    (hg:ev env g=some (.func (.func f) first captured)) (hI:Iter P f first.toList captured.toList hsI xs)
    (Zk:ps.toList.all (fun p=>Nat.blt p n)=true) (lM:∀x∈xs,x.length=ps.size) (h0:J 0 rest)
    (KN:∀L k x own1,xs[k]?=some x->J k own1->∀F,∃JE,To ps.toList x env=some JE/\Db P (some L) F n assign (Qj (fun ID CN ax=>∀F2,Db P (some L) F2 n body (KY (J (k+1)) Jx) ID CN ax) fun _ _ _ _=>False) JE own1 [])
    (Jz:∀D own1,J xs.length own1->∃CN,Ht own1 hsI=some CN/\Q .normal env (Co D (.deferred (some []))::CN) (mark D::ds))
    (Jv:∀D c own1,Jx c own1->∃CN,Ht own1 hsI=some CN/\Db P none F n c Q env (Co D (.deferred (some []))::CN) (mark D::ds)):
    Db P none F n (.rangeFunc g ps assign body) Q env own ds:=by
  have KN:∀L k x own1,xs[k]?=some x->J k own1->∀F,Db P (some L) F n assign (Qj (fun ID CN ax=>∀F2,Db P (some L) F2 n body (KY (J (k+1)) Jx) ID CN ax) fun _ _ _ _=>False) (LQ ps.toList x env) own1 []:=fun L k x own1 hx hJ F=>by
    obtain⟨JE,e,h⟩:=KN L k x own1 hx hJ F;rw [OJ e] at h;exact h
  have Jz:∀D own1,J xs.length own1->Q .normal env (Co D (.deferred (some []))::(own1++hsI)) (mark D::ds):=fun D own1 hJ=>by
    obtain⟨CN,e,h⟩:=Jz D own1 hJ;rw [Fk e] at h;exact h
  have Jv:∀D c own1,Jx c own1->Db P none F n c Q env (Co D (.deferred (some []))::(own1++hsI)) (mark D::ds):=fun D c own1 hJ=>by
    obtain⟨CN,e,h⟩:=Jv D c own1 hJ;rw [Fk e] at h;exact h
  intro a w ha hd hs;refine wpIn_rangeFunc fun fn _=> ?_
  let L:=w.heap.size+1
  let rc:Loop:={state:= .ready,pending:=none,fn,tmps:=a.tmps,params:=ps,assign,body,defers:=w.heap.size}
  let xv:Value:= .func (.yield L) #[] #[]
  let w1:=(w.alloc (.deferred (some []))).alloc (.loop rc)
  have LA:(resolve a.eval (rangeCall g L) 0).run P w1= .ok {target:= .fn (.func f) captured,args:=first++ #[xv]} w1:=by
    simp only [resolve,ha.eval hg,Deferred.ofValue,Sem.run_pure];simp [Act.eval,xv]
  have hinv:(invoke (.fn (.func f) captured) (first++ #[xv])).run P w1= .ok (.enter f (first++ #[xv]++captured)) w1:=he.run _ _;refine⟨L,[SL.mark w.heap.size],w1,{target:= .fn (.func f) captured,args:=first++ #[xv]},w1,f,first++ #[xv]++captured,w1,run_enterLoop_outer fn a.tmps ps assign body,LA,fun _ _=>by simp,hinv,fun hx=>by simp at hx,E8 _ ?_⟩;have e:first++ #[xv]++captured=(first.toList++ [xv]++captured.toList).toArray:=by apply Array.ext';simp
  rw [e];have sD:Sat (Co w.heap.size (.deferred (some []))::F::own) (w.alloc (.deferred (some []))):=D4 hs _ (fun _=>rfl);have sL:Sat (Co L (.loop rc)::Co w.heap.size (.deferred (some []))::F::own) w1:=by
    have:=D4 sD (.loop rc) (fun _=>rfl);rw [World.size_alloc] at this;exact this
  have sA:Sat ((Co L (.loop rc)::rest)++(hsI++ [Co w.heap.size (.deferred (some [])),F])) w1:=by
    refine sL.perm ((?_:List.Perm _ _).cons _);refine((t.perm.cons F).cons _).trans ?_;have p1:(Co w.heap.size (.deferred (some []))::F::(hsI++rest)).Perm ((hsI++rest)++ [Co w.heap.size (.deferred (some [])),F]):=List.perm_append_comm (l₁:= [Co w.heap.size (.deferred (some [])),F]) (l₂:=hsI++rest);refine p1.trans ?_;have p2:(hsI++rest).Perm (rest++hsI):=List.perm_append_comm;simpa [List.append_assoc] using p2.append_right [Co w.heap.size (.deferred (some [])),F]
  let lr:Loop->B6:=fun r=>Co L (.loop r)
  let JJ:Nat->B6->Prop:=fun k H=>∃own1,(lr rc::own1).Pairwise DM/\H=CB (lr rc::own1)/\J k own1
  let JX:B6->Prop:=fun H=>∃c own1,(lr {rc with state:= .done,pending:=some c}::own1).Pairwise DM/\H=CB (lr {rc with state:= .done,pending:=some c}::own1)/\Jx c own1
  have hpn:∀p∈ps.toList,p<n:=fun p hp=>Nat.le_of_ble_eq_true (List.all_eq_true.1 Zk p hp)
  have hT:=hI L JJ JX (fun k x H hx hJ=>by
    obtain⟨own1,IW,rfl,hJ⟩:=hJ;exact Nu (rc:=rc) (Gz ha) hpn (lM x (List.mem_of_getElem? hx)) rfl IW (KN L k x own1 hx hJ)) _ ⟨rest,(sA.sub (List.sublist_append_left _ _)).dj,rfl,h0⟩
  refine(hT w1 [Co w.heap.size (.deferred (some [])),F] (by simpa using sA.CB)).mono ?_;rintro e w3 ⟨own',s3,rfl,H',rfl,hJ⟩;have done:∀(r3:Loop) own1,(lr r3::own1).Pairwise DM->H'=CB (lr r3::own1)->r3.state≠ .busy->
      ∃w4,(Instr.endLoop L).run P w3= .ok r3.pending w4/\Sat (F::(Co w.heap.size (.deferred (some []))::(own1++hsI))) w4:=by
    rintro r3 own1 IW rfl FB;have s4:Sat (lr r3::(own1++(hsI++ [Co w.heap.size (.deferred (some [])),F]))) w3:=by
      have:Sat (CB (lr r3::own1)::(hsI++ [Co w.heap.size (.deferred (some [])),F])) w3:=by simpa using s3
      simpa using this.Hl IW
    have hL3:w3.heap[L]?=some (.loop r3):=s4.at (List.mem_cons_self ..) (CT _ _);refine⟨_,run_endLoop hL3 FB,?_⟩;have s5:=(Le (o':= .loop {r3 with state:= .exhausted}) s4 (fun _=>rfl)).tail;refine s5.perm ?_;have p1:((own1++hsI)++ [Co w.heap.size (.deferred (some [])),F]).Perm ([F,Co w.heap.size (.deferred (some []))]++(own1++hsI)):=
      List.perm_append_comm.trans ((List.Perm.swap F _ []).append_right _)
    simpa [List.append_assoc] using p1
  rcases hJ with ⟨own1,IW,hH,hJ⟩|⟨c,own1,IW,hH,hJ⟩
  · obtain⟨w4,h1,h2⟩:=done rc own1 IW hH (by simp [rc]);refine⟨none,w4,h1,?_⟩;exact GR.mk (ds:=SL.mark w.heap.size::ds) Ak (Gz ha) (by simp [hd]) h2 (Jz _ _ hJ)
  · obtain⟨w4,h1,h2⟩:=done _ own1 IW hH Ak;refine⟨some c,w4,h1,?_⟩;exact Jv _ _ _ hJ _ w4 (Gz ha) (by simp [hd]) h2
end
end Go.SL
end
section
namespace Go.SL
section
variable {P:Program} {r:Option Nat} {F:B6} {n:Nat} {Q:C4} {env:Env} {own rest hs own':List B6} {ds:List Deferred}
theorem CH{S:Type}(E:S->Env)(O:S->List B6)(I:S->Prop)(μ:S->Nat){c:Code}(s0:S) [t:C1 own (O s0) rest]
    (he:Sub (E s0) env) (hI:I s0)
    (round:∀s,I s->Db P r F n c (Qj (fun env' own' ay=>ay=ds/\∃s',(Sub (E s') env'/\∀w,Sat (F::own') w->Sat (F::O s') w)/\I s'/\μ s'<μ s) Q) (E s) (O s) ds):
    Db P r F n (.loop c) Q env own ds:=by
  refine Db.weaken (env':=E s0) (own':=O s0) he (fun w s=>(s.perm (t.perm.cons F)).sub (List.Sublist.cons_cons F (List.sublist_append_left _ _))) ?_;refine Xt (fun env own m=>∃s,env=E s/\own=O s/\m=μ s/\I s) (μ s0) ?_ ⟨s0,rfl,rfl,rfl,hI⟩;rintro env own m ⟨s,rfl,rfl,rfl,hs⟩;refine(round s hs).mono fun e env own ds h=> ?_
  cases e with
  | normal=>
    obtain⟨h1,s',⟨h2,h3⟩,h4,h5⟩:=h;exact⟨h1,E s',O s',μ s',h5,h2,h3,s',rfl,rfl,rfl,h4⟩
  |_=>exact h
theorem CA{E:Env}{O:List B6} [t:C1 own O rest](h:Sub E env):Sub E env/\∀w,Sat (F::own) w->Sat (F::O) w:=
  ⟨h,fun _ s=>(s.perm (t.perm.cons F)).sub (List.Sublist.cons_cons F (List.sublist_append_left _ _))⟩
theorem DY{c:Code}(h:Db P r F n c Q env (emp::own) ds):Db P r F n c Q env own ds:=fun a w ha hd s=>by
  have:Sat (emp::F::own) w:=⟨fun h hh=>by
    rcases List.mem_cons.1 hh with rfl|hh
    · intro b o e;cases e
    · exact s.le h hh,List.pairwise_cons.2 ⟨fun _ _ _ _ _ e _=>(by cases e),s.dj⟩⟩
  exact h a w ha hd this.swap
theorem B9{all:Array Oper}{l:List Oper}{o:Oper}{c:Call}{x:Operand}{f:FuncId}{first captured:Array Value}{vs EL:List Value}{R:Ending->List B6->Prop} [Enters P f] [t:C1 own hs rest]{d:Nat}
    (hd:o.dst=some d) (hn:Nat.blt d n=true) (hg:Cy all env o=some true)
    (ho:o.op= .call c) (hc:c.callee= .value x) (hx:ev env x=some (.func (.func f) first captured)) (IV:MU env c.args.toList=some vs)
    (Et:JK first.toList vs captured.toList=some EL) (h:T P f EL hs R)
    (hr:∀e own',R e own'->∃v CN,e= .returned v/\Ht own' rest=some CN/\C6 false P r F n all l Q ((d,v)::env) CN ds):
    C6 false P r F n all (o::l) Q env own ds:=
  Ev hd hn hg ho hc hx IV Et h fun e own' hR=>by
    obtain⟨v,CN,h1,h2,h3⟩:=hr e own' hR;exact .inl ⟨v,h1,by rw [<-Fk h2];exact h3⟩
instance Sl.none{h:B6}:Sl h none []:=⟨fun k v hk=>by cases hk⟩
theorem Gd{fn:Func}{own1:List B6}(hs:List B6){v:Value}{Q:Ending->List B6->Prop} [m:Marks ds own own1](hr:Hj P fn.results.toList own1 env n v)
    (hw:∀F w,Sat (F::own1) w->Sat (F::hs) w) (hq:Q (.returned v) hs):Kr P fn n Q .ret env own ds:=⟨v,own1,hs,m,hr,hw,hq⟩
end
end Go.SL
end
section
namespace Go.SL
def fA:Nat->Value->Value->Option Bool
  |0,.int k a,.int k' b=>if k=k' then some (decide (a=b)) else none
  |1,.bool a,.bool b=>some (a ==b)
  |2,.string a,.string b=>some (a.toList ==b.toList)
  |_,_,_=>none
def dX (xs ys:List Value):List (Nat×Nat)->Option Bool
  | []=>some true
  | (i, k)::r=>match nth xs i with
    | some a=>match nth ys i with
      | some b=>match fA k a b with
        | some e=>match dX xs ys r with
          |some e'=>some (e && e')
          |none=>none
        |none=>none
      |none=>none
    |none=>none
def Mt(P:Program)(t:TypeId):Nat:=match P.underlying t with
  |some (.int _)=>0
  |some .bool=>1
  |some .string=>2
  |_=>3
theorem ZL {P:Program}{t:TypeId}{d:Nat}{a b:Value}{e:Bool}(w:World)(h:fA (Mt P t) a b=some e):
    (Op.equalIn (d+1) t a b).run P w= .ok e w/\My ((P.underlying t).getD .bool)=false/\(P.underlying t).isSome=true:=by
  unfold Mt at h
  cases hu:P.underlying t with
  | none => rw [hu] at h;simp only at h;unfold fA at h;split at h <;>first|cases h|skip
            all_goals simp_all
  | some de=>
    rw [hu] at h
    cases de <;>simp only at h <;>unfold fA at h <;>split at h <;>simp_all
    all_goals first
      |(obtain⟨rfl,rfl⟩:=h;exact⟨run_equalIn_int w d t _ _ _ _ hu,rfl⟩)
      |(subst h;exact⟨run_equalIn_bool w d t _ _ hu,rfl⟩)
      |(subst h;exact⟨run_equalIn_string w d t _ _ hu,rfl⟩)
      |skip
theorem PC{P:Program}{t:TypeId}{xs:List Value}{off:Nat}{v:Value}(w:World)(h1:My ((P.underlying t).getD .bool)=false)(h2:(P.underlying t).isSome=true)(hx:nth xs off=some v):(part t ⟨xs⟩ off).run P w= .ok v w:=by
  rw [NY] at hx
  cases hu:P.underlying t with
  |none=>rw [hu] at h2;cases h2
  | some d=>
    rw [hu] at h1
    have I9:(⟨xs⟩:Array Value)[off]?=some v:=by simpa using hx
    cases d
    case struct=>cases h1
    case array=>cases h1
    all_goals simp [part,isAgg,run_underlying hu,hx]
theorem O5 {P:Program}(w:World)(d:Nat){xs ys:List Value}:∀(fs:List Field) (r:Bool),(∀f∈fs,f.name≠ "_")->dX xs ys (fs.map fun f=>(f.offset,Mt P f.type))=some r->
    (Op.eqFields (d+1) ⟨xs⟩ ⟨ys⟩ fs).run P w= .ok r w:=by
  intro fs;induction fs with
  |nil=>intro r _ h;cases h;simp [Op.eqFields]
  | cons f fs ih=>
    intro r hn h;simp only [List.map_cons,dX] at h
    cases h1:nth xs f.offset with
    |none=>rw [h1] at h;cases h
    | some a=>
      rw [h1] at h
      cases h2:nth ys f.offset with
      |none=>rw [h2] at h;cases h
      | some b=>
        rw [h2] at h
        cases h3:fA (Mt P f.type) a b with
        |none=>simp only [h3] at h;cases h
        | some e=>
          simp only [h3] at h
          cases h4:dX xs ys (fs.map fun f=>(f.offset,Mt P f.type)) with
          |none=>simp only [h4] at h;cases h
          | some e'=>
            simp only [h4,Option.some.injEq] at h
            subst h;obtain⟨g1,g2,g3⟩:=ZL (d:=d) w h3;have g4:=ih e' (fun g hg=>hn g (List.mem_cons_of_mem _ hg)) h4;simp only [Op.eqFields,hn f (List.mem_cons_self ..),ne_eq,not_false_eq_true,if_true,Sem.run_bind,PC w g2 g3 h1,PC w g2 g3 h2,g1,Result.andThen_ok];cases e
            · simp
            · simpa using g4
class gJ (P:Program) (t:TypeId) (ks:outParam (List (Nat×Nat))):Prop where
  u:P.underlying t=some (.struct (P.fieldsOf t))
  st:P.stoodInHeld t=false
  g:P.eqGuardType P.depth t=false
  nm:(P.fieldsOf t).toList.all (fun f=>f.name != "_")=true
  ks:(P.fieldsOf t).toList.map (fun f=>(f.offset,Mt P f.type))=ks
theorem gJ.run{P:Program}{t:TypeId}{ks:List (Nat×Nat)}(q:gJ P t ks){xs ys:List Value}{r:Bool}(h:dX xs ys ks=some r)(w:World):(Op.equal t (.agg ⟨xs⟩) (.agg ⟨ys⟩)).run P w= .ok r w:=by
  have h1:=run_equalIn_struct w 9999 t ⟨xs⟩ ⟨ys⟩ q.u q.st;refine h1.trans (O5 w 9998 _ r (fun f hf=> ?_) (by rw [q.ks];exact h));have:=List.all_eq_true.1 q.nm f hf;simpa using this
section
variable {P:Program} {own:List B6} {n:Nat} {env:Env} {o:Oper}
theorem Ga{t u:TypeId}{x y:Operand}{xs ys:List Value}{ks:List (Nat×Nat)}{r:Bool} [q:gJ P t ks](ho:o.op= .binOp .eql t x y u)(hx:ev env x=some (.agg ⟨xs⟩))(hy:ev env y=some (.agg ⟨ys⟩))(h:dX xs ys ks=some r):Dc P own n o env (.bool r):=
  De (by rw [ho];rfl) fun c w ha=>by
    have hg:(eqGuard .eql t x y (.agg ⟨xs⟩) (.agg ⟨ys⟩)).run P w= .ok () w:=by simp [eqGuard,q.g]
    simp only [execOp,ho,ha.eval hx,ha.eval hy];simp [hg,binOp,q.run h]
end
end Go.SL
end
section
namespace Go.SL
open Go.RowKit
def UZ(W w':World):Prop:=W.keptBut w' (fun _=>False)/\(∀a,a.block<W.heap.size->w'.frozen? a=W.frozen? a)/\W.heap.size≤w'.heap.size
theorem YH{w w':World}(h:hle (wh w) (wh w')):UZ w w':=by
  have hos:=h .os _ rfl;simp only [wh,Option.some.injEq,HV.os.injEq] at hos
  have hb:∀(i:Nat) o,w.heap[i]?=some o->w'.heap[i]?=some o:=fun i o hi=>MX.1 (h _ _ (MX.2 hi))
  refine⟨⟨hos.1,hos.2,fun i hi=> ?_⟩,fun a ha=> ?_,?_⟩
  · have h1:w.heap[i]?=some w.heap[i]:=Array.getElem?_eq_getElem hi;rw [hb i _ h1,h1];cases w.heap[i] <;>simp
  · have h2:wh w (.fz a.block)=some (.fz fun off=>w.frozen? ⟨a.block,off,none⟩):=by simp only [wh,if_pos ha]
    have:=h (.fz a.block) _ h2;simp only [wh] at this
    split at this
    · simp only [Option.some.injEq,HV.fz.injEq] at this
      have:=congrFun this a.off;simpa [World.frozen?] using this
    · cases this
  · rcases Nat.lt_or_ge w'.heap.size w.heap.size with Em|hge
    · have h1:w.heap[w'.heap.size]?=some w.heap[w'.heap.size]:=Array.getElem?_eq_getElem Em;have:=hb _ _ h1;simp at this
    · exact hge
theorem ZJ(w:World):Sat [wh w] w:=⟨fun h hh=>by rw [List.mem_singleton.1 hh];exact hle.refl _,List.pairwise_singleton _ _⟩
end Go.SL
end
section
namespace Go.SL
theorem wrap_u64(n:Nat):IntKind.u64.wrap (n:Int)=((n%2^64:Nat):Int):=by
  simp only [IntKind.wrap,IntKind.bits,IntKind.signed,Bool.false_and,Bool.false_eq_true,if_false]
  norm_cast
theorem Hu{n:Nat}(h:n<2^64):IntKind.u64.wrap (n:Int)=(n:Int):=by rw [wrap_u64,Nat.mod_eq_of_lt h]
theorem ZI{a:Nat}(b:Nat)(h:a<2^64):shr .u64 (a:Int) (b:Int)=((a >>>b:Nat):Int):=by
  have e:∀k:Nat,(a:Int).fdiv (2^k)=((a >>>k:Nat):Int):=fun k=>by
    rw [Int.fdiv_eq_ediv_of_nonneg _ (Int.le_of_lt (Int.pow_pos Ae)),Nat.shiftRight_eq_div_pow]
    norm_cast
  simp only [shr,IntKind.bits,Int.toNat_natCast];rw [e];by_cases hb:b≤64
  · rw [Nat.min_eq_left hb]
  · rw [Nat.min_eq_right Ab,Nat.shiftRight_eq_div_pow,Nat.shiftRight_eq_div_pow,Nat.div_eq_of_lt h,Nat.div_eq_of_lt (Nat.lt_of_lt_of_le h (Nat.pow_le_pow_right Ae Ab))]
theorem U8(a b:Nat):shl .u64 (a:Int) (b:Int)=((a <<<b%2^64:Nat):Int):=by
  simp only [shl,IntKind.bits,Int.toNat_natCast];have:(a:Int)*2^(min b 64)=((a*2^min b 64:Nat):Int):=by norm_cast
  rw [this,wrap_u64,Nat.shiftLeft_eq];by_cases hb:b≤64
  · rw [Nat.min_eq_left hb]
  · rw [Nat.min_eq_right Ab];have e:2^b=2^64*2^(b - 64):=by rw [<-Nat.pow_add];congr 1;omega
    rw [Nat.mul_mod_left,e,<-Nat.mul_assoc,Nat.mul_right_comm,Nat.mul_mod_left]
theorem PM(a:Nat):BitVec.ofInt 64 (a:Int)=BitVec.ofNat 64 a:=by simp
theorem XX{a b:Nat}(ha:a<2^64)(hb:b<2^64):OI .or .u64 (a:Int) (b:Int)=((a |||b:Nat):Int):=by
  show IntKind.u64.wrap (((BitVec.ofInt 64 (a:Int) |||BitVec.ofInt 64 (b:Int)).toNat:Nat):Int)=_;rw [Hu (BitVec.isLt _),PM,PM,BitVec.toNat_or,BitVec.toNat_ofNat,BitVec.toNat_ofNat,Nat.mod_eq_of_lt ha,Nat.mod_eq_of_lt hb]
end Go.SL
end
section
namespace Go.SL
class jg (P:Program) (t:TypeId) (n:outParam Nat) (e:outParam TypeId) (sz:outParam Nat):Prop where
  u:P.underlying t=some (.array n e)
  s:∀w,(sizeOf e).run P w= .ok sz w
theorem bY{P:Program}{t e:TypeId}{n sz:Nat}{i:TypeInfo}(h1:P.underlying t=some (.array n e))(h2:P.info? e=some i)(h3:i.size=sz):jg P t n e sz:=
  ⟨h1,fun w=>by rw [DO h2,h3]⟩
section
variable {P:Program} {own:List B6} {n:Nat} {env:Env} {o:Oper}
theorem Ix{t e:TypeId}{len sz:Nat}{x ix:Operand}{k:IntKind}{j:Int}{cs:List Value}{v:Value} [h1:jg P t len e sz] [h2:Zq P e](ho:o.op= .index t x ix)(hx:ev env x=some (.agg ⟨cs⟩))(hi:ev env ix=some (.int k j))
    (h0:0≤j) (Em:j<len) (hv:cs[j.toNat*sz]?=some v):Dc P own n o env v:=
  De (by rw [ho];rfl) fun a w ha=>by
    simp [execOp,ho,ha.eval hx,ha.eval hi,Instr.index,asIntOf,CL h1.u,h0,Em,h1.s,part,h2.run,hv]
theorem G1{t u:TypeId}{x y:Operand}{a b:Bool}(hu:P.underlying t=some .bool)(ho:o.op= .binOp .eql t x y u)(hx:ev env x=some (.bool a))(hy:ev env y=some (.bool b)):Dc P own n o env (.bool (a ==b)):=
  De (by rw [ho];rfl) fun c w ha=>by
    simp [execOp,ho,ha.eval hx,ha.eval hy,eqGuard,binOp,run_equal_bool w t a b hu]
end
section
variable {P:Program} {r:Option Nat} {F:B6} {n:Nat} {Q:C4} {env:Env} {own:List B6} {ds:List Deferred} {q:Bool} {all:Array Oper} {l:List Oper} {o:Oper}
theorem Ki{b:Bool}{d:Nat}(hd:o.dst=some d)(hn:Nat.blt d n=true)(hg:Cy all env o=some true)(hv:Dc P (F::own) n o env (.bool b))(hb:b=true)
    (h:C6 q P r F n all l Q ((d,.bool true)::env) own ds):C6 q P r F n all (o::l) Q env own ds:=by
  subst hb;exact Cq hd hn hg hv h
theorem XH{b:Bool}{d:Nat}(hd:o.dst=some d)(hn:Nat.blt d n=true)(hg:Cy all env o=some true)(hv:Dc P (F::own) n o env (.bool b))(hb:b=false)
    (h:C6 q P r F n all l Q ((d,.bool false)::env) own ds):C6 q P r F n all (o::l) Q env own ds:=by
  subst hb;exact Cq hd hn hg hv h
end
end Go.SL
end
section
namespace Go.SL
open Go.RowKit Go.ChangeShapes Go.WideShapes
theorem RH{w w':World}(h:hle (wh w) (wh w')){p:MemPlace}(hp:p.block<w.heap.size):w.sameAt w' p:=by
  have hb:w'.heap[p.block]?=w.heap[p.block]?:=by
    have h1:w.heap[p.block]?=some w.heap[p.block]:=Array.getElem?_eq_getElem hp;rw [h1];exact MX.1 (h _ _ (MX.2 h1))
  cases p with
  |cell b off=>simp only [World.sameAt,World.cell?];rw [show w'.heap[b]?=w.heap[b]? from hb]
  |map b=>exact hb
theorem Kg{H:Type}{enc:TypeId×Value->H}{P:Program}{w w':World}(hl:laidOutB P=true)(h:hle (wh w) (wh w')){sp:Nat->Bool}:
    ∀ {ts:List TypeId} {vs:List Value} {ds:List (DataW H)} {ps:List MemPlace},(∀t∈ts,P.readableRec t=true/\t<P.types.size)->DataW.TrodAll enc P w 0 (fun _=>true) true ts vs ds ps->
      (∀p∈ps,p.block<w.heap.size)->(∀p∈ps,sp p.block=true)->DataW.TrodAll enc P w' 0 sp true ts vs ds ps
  | [],[],[],_,_,h,_,_=>h
  | _ ::_,_::_,_::_,_,hT,⟨p,q,h1,h2,e⟩,Em,hs=>
    have g:=hT _ (List.mem_cons_self ..)
    ⟨p,q,WideElems.Trod_stays hl g.1 g.2 h1 (fun x hx=>RH h (Em x (by rw [e];exact List.mem_append_left _ hx))) (fun x hx=>hs x (by rw [e];exact List.mem_append_left _ hx)),
      Kg hl h (fun t ht=>hT t (List.mem_cons_of_mem _ ht)) h2 (fun x hx=>Em x (by rw [e];exact List.mem_append_right _ hx)) (fun x hx=>hs x (by rw [e];exact List.mem_append_right _ hx)),e⟩
def PE(P:Program)(ts:List TypeId):Bool:=laidOutB P && ts.all fun t=>P.readableRec t && Nat.blt t P.types.size
theorem UZ.frame{W w':World}(h:UZ W w')(p:MemPlace->Prop):W.keptBut w' p:=World.keptBut_mono (fun _ hf=>hf.elim) h.1
theorem O7{H:Type}{enc:TypeId×Value->H}{P:Program}{f:Func}{s:ChangeSpec}{apart fresh handsOn again:Bool}{W W':World}{args:Array Value}{v:Value}{ds gs:List (DataW H)}{before pa pv:List MemPlace}
    (hW:DataW.Whole enc P f.params.toList s.vars apart W args.toList ds gs before)
    (LA:∀(b:Nat) (sp:Nat->Bool) (hd:Bool),DataW.TrodAll enc P W' b sp hd f.resultTypes.toList (v.resultList f.resultTypes.size) (s.fn H (ds++gs)).results [])
    (bE:∀sp:Nat->Bool,(∀p∈before,sp p.block=true)->DataW.TrodAll enc P W' 0 sp true f.params.toList args.toList (s.fn H (ds++gs)).args pa)
    (a7:∀sp:Nat->Bool,(∀p∈before,sp p.block=true)->DataW.TrodVars enc P W' sp s.vars (s.fn H (ds++gs)).vars pv)
    (Zk:before=pa++pv) (hk:W.keptBut W' (· ∈before)) (gA:∀a,a.block<W.heap.size->W'.frozen? a=W.frozen? a)
    (Jf:∀(j:Nat) (t:TypeId) (r:Value),f.resultTypes[j]?=some t->(v.resultList f.resultTypes.size)[j]?=some r->Value.okWide P W' .any 0 t r):
    s.post enc P f apart fresh handsOn again W args v W':=by
  have hold:∀p∈before,(fun b=>decide (b<W.heap.size)) p.block=true:=fun p hp=>by simpa using hW.lt p hp
  have Em:∀b off,MemPlace.cell b off∈before->b<W.heap.size:=fun b off hp=>hW.lt _ hp
  refine⟨ds,gs,before,[],pa,pv,hW,LA _ _ _,bE _ hold,a7 _ hold,World.keptBut_mono (fun p hp=>⟨hp,?_⟩) hk,fun _=> ?_⟩
  · rw [Zk,List.mem_append] at hp
    exact Or.inr hp
  · obtain⟨_,_,_,_,_,hz,hn⟩:=hW;refine⟨Jf,_,_,([]++pa)++pv,⟨[]++pa,pv,trodAll_append (bE _ (fun _ _=>rfl)) (LA _ _ _),a7 _ (fun _ _=>rfl),rfl,?_,?_⟩,?_⟩
    · intro b off hp;have Xf:MemPlace.cell b off∈before:=by rw [Zk];simpa using hp
      rw [gA _ (Em b off Xf)];exact hz b off Xf
    · intro ha;have:=hn ha;rw [Zk] at this
      simpa using this
    · intro p hp _;rw [Zk];simpa using hp
theorem QR{H:Type}{enc:TypeId×Value->H}{P:Program}{f:Func}{s:ChangeSpec}{apart fresh handsOn again:Bool}{W W':World}{args:Array Value}{ds gs:List (DataW H)}{before p:List MemPlace}{bt:TypeId}
    (hW:DataW.Whole enc P f.params.toList s.vars apart W args.toList ds gs before) (hA:DataW.TrodAll enc P W 0 (fun _=>true) true f.params.toList args.toList ds p) (hp:before=p) (iN:gs= []) (hv:s.vars= [])
    (hs:s.fn H ds={results:= [.lit (.bool true)],args:=ds}) (hr:PE P f.params.toList=true) (LA:f.resultTypes= #[bt]) (hu:P.underlying bt=some .bool)
    (h:hle (wh W) (wh W')):s.post enc P f apart fresh handsOn again W args (.bool true) W':=by
  subst hp;subst iN;have hg:=YH h;simp only [PE,Bool.and_eq_true,List.all_eq_true] at hr
  refine O7 (pa:=before) (pv:= []) hW (fun b sp hd=> ?_) (fun sp eW=> ?_) (fun _ _=> ?_) Ak (hg.frame _) hg.2.1 ?_
  · rw [List.append_nil,hs,LA];exact trodAll_cons_mk (shut_bool hu _) trodAll_mk0
  · rw [List.append_nil,hs];exact Kg hr.1 h (fun t ht=>⟨(hr.2 t ht).1,Nat.le_of_ble_eq_true (hr.2 t ht).2⟩) hA (fun x hx=>hW.lt x hx) eW
  · rw [List.append_nil,hs,hv];rfl
  · exact ok_one LA rfl (okWide_bool_mk hu _)
theorem R3{P:Program}{w:World}{r:Reach}{base:Nat}{t:TypeId}{v:Value}{d:TypeDesc}(ht:P.underlying t=some d)(ha:My d=true)(h:Value.okWide P w r base t v):∃cs:List Value,v= .agg ⟨cs⟩:=by
  unfold Value.okWide at h
  rw [ht] at h
  cases d <;>simp only [My] at ha <;>first|cases ha|skip
  · obtain⟨cs,rfl, -⟩:=h;exact⟨cs.toList,rfl⟩
  · obtain⟨cs,rfl, -⟩:=h;exact⟨cs.toList,rfl⟩
theorem Ue{α:Type}{f:Nat->Option α}:∀ {n:Nat} {l:List α},(List.range n).mapM f=some l->l.length=n/\∀i,i<n->∃x,f i=some x/\l[i]?=some x:=by
  intro n;induction n with
  |zero=>intro l h;simp at h;subst h;exact⟨rfl,fun i hi=>absurd hi (Nat.not_lt_zero _)⟩
  | succ n ih=>
    intro l h;rw [List.range_succ,List.mapM_append] at h
    cases h1:(List.range n).mapM f with
    |none=>rw [h1] at h;simp at h
    | some l1=>
      cases h2:f n with
      |none=>rw [h1] at h;simp [h2] at h
      | some y=>
        rw [h1] at h;simp [h2] at h
        subst h;obtain⟨g1,g2⟩:=ih h1;refine⟨by simp [g1],fun i hi=> ?_⟩;by_cases e:i=n
        · subst e;exact⟨y,h2,by rw [List.getElem?_append_right Ab,g1];simp⟩
        · obtain⟨x,hx,hl⟩:=g2 i Ab;exact⟨x,hx,by rw [List.getElem?_append_left Ab];exact hl⟩
theorem Tm{w:World}{a:Addr}{n:Nat}{cs:List Value}(h:w.cells? 0 a n=some cs):cs.length=n/\∀i v,cs[i]?=some v->w.cell? (a.add i)=some v:=by
  unfold World.cells? at h
  rw [if_pos (Nat.zero_le _)] at h
  obtain⟨h1,h2⟩:=Ue h;refine⟨h1,fun i v hi=> ?_⟩;obtain⟨x,hx,hl⟩:=h2 i (by rw [<-h1];exact(List.getElem?_eq_some_iff.1 hi).1);rw [hi] at hl;cases hl;exact hx
theorem Qf{w:World}{a:Addr}{v:Value}(h:w.cell? a=some v):a.spot=none/\∃arr T fz,wh w (.b a.block)=some (.o (.cells arr T fz))/\arr[a.off]?=some v:=by
  unfold World.cell? at h
  cases hb:w.heap[a.block]? with
  |none=>rw [hb] at h;cases h
  | some o=>
    rw [hb] at h
    cases o with
    | cells c T fz=>
      simp only at h
      split at h
      · cases h
      · rename_i hs
        refine⟨?_,c,T,fz,MX.2 hb,h⟩;cases e:a.spot with
        |none=>rfl
        |some _=>rw [e] at hs;simp at hs
    |_=>cases h
theorem add_zero'(a:Addr):a.add 0=a:=by unfold Addr.add;rw [if_pos rfl]
theorem ZD {H :Type}{enc:TypeId×Value->H}{P:Program}{w:World}{sp:Nat->Bool}{held:Bool}{t e:TypeId}{sz fuel:Nat}{base:Option Addr}{len cap:Nat}{x:DataW H×List MemPlace}
    (ht:P.underlying t=some (.slice e)) (GH:P.cellsOf e=sz) (Gr:0<sz) (h:DataW.trod enc P w 0 sp held fuel t [.slice base len cap]=some x):
    ∃cs:List Value,cs.length=len*sz/\Sl (wh w) base cs/\len≤maxLen/\len≤cap/\∃n,∀i,i<len->∃y,DataW.trod enc P w 0 sp held n e ((cs.drop (i*sz)).take sz)=some y:=by
  rcases Deep.open_slice ht h with ⟨h0, -⟩|⟨a,len',E4,m,n,D,Pl,h0, -,hle,aj,hm, -,hel⟩
  · cases h0
    exact⟨[],by simp,⟨fun k v hk=>by cases hk⟩,Nat.zero_le _,Nat.zero_le _,0,fun i hi=>absurd hi (Nat.not_lt_zero _)⟩
  · cases h0
    have hlm:len≤m:=by rw [hm];split <;>omega
    rw [GH] at hel
    have hspot:0<len->a.spot=none:=fun h0=>by
      obtain⟨row,h1, -⟩:=hel 0 Ab;obtain⟨g1,g2⟩:=Tm h1;have:=g2 0 row[0] (by simp [g1,Gr]);rw [Nat.zero_mul,add_zero',add_zero'] at this
      exact(Qf this).1
    have Kc:∀i,i<len->∃row:List Value,row.length=sz/\(∀j v,row[j]?=some v->w.cell? (a.add (i*sz+j))=some v)/\∃y,DataW.trod enc P w 0 sp held n e row=some y:=fun i hi=>by
      obtain⟨row,h1,h2⟩:=hel i Ab;obtain⟨g1,g2⟩:=Tm h1;refine⟨row,g1,fun j v hj=> ?_,_,h2⟩;have:=g2 j v hj;have e1:(a.add (i*sz)).add j=a.add (i*sz+j):=by
        have OV:=hspot Ab;obtain⟨b,o,s⟩:=a;simp only at OV
        subst OV;rw [DX,DX,DX,Nat.add_assoc]
      rw [<-e1];exact this
    have key:∀k,k≤len->∃cs:List Value,cs.length=k*sz/\(∀j v,cs[j]?=some v->w.cell? (a.add j)=some v)/\∀i,i<k->∃y,DataW.trod enc P w 0 sp held n e ((cs.drop (i*sz)).take sz)=some y:=by
      intro k;induction k with
      |zero=>intro _;exact⟨[],by simp,fun j v hj=>(by cases hj),fun i hi=>absurd hi (Nat.not_lt_zero _)⟩
      | succ k ih=>
        intro hk;obtain⟨cs,g1,g2,g3⟩:=ih Ab;obtain⟨row,r1,r2,r3⟩:=Kc k Ab;refine⟨cs++row,by rw [List.length_append,g1,r1,Nat.add_mul,Nat.one_mul],fun j v hj=> ?_,fun i hi=> ?_⟩
        · rcases getElem?_tail hj with ⟨q1,q2⟩|⟨q1,q2⟩
          · exact g2 j v q2
          · have:=r2 _ v q2;rw [show k*sz+(j - cs.length)=j by omega] at this;exact this
        · by_cases e1:i=k
          · subst e1;rw [List.drop_append_of_le_length Ab,<-g1,List.drop_length,List.nil_append,List.take_of_length_le Ab];exact r3
          · obtain⟨y,hy⟩:=g3 i Ab;refine⟨y,?_⟩;have:i*sz+sz≤cs.length:=by
              have:(i+1)*sz≤k*sz:=Nat.mul_le_mul_right _ Ab;rw [Nat.add_mul,Nat.one_mul] at this;omega
            rw [List.drop_append_of_le_length Ab,List.take_append_of_le_length (by rw [List.length_drop];omega)];exact hy
    obtain⟨cs,g1,g2,g3⟩:=key len (Nat.le_refl _);refine⟨cs,g1,⟨fun k v hk=> ?_⟩,by omega,hle,n,g3⟩;have hc:=g2 k v hk;have Em:k<cs.length:=(List.getElem?_eq_some_iff.1 hk).1;have OV:=hspot (by
      rcases Nat.eq_zero_or_pos len with h|h
      · rw [h,Nat.zero_mul] at g1;omega
      · exact h)
    obtain⟨b,o,s⟩:=a;simp only at OV
    subst OV;rw [DX] at hc
    obtain⟨-,arr,T,fz,q1,q2⟩:=Qf hc;exact⟨⟨b,o,none⟩,arr,T,fz,rfl,rfl,q1,q2⟩
theorem IH{H:Type}{enc:TypeId×Value->H}{P:Program}{w:World}{sp:Nat->Bool}{held:Bool}{t e:TypeId}{k:IntKind}{fuel:Nat}{base:Option Addr}{len cap:Nat}{x:DataW H×List MemPlace}
    (ht:P.underlying t=some (.slice e)) (he:P.underlying e=some (.int k)) (GH:P.cellsOf e=1) (h:DataW.trod enc P w 0 sp held fuel t [.slice base len cap]=some x):
    ∃zs:List Int,zs.length=len/\Sl (wh w) base (zs.map (.int k))/\len≤maxLen/\len≤cap/\∀z∈zs,(Lit.int k z).wf=true:=by
  obtain⟨cs,h1,h2,h3,iK,n,h4⟩:=ZD ht GH Ae h;rw [Nat.mul_one] at h1
  have key:∀m,m≤len->∃zs:List Int,cs.take m=zs.map (.int k)/\∀z∈zs,(Lit.int k z).wf=true:=by
    intro m;induction m with
    |zero=>intro _;exact⟨[],by simp,fun z hz=>by cases hz⟩
    | succ m ih=>
      intro hm;obtain⟨zs,g1,g2⟩:=ih Ab;obtain⟨y,hy⟩:=h4 m Ab;rw [Nat.mul_one] at hy
      have Em:m<cs.length:=by omega
      have e1:(cs.drop m).take 1= [cs[m]]:=by rw [List.drop_eq_getElem_cons Em];rfl
      rw [e1] at hy
      obtain⟨z,cQ, -,eT⟩:=DataW.trod_int he hy;simp only [List.cons.injEq,and_true] at cQ
      refine⟨zs++ [z],?_,fun q hq=> ?_⟩
      · rw [List.take_add_one,List.getElem?_eq_getElem Em,g1,cQ];simp
      · rcases List.mem_append.1 hq with hq|hq
        · exact g2 q hq
        · rw [List.mem_singleton.1 hq];exact eT
  obtain⟨zs,g1,g2⟩:=key len (Nat.le_refl _);rw [List.take_of_length_le Ab] at g1
  refine⟨zs,?_,g1▸h2,h3,iK,g2⟩;have:=congrArg List.length g1;simp at this;omega
theorem C7.cf{P:Program}{f:FuncId}{args:List Value}{v:Value}(w:World)(h:C7 P f args [wh w] v):Calls P f args.toArray w fun e w'=>e= .returned v/\hle (wh w) (wh w'):=
  (h w [] (by simpa using ZJ w)).mono fun e w' ⟨own,s,he,ho⟩=>⟨he,by subst ho;exact s.le _ Ak⟩
theorem wf_u8{z:Int}(h:(Lit.int .u8 z).wf=true):∃n:Nat,z=n/\n<256:=by
  have e1:IntKind.u8.min=0:=rfl;have e2:IntKind.u8.max=255:=rfl;simp [Lit.wf,e1,e2] at h
  exact⟨z.toNat,by omega,by omega⟩
theorem wf_i64{z:Int}(h:(Lit.int .i64 z).wf=true): -9223372036854775808≤z/\z≤9223372036854775807:=by
  have e1:IntKind.i64.min= -9223372036854775808:=rfl;have e2:IntKind.i64.max=9223372036854775807:=rfl;simp [Lit.wf,e1,e2] at h
  exact h
end Go.SL
end
