
import Derived.Test.YtcnmnmjmpocepaaGreatDoorV04
set_option linter.unusedVariables false
set_option linter.unusedSimpArgs false
set_option linter.unusedSectionVars false
set_option maxRecDepth 100000
set_option maxHeartbeats 16000000
namespace Go.SL
def Mh(P:Program)(n:Nat)(o:Oper)(env:Env)(vf:Nat->Value)(ob:Obj):Prop:=
  EX o.op=true/\(∀off,Pt ob off=false)/\∀a w,Has n env a->(execOp a.eval o).run P w= .ok (.value (vf w.heap.size)) {w with heap:=w.heap.push ob}
inductive It
  |q (i:Nat)
  |f (i:Nat)
  |r (i:Nat)
  |an (i:Nat)
  |rv (i:Nat)
  |h (c:Bool) (m:Nat)
  |fi (i j:Nat)
def It.ix:It->Nat
  | .q i| .f i| .r i| .an i| .rv i| .h _ i| .fi i _=>i
def It.Rl:It->Bool
  | .an _=>false
  |_=>true
def It.exec:It->Bool
  | .rv _=>false
  |_=>true
def Dm(l:List It):List Nat:=(l.filter It.Rl).map It.ix
def GU(l:List It):List Nat:=(l.filter It.exec).map It.ix
theorem DW(l m:List It):Dm (l++m)=Dm l++Dm m:=by simp [Dm]
theorem DR(l m:List It):GU (l++m)=GU l++GU m:=by simp [GU]
theorem JW{l:List It}{x:Nat}(h:x∈Dm l):∃p it t,l=p++it::t/\it.Rl=true/\it.ix=x:=by
  simp only [Dm,List.mem_map,List.mem_filter] at h
  obtain⟨it,⟨h1,h2⟩,h3⟩:=h;obtain⟨p,t,e⟩:=List.append_of_mem h1;exact⟨p,it,t,e,h2,h3⟩
theorem dy{l:List It}{x:Nat}(h:x∈GU l):∃p it t,l=p++it::t/\it.exec=true/\it.ix=x:=by
  simp only [GU,List.mem_map,List.mem_filter] at h
  obtain⟨it,⟨h1,h2⟩,h3⟩:=h;obtain⟨p,t,e⟩:=List.append_of_mem h1;exact⟨p,it,t,e,h2,h3⟩
theorem DB{l:List It}{it:It}(h:it∈l)(he:it.exec=true):it.ix∈GU l:=by
  simp only [GU,List.mem_map,List.mem_filter];exact⟨it,⟨h,he⟩,rfl⟩
theorem FV{l:List It}{it:It}(h:it∈l)(he:it.Rl=true):it.ix∈Dm l:=by
  simp only [Dm,List.mem_map,List.mem_filter];exact⟨it,⟨h,he⟩,rfl⟩
def fV(i:Nat):It->Bool
  | .an j=>Nat.beq j i
  |_=>false
def lL(j:Nat):It->Bool
  | .fi _ k=>Nat.beq k j
  |_=>false
def mg(bs:List Nat)(i:Nat)(l:List Nat):It->Bool
  | .fi k j=> !Nat.beq j i ||l.all (fun x=>(bs.getD x 0).testBit k)
  |_=>true
def nu(k:Nat)(f:Nat->Bool):It->Bool
  | .fi i j=> !Nat.beq i k ||f j
  |_=>true
def qX(bs:List Nat)(m:Nat):It->Bool
  | .q i=>(bs.getD m 0).testBit i
  |_=>true
def jC(bs:List Nat)(pre r:List It):It->Bool
  | .h c m=>(GU r).all (fun x=>(bs.getD x 0).testBit m) && (!c ||pre.all (qX bs m))
  | .rv i=>(GU r).all (fun x=>(bs.getD x 0).testBit i) && pre.any (fV i) && pre.all (mg bs i (GU r)) && r.all (fun it=> !lL i it)
  | .fi i j=>pre.any (fV j) && (bs.getD i 0).testBit j
  |_=>true
def YJ(pre:List It)(it:It)(k:Nat):Bool:=match it with
  | .fi _ j=>Nat.beq k j ||((Dm pre).contains k && pre.all (nu k fun j'=>Nat.beq j' j ||(Dm pre).contains j'))
  |_=>(Dm pre).contains k && pre.all (nu k fun j'=>(Dm pre).contains j')
def X5(all:Array Oper)(bs:List Nat):List It->List It->Bool
  |_,[]=>true
  |pre,it::r=>(!it.exec ||(match all[it.ix]? with
      |some o=>o.after.toList.all fun e=> !Region.binds .any e ||YJ pre it e.on
      |none=>false)) && jC bs pre r it && X5 all bs (pre++ [it]) r
theorem dA{pre:List It}{it:It}{k:Nat}(h:YJ pre it k=true):(∃i,it= .fi i k)∨(k∈Dm pre/\∀j',.fi k j'∈pre->j'∈Dm pre∨∃i,it= .fi i j'):=by
  have fin:∀ {f:Nat->Bool},pre.all (nu k f)=true->∀j',.fi k j'∈pre->f j'=true:=fun{f} hh j' hj=>by
    have:=List.all_eq_true.1 hh _ hj;simpa [nu] using this
  unfold YJ at h
  split at h
  · rename_i i j
    simp only [Bool.or_eq_true,Bool.and_eq_true] at h
    rcases h with h|⟨h1,h2⟩
    · exact .inl ⟨i,by rw [Nat.eq_of_beq_eq_true h]⟩
    · refine .inr ⟨by simpa using h1,fun j' hj=> ?_⟩;have:=fin h2 j' hj;simp only [Bool.or_eq_true] at this
      rcases this with h3|h3
      · exact .inr ⟨i,by rw [Nat.eq_of_beq_eq_true h3]⟩
      · exact .inl (by simpa using h3)
  · simp only [Bool.and_eq_true] at h
    exact .inr ⟨by simpa using h.1,fun j' hj=> .inl (by simpa using fin h.2 j' hj)⟩
def Yv(all:Array Oper)(GZ:List It):Bool:=
  Qa (GU GZ) && Qa (Dm GZ) && (List.range all.size).all (fun i=>(GU GZ).contains i && (Dm GZ).contains i) && (Dm GZ).all (fun i=>Nat.blt i all.size) &&
    gR all (Dm GZ) && X5 all (bits all.toList []) [] GZ
structure NK(all:Array Oper)(GZ:List It):Prop where
  gy:(GU GZ).Nodup
  U2:(Dm GZ).Nodup
  mh:∀i,i<all.size->i∈GU GZ
  W7:∀i,i<all.size->i∈Dm GZ
  OM:∀i∈Dm GZ,i<all.size
  sk:dX all (Dm GZ)
  pN:∀p it t,GZ=p++it::t->it.exec=true->∀k,MK all k it.ix->k∈Dm p∨∃i,it= .fi i k
  c1:∀p c m t,GZ=p++ .h c m::t->∀x∈GU t,MK all m x
  c2:∀p i t,GZ=p++ .rv i::t->(∀x∈GU t,MK all i x)/\ .an i∈p
  c4:∀p i t,GZ=p++ .rv i::t->(∀k,.fi k i∈p->∀x∈GU t,MK all k x)/\∀k,.fi k i∉t
  c5:∀p i j t,GZ=p++ .fi i j::t-> .an j∈p/\MK all j i
  c3:∀p m t,GZ=p++ .h true m::t->∀i,.q i∈p->MK all i m
theorem aG{all:Array Oper}{bs:List Nat}:∀ {r pre:List It},X5 all bs pre r=true->∀p it t,r=p++it::t->
    (it.exec=true->∀o,all[it.ix]?=some o->∀e∈o.after,Region.binds .any e=true->YJ (pre++p) it e.on=true)/\jC bs (pre++p) t it=true:=by
  intro r;induction r with
  |nil=>intro pre _ p it t e;simp at e
  | cons x r ih=>
    intro pre h p it t e;simp only [X5,Bool.and_eq_true] at h
    cases p with
    | nil=>
      simp only [List.nil_append,List.cons.injEq] at e
      obtain⟨rfl,rfl⟩:=e;rw [List.append_nil];refine⟨fun hx o ho ed rP hb=> ?_,h.1.2⟩;have h1:=h.1.1;rw [hx,ho] at h1
      simp only [Bool.not_true,Bool.false_or,List.all_eq_true,Bool.or_eq_true,Bool.not_eq_true'] at h1
      rcases h1 ed (by simpa using rP) with h2|h2
      · rw [hb] at h2;cases h2
      · exact h2
    | cons y p=>
      simp only [List.cons_append,List.cons.injEq] at e
      obtain⟨rfl,rfl⟩:=e;have:=ih h.2 p it t rfl;simpa [List.append_assoc] using this
theorem Xt {all:Array Oper}{GZ:List It}(h:Yv all GZ=true):NK all GZ:=by
  simp only [Yv,Bool.and_eq_true] at h
  obtain⟨⟨⟨⟨⟨h1,h2⟩,h3⟩,h4⟩,h5⟩,h6⟩:=h;have hw:=fun p it t e=>by
    have:=aG h6 p it t e;rw [List.nil_append] at this;exact this
  have hx:∀i,i<all.size->i∈GU GZ/\i∈Dm GZ:=fun i hi=>by
    have:=List.all_eq_true.1 h3 i (List.mem_range.2 hi);simpa using this
  have c2:∀p i t,GZ=p++ .rv i::t->(∀x∈GU t,MK all i x)/\ .an i∈p:=fun p i t e=>by
    have:=(hw p _ t e).2;simp only [jC,Bool.and_eq_true,List.all_eq_true,List.any_eq_true] at this
    refine⟨fun x hx=>Ix (this.1.1.1 x hx),?_⟩;obtain⟨it,jR,hb⟩:=this.1.1.2;cases it with
    |an j=>simp only [fV] at hb;rw [Nat.eq_of_beq_eq_true hb] at jR;exact jR
    |_=>cases hb
  have c4:∀p i t,GZ=p++ .rv i::t->(∀k,.fi k i∈p->∀x∈GU t,MK all k x)/\∀k,.fi k i∉t:=fun p i t e=>by
    have:=(hw p _ t e).2;simp only [jC,Bool.and_eq_true,List.all_eq_true,List.any_eq_true] at this
    refine⟨fun k hk x hx=> ?_,fun k hk=> ?_⟩
    · have h8:=this.1.2 _ hk;simp only [mg,Bool.or_eq_true,List.all_eq_true] at h8
      rcases h8 with h8|h8
      · simp at h8
      · exact Ix (h8 x hx)
    · have h8:=this.2 _ hk;simp [lL] at h8
  have c5:∀p i j t,GZ=p++ .fi i j::t-> .an j∈p/\MK all j i:=fun p i j t e=>by
    have:=(hw p _ t e).2;simp only [jC,Bool.and_eq_true,List.any_eq_true] at this
    refine⟨?_,Ix this.2⟩;obtain⟨it,jR,hb⟩:=this.1;cases it with
    |an j=>simp only [fV] at hb;rw [Nat.eq_of_beq_eq_true hb] at jR;exact jR
    |_=>cases hb
  refine⟨ON h1,ON h2,fun i hi=>(hx i hi).1,fun i hi=>(hx i hi).2,fun i hi=>Nat.le_of_ble_eq_true (List.all_eq_true.1 h4 i hi),Z7 h5,?_,fun p c m t e x hx=> ?_,c2,c4,c5,fun p m t e i hi=> ?_⟩
  · intro p;induction p using(measure List.length).wf.induction with
    | _ p ih=>
      intro it t he hex j hj;have one:∀o,all[it.ix]?=some o->∀e∈o.after,Region.binds .any e=true->(∃i,it= .fi i e.on)∨(e.on∈Dm p/\∀j',.fi e.on j'∈p->j'∈Dm p∨∃i,it= .fi i j'):=fun o ho e he hb=>dA ((hw p it t ‹_›).1 hex o ho e he hb)
      have anP:∀k,.an k∈p->MK all j k->j∈Dm p:=fun k hk p8=>by
        obtain⟨p3,p4,rfl⟩:=List.append_of_mem hk;rcases ih p3 (by simp [InvImage,WellFoundedRelation.rel]) (.an k) (p4++it::t) (by rw [he];simp) rfl j p8 with h8|⟨i,h8⟩
        · rw [DW];exact List.mem_append.2 (.inl h8)
        · cases h8
      cases hj with
      | one hi he' hb lT=>
        rcases one _ hi _ he' hb with h8|⟨h8, -⟩
        · exact .inr (lT▸h8)
        · exact .inl (lT▸h8)
      | more hi he' hb hk hj'=>
        rcases one _ hi _ he' hb with ⟨i,h8⟩|⟨hkp,hfl⟩
        · left
          rw [hk] at h8
          exact anP _ (c5 p i _ t (by rw [he,h8])).1 hj'
        · rw [hk] at hkp hfl
          obtain⟨p1,TT,p2,rfl,hs,rfl⟩:=JW hkp;have key:TT.exec=true->j∈Dm (p1++TT::p2)∨∃i,it= .fi i j:=fun KL=>by
            rcases ih p1 (by simp [InvImage,WellFoundedRelation.rel]) TT (p2++it::t) (by rw [he];simp) KL j hj' with h9|⟨i,h9⟩
            · left;rw [DW];exact List.mem_append.2 (.inl h9)
            · subst h9;exact hfl j (List.mem_append.2 (.inr (List.mem_cons_self ..)))
          cases TT with
          | rv k=>
            have hc:=(c2 p1 k (p2++it::t) (by rw [he];simp)).2;exact .inl (anP k (by simp [hc]) hj')
          |_=>exact key rfl
  · have:=(hw p _ t e).2;simp only [jC,Bool.and_eq_true,List.all_eq_true] at this
    exact Ix (this.1 x hx)
  · have:=(hw p _ t e).2;simp only [jC,Bool.and_eq_true,List.all_eq_true,Bool.not_true,Bool.false_or] at this
    exact Ix (this.2 _ hi)
abbrev An:=Nat->Option ((Nat->Value)×Obj)
def IE(all:Array Oper)(i:Nat)(v:Value)(env:Env):Env:=match(all[i]?).bind (·.dst) with|some d=>(d,v)::env|none=>env
def UX(an:An)(i:Nat)(x:(Nat->Value)×Obj):An:=fun j=>if j=i then some x else an j
theorem Nx{all:Array Oper}{vs:Nat->Value}{l:List Nat}{i:Nat}{env:Env}:Hc all vs (l++ [i]) env=IE all i (vs i) (Hc all vs l env):=SX
abbrev En:=Nat->Option (Nat×TypeDesc×Value×Value)
def Rt(en:En)(i:Nat)(x:Nat×TypeDesc×Value×Value):En:=fun j=>if j=i then some x else en j
def Gb(en:En)(L:Nat->Bool)(N j:Nat):List (Value×Value):=(List.range N).filterMap fun k=>match L k,en k with
  |true,some (j',_,kv,xv)=>if j'=j then some (kv,xv) else none
  |_,_=>none
def Pb(j5:List (Value×Value))(ob o:Obj):Prop:=match ob with
  | .map es0 _=>∃es Lo,o= .map es Lo/\(es.toList.map fun e=>(e.key,e.val)).Perm (es0.toList.map (fun e=>(e.key,e.val))++j5)
  |ob=>o=ob
structure dU(P:Program)(all:Array Oper)(env:Env)(an:An)(en:En)(i j:Nat)(dd:TypeDesc)(kv xv:Value):Prop where
  ex:∃(o:Oper) (t:TypeId) (d:Nat) (k x:Operand) (kt et:TypeId) (vf:Nat->Value),all[i]?=some o/\o.op= .insert t (.tmp d) k x/\o.dst=none/\o.guard=none/\(all[j]?).bind (·.dst)=some d/\
    (∀l,(all[l]?).bind (·.dst)=some d->l=j)/\k≠ .tmp d/\x≠ .tmp d/\ev env k=some kv/\ev env x=some xv/\P.underlying t=some (.map kt et)/\P.underlying kt=some dd/\
    (∀w,(Instr.checkKey false 10000 kt kv).run P w= .ok () w)/\an j=some (vf,.map #[] 0)/\(∀b,vf b= .map (some b))/\
    ∀l mw ao ib,en l=some (j,mw,ao,ib)->Instr.sameNow dd kv ao=some false/\Instr.sameNow mw ao kv=some false
def OP(all:Array Oper)(m:Nat):Bool:=(List.range all.size).all fun i=>Nat.beq i m ||((bits all.toList []).getD m 0).testBit i
theorem Xm{all:Array Oper}{m:Nat}(h:OP all m=true):∀i,i<all.size->i=m∨MK all i m:=fun i hi=>by
  have:=List.all_eq_true.1 h i (List.mem_range.2 hi);rcases Bool.or_eq_true _ _▸this with h|h
  · exact .inl (Nat.eq_of_beq_eq_true h)
  · exact .inr (Ix h)
def dW(P:Program)(hs:List CA)(n:Nat)(o:Oper)(env:Env)(R:Value->List CA->Prop)(Z:List PanicEntry->List CA->Prop):Prop:=
  EX o.op=true/\∀a w X,Has n env a->Sat (hs++X) w->∃w',
    (∃v own,(execOp a.eval o).run P w= .ok (.value v) w'/\Sat (own++X) w'/\R v own)∨
    (∃own,(execOp a.eval o).run P w= .ok .skip w'/\Sat (own++X) w'/\R undef own)∨
    (∃f args,(execOp a.eval o).run P w= .ok (.enter f args) w'/\Calls P f args w' fun e MN=>(∃v own,e= .returned v/\Sat (own++X) MN/\R v own)∨(∃ch own,e= .panicked ch/\Sat (own++X) MN/\Z ch own))∨
    (∃L f tmps assign body,(execOp a.eval o).run P w= .ok (.round L f tmps assign body) w'/\∀r,RoundIn (Pv r) 0 P L f tmps assign body w' fun e MN=>∃v own,e= .returned v/\Sat (own++X) MN/\R v own)
theorem Et.z{P:Program}{hs:List CA}{n:Nat}{o:Oper}{env:Env}{R:Value->List CA->Prop}(h:Et P hs n o env R):dW P hs n o env R (fun _ _=>False):=
  ⟨h.1,fun a w X ha hS=>by
    obtain⟨w',h1|h1|⟨f,args,h1,h2⟩|h1⟩:=h.2 a w X ha hS
    · exact⟨w',.inl h1⟩
    · exact⟨w',.inr (.inl h1)⟩
    · exact⟨w',.inr (.inr (.inl ⟨f,args,h1,h2.mono fun _ _ h=> .inl h⟩))⟩
    · exact⟨w',.inr (.inr (.inr h1))⟩⟩
theorem gf{P:Program}{r:Option Nat}{hs X:List CA}{n:Nat}{o:Oper}{env:Env}{R:Value->List CA->Prop}{Z:List PanicEntry->List CA->Prop}(h:dW P hs n o env R Z)
    {all:Array Oper} {Q:Exit->Act->World->Prop} {i:Nat} {K:Act->World->Prop} {a:Act} {w:World} (hi:all[i]?=some o)
    (hw:Region.wanted o (yielded all a.tmps)=true) {a':Act} (ha:Has n env a') (he:execOp a.eval o=execOp a'.eval o) (hs':Sat (hs++X) w)
    (hk:∀v own w',R v own->Sat (own++X) w'->K (a.put o.dst v) w') (hz:∀ch own w',Z ch own->Sat (own++X) w'->Q (.panic ch) a w'):wpOpIn (Pv r) 0 P all Q i K a w:=by
  simp only [wpOpIn,hi,hw,if_true];refine⟨fun f _=>by simp,?_⟩;rw [Ff,semAt_plain h.1,he];obtain⟨w',⟨v,own,h1,h2,h3⟩|⟨own,h1,h2,h3⟩|⟨f,args,h1,h2⟩|⟨L,f,tmps,as,body,h1,h2⟩⟩:=h.2 a' w X ha hs'
  · rw [h1];exact hk v own w' h3 h2
  · rw [h1];exact hk undef own w' h3 h2
  · rw [h1];refine⟨fun hx=>by simp at hx,(F0 _ h2).mono ?_⟩;rintro e MN (⟨v,own,rfl,s2,hR⟩|⟨ch,own,rfl,s2,hZ⟩)
    · exact hk v own MN hR s2
    · exact hz ch own MN hZ s2
  · rw [h1];refine⟨fun hx=>by simp at hx,(h2 r).mono ?_⟩;rintro e MN ⟨v,own,rfl,s2,hR⟩;exact hk v own MN hR s2
def Jh(P:Program)(F:CA)(n:Nat)(all:Array Oper)(Dk:List CA)(K:Env->List CA->Prop)(Kz:List PanicEntry->List CA->Prop):List It->Env->List CA->An->En->Prop
  | [],env,own,_,_=>K env own
  | .q i::r,env,own,an,en=>∃o v,all[i]?=some o/\Ky P F n all own env o v/\Jh P F n all Dk K Kz r (IE all i v env) own an en
  | .f i::r,env,own,an,en=>∃o v,all[i]?=some o/\Ky P emp n all [] env o v/\Jh P F n all Dk K Kz r (IE all i v env) own an en
  | .r i::r,env,own,an,en=>∃o v,all[i]?=some o/\Ky P F n all Dk env o v/\Jh P F n all Dk K Kz r (IE all i v env) own an en
  | .an i::r,env,own,an,en=>∃o vf ob,all[i]?=some o/\C6 all env o=some true/\Mh P n o env vf ob/\Jh P F n all Dk K Kz r env own (UX an i (vf,ob)) en
  | .rv i::r,env,own,an,en=>∃vf ob,an i=some (vf,ob)/\∀b Zu,Pb (Gb en (fun _=>true) all.size i) ob Zu->Jh P F n all Dk K Kz r (IE all i (vf b) env) (CV b Zu::own) an en
  | .fi i j::r,env,own,an,en=>∃dd kv xv,dU P all env an en i j dd kv xv/\Jh P F n all Dk K Kz r env own an (Rt en i (j,dd,kv,xv))
  | .h c m::r,env,own,an,en=>∃o IN F6 R Z,all[m]?=some o/\own.Perm (IN++F6)/\((C6 all env o=some true/\dW P IN n o env R Z)∨(C6 all env o=some false/\EX o.op=true/\R undef IN))/\
      (c=false->∀v own',R v own'->∃N,own'.Perm (IN++N))/\(c=true->(∃Y,F6.Perm (Dk++Y))∨OP all m=true)/\(∀v own',R v own'->Jh P F n all Dk K Kz r (IE all m v env) (own'++F6) an en)/\∀ch own',Z ch own'->Kz ch (own'++F6)
section
variable (P:Program) (F:CA) (n:Nat) (all:Array Oper) (Dk:List CA) (K:Env->List CA->Prop) (Kz:List PanicEntry->List CA->Prop) (GZ:List It) (IS:Env) (a0:Act) (ds:List Deferred)
def Kn(val:Nat->Value)(an:An)(en:En)(own:List CA)(L:Array Bool)(bf:Nat->Nat)(p:List It):It->Prop
  | .q i=>∃o KO,all[i]?=some o/\Ky P F n all KO (Hc all val (Dm p) IS) o (val i)/\(L.getD i false=false->∃Y,own.Perm (KO++Y))
  | .f i=>∃o,all[i]?=some o/\Ky P emp n all [] (Hc all val (Dm p) IS) o (val i)
  | .r i=>∃o,all[i]?=some o/\Ky P F n all Dk (Hc all val (Dm p) IS) o (val i)
  | .an i=>∃o vf ob,all[i]?=some o/\C6 all (Hc all val (Dm p) IS) o=some true/\Mh P n o (Hc all val (Dm p) IS) vf ob/\an i=some (vf,ob)/\(L.getD i false=true->val i=vf (bf i))
  | .rv i=>L.getD i false=true
  | .h _ m=>L.getD m false=true
  | .fi i j=>∃dd kv xv iO,dU P all (Hc all val (Dm p) IS) an iO i j dd kv xv/\en i=some (j,dd,kv,xv)
def IW(cur:Nat->Obj)(bf:Nat->Nat)(pl:List Nat):List CA:=pl.map fun i=>CV (bf i) (cur i)
def S7(val:Nat->Value)(L:Nat->Bool)(s:Nat):Option Value:=match D5 all L s all.size with|some j=>some (val j)|none=>a0.tmps[s]?
structure CI(pre post:List It)(val:Nat->Value)(own:List CA)(an:An)(en:En)(cur:Nat->Obj)(bf:Nat->Nat)(pl:List Nat)(L:Array Bool)(a:Act)(w:World):Prop where
  s1:L.size=all.size
  s2:a.tmps.size=n
  s3:a.defers=ds
  s4:∀i o,L.getD i false=true->all[i]?=some o->∀e∈o.after,Region.binds .any e=true->L.getD e.on false=true
  e:GZ=pre++post
  sl:∀s,s<n->a.tmps[s]?=S7 all a0 val (fun i=>L.getD i false) s
  ch:Jh P F n all Dk K Kz post (Hc all val (Dm pre) IS) own an en
  sat:Sat (F::own++IW cur bf pl) w
  kn:∀p it t,pre=p++it::t->Kn P F n all Dk IS val an en own L bf p it
  un:∀it∈post,it.exec=true->L.getD it.ix false=false
  pr:∀i,i<all.size->L.getD i false=false->∃Y,own.Perm (Dk++Y)
  pn:pl.Nodup
  pm:∀i,i∈pl↔(.an i∈pre/\L.getD i false=true/\ .rv i∈post)
  cu:∀i∈pl,∀vf ob,an i=some (vf,ob)->Pb (Gb en (fun j=>L.getD j false) all.size i) ob (cur i)
  ei:∀k x,en k=some x-> .fi k x.1∈pre
  ed:∀k l j dk kv xv dl ao ib,en k=some (j,dk,kv,xv)->en l=some (j,dl,ao,ib)->k≠l->Instr.sameNow dk kv ao=some false
  rq:∀j,.rv j∈pre->∀k x,en k=some x->x.1=j->L.getD k false=true
end
section
variable {P:Program} {F:CA} {n:Nat} {all:Array Oper} {Dk:List CA} {K:Env->List CA->Prop} {Kz:List PanicEntry->List CA->Prop} {GZ:List It} {IS:Env} {a0:Act} {ds:List Deferred}
theorem Pb.perm{e e':List (Value×Value)}{ob o:Obj}(h:Pb e ob o)(p:e.Perm e'):Pb e' ob o:=by
  cases ob with
  | map es0 c0=>
    obtain⟨es,Lo,rfl,h2⟩:=h;exact⟨es,Lo,rfl,h2.trans (p.append_left _)⟩
  |_=>exact h
theorem Ku{α β:Type}{f g:α->Option β}:∀ {l:List α},(∀k∈l,f k=g k)->l.filterMap f=l.filterMap g
  | [],_=>rfl
  | a::l,h=>by
    rw [List.filterMap_cons,List.filterMap_cons,h a (List.mem_cons_self ..),Ku fun k hk=>h k (List.mem_cons_of_mem _ hk)]
theorem Mb{α β:Type} [DecidableEq α]{f g:α->Option β}{i:α}:∀ {l:List α},l.Nodup->i∈l->f i=none->(∀k∈l,k≠i->g k=f k)->(l.filterMap g).Perm (l.filterMap f++(g i).toList)
  | [],_,hi,_,_=>by cases hi
  | a ::l,hn,hi,hf,hg=>by
    have hn':=List.nodup_cons.1 hn;by_cases e:a=i
    · subst e;have h2:l.filterMap g=l.filterMap f:=Ku fun k hk=>hg k (List.mem_cons_of_mem _ hk) fun e=>by subst e;exact hn'.1 hk
      rw [List.filterMap_cons,List.filterMap_cons,hf,h2];cases g a with
      |none=>simp
      |some b=>simpa using(List.perm_append_comm (l₁:= [b]) (l₂:=l.filterMap f))
    · have hi':i∈l:=by
        rcases List.mem_cons.1 hi with h|h
        · exact(e h.symm).elim
        · exact h
      have ih:=Mb (f:=f) (g:=g) hn'.2 hi' hf fun k hk=>hg k (List.mem_cons_of_mem _ hk)
      rw [List.filterMap_cons,List.filterMap_cons,hg a (List.mem_cons_self ..) e];cases f a with
      |none=>exact ih
      |some b=>exact ih.cons b
def Jg(en:En)(L:Nat->Bool)(j k:Nat):Option (Value×Value):=match L k,en k with
  |true,some (j',_,kv,xv)=>if j'=j then some (kv,xv) else none
  |_,_=>none
theorem IX(en:En)(L:Nat->Bool)(N j:Nat):Gb en L N j=(List.range N).filterMap (Jg en L j):=rfl
theorem QF{en:En}{L:Array Bool}{N i j:Nat}(hi:i<N)(iI:i<L.size)(hL:L.getD i false=false):
    (Gb en (fun k=>(L.setIfInBounds i true).getD k false) N j).Perm (Gb en (fun k=>L.getD k false) N j++(match en i with|some (j',_,kv,xv)=>(if j'=j then [(kv,xv)] else [])|none=> [])):=by
  have h:=Mb (f:=Jg en (fun k=>L.getD k false) j) (g:=Jg en (fun k=>(L.setIfInBounds i true).getD k false) j) (i:=i) List.nodup_range (List.mem_range.2 hi) (by simp only [Jg,hL]) fun k _ hk=>by
    simp only [Jg,FX iI,if_neg hk]
  rw [IX,IX];refine h.trans (List.Perm.append_left _ ?_);have:Jg en (fun k=>(L.setIfInBounds i true).getD k false) j i=(match en i with|some (j',_,kv,xv)=>(if j'=j then some (kv,xv) else none)|none=>none):=by
    simp only [Jg,FX iI,if_true];cases en i with
    |none=>rfl
    |some x=>rfl
  rw [this];cases en i with
  |none=>exact List.Perm.refl _
  | some x=>
    obtain⟨j',dd,kv,xv⟩:=x;by_cases e:j'=j <;>simp [e]
theorem Ny{en en':En}{L L':Nat->Bool}{N j:Nat}(h:∀k,Jg en L j k=Jg en' L' j k):Gb en L N j=Gb en' L' N j:=by
  rw [IX,IX];exact Ku fun k _=>h k
theorem XN{en:En}{L:Nat->Bool}{N j:Nat}(h:∀k,Jg en L j k=none):Gb en L N j= []:=by
  rw [IX,List.filterMap_eq_nil_iff];exact fun k _=>h k
theorem El(ho:NK all GZ){p t:List It}{it:It}(e:GZ=p++it::t)(hx:it.exec=true):it.ix∉GU p/\it.ix∉GU t:=by
  have h:=ho.gy;rw [e,DR] at h
  have e2:GU (it::t)=it.ix::GU t:=by simp [GU,hx]
  rw [e2] at h
  obtain⟨h1,h2,h3⟩:=List.nodup_append.1 h;exact⟨fun hp=>h3 _ hp _ (List.mem_cons_self ..) rfl,(List.nodup_cons.1 h2).1⟩
theorem bJ(ho:NK all GZ){p t:List It}(e:GZ=p++t){x:Nat}(hx:x∈Dm p):∃p1 it p2,p=p1++it::p2/\it.exec=true/\it.ix=x:=by
  obtain⟨p1,it,p2,rfl,hs,rfl⟩:=JW hx;cases it with
  | rv i=>
    have hc:=(ho.c2 p1 i (p2++t) (by rw [e];simp)).2;obtain⟨p3,p4,rfl⟩:=List.append_of_mem hc;exact⟨p3,.an i,p4++ .rv i::p2,by simp,rfl,rfl⟩
  |q i=>exact⟨p1,_,p2,rfl,rfl,rfl⟩
  |f i=>exact⟨p1,_,p2,rfl,rfl,rfl⟩
  |r i=>exact⟨p1,_,p2,rfl,rfl,rfl⟩
  |an i=>cases hs
  |h c i=>exact⟨p1,_,p2,rfl,rfl,rfl⟩
  |fi i j=>exact⟨p1,_,p2,rfl,rfl,rfl⟩
theorem N5(ho:NK all GZ){p t:List It}{it:It}(e:GZ=p++it::t)(hx:it.exec=true):it.ix∉Dm p:=fun h=>by
  obtain⟨p1,TT,p2,rfl,KL,e'⟩:=bJ ho e h;exact(El ho e hx).1 (by rw [<-e',DR];exact List.mem_append.2 (.inr (DB (List.mem_cons_self ..) KL)))
theorem XQ(ho:NK all GZ){p t:List It}(e:GZ=p++t):dX all (Dm p):=by
  have:=ho.sk;rw [e,DW] at this;exact(List.pairwise_append.1 this).1
theorem ZA(ho:NK all GZ){p t:List It}(e:GZ=p++t):∀i∈Dm p,i<all.size:=fun i hi=>ho.OM i (by rw [e,DW];exact List.mem_append.2 (.inl hi))
theorem Qw(ho:NK all GZ)(O6:∀(i d:Nat),(all[i]?).bind (·.dst)=some d->d<n)(VE:Has n IS a0){p t:List It}(e:GZ=p++t){val:Nat->Value}{a:Act}(Hs:a.tmps.size=n)
    (ht:∀s,s<n->a.tmps[s]?=S7 all a0 val (fun j=>(Dm p).contains j) s):Has n (Hc all val (Dm p) IS) a:=by
  refine⟨Hs,fun s u hu=> ?_⟩;rw [ZB _ (XQ ho e) (ZA ho e)] at hu
  by_cases hs:s<n
  · rw [ht s hs];simp only [S7];cases hl:D5 all (fun j=>(Dm p).contains j) s all.size with
    |some j=>rw [hl] at hu;exact hu
    |none=>rw [hl] at hu;exact VE.get s u hu
  · exfalso;cases hl:D5 all (fun j=>(Dm p).contains j) s all.size with
    |some j=>exact hs (O6 j s (LI hl).2.1)
    | none=>
      rw [hl] at hu
      have:=VE.get s u hu;rw [Array.getElem?_eq_none (by rw [VE.size];omega)] at this;cases this
theorem V4 (Ht:ZZ all=true)(ho:NK all GZ)(O6:∀(i d:Nat),(all[i]?).bind (·.dst)=some d->d<n)(VE:Has n IS a0){L:Array Bool}{a:Act}{val:Nat->Value}
    (s2:a.tmps.size=n) (s4:∀i o,L.getD i false=true->all[i]?=some o->∀e∈o.after,Region.binds .any e=true->L.getD e.on false=true)
    (sl:∀s,s<n->a.tmps[s]?=S7 all a0 val (fun i=>L.getD i false) s) {p t:List It} {it:It} (e:GZ=p++it::t) (hx:it.exec=true) {o:Oper} (JO:all[it.ix]?=some o)
    (Gt:L.getD it.ix false=false) (Lc:∀j,MK all j it.ix->L.getD j false=true):
    ∃Z8,Has n (Hc all val (Dm p) IS) Z8/\∀s∈o.looksAt all,(∀i j,it= .fi i j->(all[j]?).bind (·.dst)≠some s)->a.tmps[s]?=Z8.tmps[s]?:=by
  have hlisted:∀j k,MK all j k->L.getD k false=true->L.getD j false=true:=fun j k hj=>hj.listed (L:=fun j=>L.getD j false) s4
  have hsame:∀s∈Lz all o,(∀i j,it= .fi i j->(all[j]?).bind (·.dst)≠some s)->D5 all (fun j=>L.getD j false) s all.size=D5 all (fun j=>(Dm p).contains j) s all.size:=by
    intro s hs gh;refine GH fun j hj hw=> ?_
    by_cases ej:j=it.ix
    · rw [ej,Gt];symm;simpa using N5 ho e hx
    · rcases Lm Ht JO hs hw ej with ⟨g1,g2⟩|⟨g1,g2⟩
      · rw [Lc j g2];symm;rcases ho.pN p it t e hx j g2 with g3|⟨i,g3⟩
        · simpa using g3
        · exact(gh i j g3 hw).elim
      · have SF:L.getD j false=false:=by
          cases hy:L.getD j false with
          |false=>rfl
          |true=>have:=hlisted _ j g2 hy;rw [Gt] at this;cases this
        have hf2:j∉Dm p:=fun jQ=>by
          obtain⟨p1,TT,p2,rfl,KL,rfl⟩:=bJ ho e jQ;rcases ho.pN p1 TT (p2++it::t) (by rw [e];simp) KL _ g2 with this|⟨i,this⟩
          · exact N5 ho e hx (by rw [DW];exact List.mem_append.2 (.inl this))
          ·
            subst this;have h5:=(ho.c5 p1 i it.ix (p2++it::t) (by rw [e];simp)).1;exact(El ho e hx).1 (by rw [DR];exact List.mem_append.2 (.inl (DB (it:= .an it.ix) h5 rfl)))
        rw [SF];symm;simpa using hf2
  refine⟨{tmps:=Array.ofFn (n:=n) fun s=>(S7 all a0 val (fun j=>(Dm p).contains j) s.val).getD undef,defers:= []},?_,?_⟩
  all_goals
    have FD:∀s,s<n->(Array.ofFn (n:=n) fun s=>(S7 all a0 val (fun j=>(Dm p).contains j) s.val).getD undef)[s]?=S7 all a0 val (fun j=>(Dm p).contains j) s:=by
      intro s hs;rw [Array.getElem?_eq_getElem (by simpa using hs)];simp only [Array.getElem_ofFn];simp only [S7];cases hl:D5 all (fun j=>(Dm p).contains j) s all.size with
      |some j=>rfl
      | none=>
        simp only [];rw [Array.getElem?_eq_getElem (by rw [VE.size];exact hs)];rfl
  · exact Qw ho O6 VE (t:=it::t) e Am FD
  · intro s hs gh;by_cases Wr:s<n
    · rw [sl s Wr];show _=(Array.ofFn (n:=n) fun s=>(S7 all a0 val (fun j=>(Dm p).contains j) s.val).getD undef)[s]?;rw [FD s Wr];simp only [S7];rw [hsame s (List.mem_append.2 (.inl hs)) gh]
    · have hge:n≤s:=Nat.not_lt.1 Wr;rw [Array.getElem?_eq_none (by rw [s2];exact hge),Array.getElem?_eq_none (by simpa using hge)]
theorem QO(Ht:ZZ all=true){L:Array Bool}{a:Act}{val:Nat->Value}{i:Nat}{o:Oper}
    (s2:a.tmps.size=n) (s4:∀i o,L.getD i false=true->all[i]?=some o->∀e∈o.after,Region.binds .any e=true->L.getD e.on false=true)
    (sl:∀s,s<n->a.tmps[s]?=S7 all a0 val (fun i=>L.getD i false) s) (JO:all[i]?=some o) (JM:i<L.size) (Hs:L.size=all.size) (Gt:L.getD i false=false)
    (val':Nat->Value) (u:Value) (hu:val' i=u) (DO:∀j,L.getD j false=true->val' j=val j):∀s,s<n->(a.put o.dst u).tmps[s]?=S7 all a0 val' (fun j=>(L.setIfInBounds i true).getD j false) s:=by
  have hlisted:∀j k,MK all j k->L.getD k false=true->L.getD j false=true:=fun j k hj=>hj.listed (L:=fun j=>L.getD j false) s4
  intro s hs;by_cases hd:o.dst=some s
  · have hmem:s∈Lz all o:=List.mem_append.2 (.inr (by rw [hd];simp));have hl:D5 all (fun j=>(L.setIfInBounds i true).getD j false) s all.size=some i:=by
      rw [GQ (i:=i+1) Ab (L:=fun j=>(L.setIfInBounds i true).getD j false) (fun j g1 g2 g3 g4=> ?_)]
      · simp only [D5,FX JM,if_true,Bool.true_and,JO,Option.bind_some,hd];simp
      · rw [FX JM,if_neg Ab] at g3
        rcases Lm Ht JO hmem g4 Ab with ⟨g5,g6⟩|⟨g5,g6⟩
        · omega
        · have:=hlisted i j g6 g3;rw [Gt] at this;cases this
    simp only [S7,hl];rw [hd,hu];simp only [Act.put];simp [s2,hs]
  · have hl:D5 all (fun j=>(L.setIfInBounds i true).getD j false) s all.size=D5 all (fun j=>L.getD j false) s all.size:=by
      refine GH fun j hj hw=> ?_
      rw [FX JM];by_cases e:j=i
      · subst e;rw [JO] at hw;exact absurd hw hd
      · rw [if_neg e]
    have h7s:=sl s hs;have hput:(a.put o.dst u).tmps[s]?=a.tmps[s]?:=by
      cases ZQ:o.dst with
      |none=>rfl
      | some d=>
        have:d≠s:=fun e=>hd (e▸ZQ)
        simp only [Act.put];rw [Array.getElem?_setIfInBounds_ne this]
    rw [hput,h7s];simp only [S7,hl];cases hlw:D5 all (fun j=>L.getD j false) s all.size with
    |none=>rfl
    |some j=>simp only [];rw [DO j (LI hlw).1]
theorem Z6{val val':Nat->Value}{L:Array Bool}(h:∀j,L.getD j false=true->val' j=val j)(s:Nat):S7 all a0 val (fun i=>L.getD i false) s=S7 all a0 val' (fun i=>L.getD i false) s:=by
  simp only [S7];cases hl:D5 all (fun j=>L.getD j false) s all.size with
  |none=>rfl
  |some j=>simp only [];rw [h j (LI hl).1]
theorem Kn.congr{val val':Nat->Value}{an an':An}{en en':En}{own own':List CA}{L:Array Bool}{bf:Nat->Nat}{p:List It}{it:It}(h:Kn P F n all Dk IS val an en own L bf p it)
    (hv:∀j∈Dm p,val' j=val j) (hi:val' it.ix=val it.ix) (ha:an' it.ix=an it.ix) (gq:∀i j,it= .fi i j->an' j=an j/\en' i=en i) (ho:∃N,own'.Perm (own++N)):Kn P F n all Dk IS val' an' en' own' L bf p it:=by
  have he:Hc all val' (Dm p) IS=Hc all val (Dm p) IS:=Ga hv;cases it with
  | q i=>
    obtain⟨o,KO,h1,h2,h3⟩:=h;refine⟨o,KO,h1,by rw [he,show val' i=val i from hi];exact h2,fun hl=> ?_⟩;obtain⟨Y,hY⟩:=h3 hl;obtain⟨N,hN⟩:=ho;exact⟨Y++N,by rw [<-List.append_assoc];exact hN.trans (hY.append_right N)⟩
  | f i=>
    obtain⟨o,h1,h2⟩:=h;exact⟨o,h1,by rw [he,show val' i=val i from hi];exact h2⟩
  | r i=>
    obtain⟨o,h1,h2⟩:=h;exact⟨o,h1,by rw [he,show val' i=val i from hi];exact h2⟩
  | an i=>
    obtain⟨o,vf,ob,h1,h2,h3,h4,h5⟩:=h;exact⟨o,vf,ob,h1,by rw [he];exact h2,by rw [he];exact h3,(show an' i=an i from ha).trans h4,fun hl=>(show val' i=val i from hi).trans (h5 hl)⟩
  |rv i=>exact h
  |h c m=>exact h
  | fi i j=>
    obtain⟨dd,kv,xv,iO,h1,h2⟩:=h;obtain⟨a1,a2⟩:=gq i j rfl;obtain⟨o,t,d,k,x,kt,et,vf,g1,g2,g3,g4,g5,g6,g7,g8,g9,g10,g11,g12,g13,g14,g15,g16⟩:=h1.ex;exact⟨dd,kv,xv,iO,⟨o,t,d,k,x,kt,et,vf,g1,g2,g3,g4,g5,g6,g7,g8,by rw [he];exact g9,by rw [he];exact g10,g11,g12,g13,a1.trans g14,g15,g16⟩,a2.trans h2⟩
theorem I2{pre p t:List It}{x it:It}(h:pre++ [x]=p++it::t):(∃t',pre=p++it::t')∨(p=pre/\it=x/\t= []):=by
  rcases List.eq_nil_or_concat t with rfl|⟨t',y,rfl⟩
  · obtain⟨h1,h2⟩:=List.append_inj' h rfl;simp only [List.cons.injEq,and_true] at h2
    exact .inr ⟨h1.symm,h2.symm,rfl⟩
  · left
    rw [List.concat_eq_append,<-List.cons_append,<-List.append_assoc] at h
    exact⟨t',(List.append_inj' h rfl).1⟩
def dT(en:En)(L:Array Bool):List It->Prop
  | []=>True
  | .h _ _::_=>True
  | .rv i::_=>L.getD i false=false∨∃k x,en k=some x/\x.1=i/\L.getD k false=false
  |_=>False
theorem R5{cur cur':Nat->Obj}{bf bf':Nat->Nat}{pl:List Nat}(h:∀i∈pl,cur' i=cur i/\bf' i=bf i):IW cur' bf' pl=IW cur bf pl:=by
  unfold IW;refine List.map_congr_left fun i hi=> ?_
  rw [(h i hi).1,(h i hi).2]
theorem advance(ho:NK all GZ){L:Array Bool}{a:Act}{w:World}{bf:Nat->Nat}{cur:Nat->Obj}:∀ {post pre:List It} {val:Nat->Value} {own:List CA} {an:An} {en:En} {pl:List Nat},CI P F n all Dk K Kz GZ IS a0 ds pre post val own an en cur bf pl L a w->
    ∃pre' post' val' own' an' en' pl',CI P F n all Dk K Kz GZ IS a0 ds pre' post' val' own' an' en' cur bf pl' L a w/\dT en' L post':=by
  intro post;induction post with
  |nil=>intro pre val own an en pl h;exact⟨_,_,_,_,_,_,_,h,trivial⟩
  | cons it r ih=>
    intro pre val own an en pl h;have hu:=h.un it (List.mem_cons_self ..);have hun:∀x∈r,x.exec=true->L.getD x.ix false=false:=fun x hx=>h.un x (List.mem_cons_of_mem _ hx)
    have he:GZ=(pre++ [it])++r:=by rw [h.e];simp
    have hi:it.Rl=true->it.ix∉Dm pre:=fun hs hm=>by
      have:=ho.U2;rw [h.e,DW] at this
      refine(List.nodup_append.1 this).2.2 _ hm it.ix ?_ rfl;simp [Dm,hs]
    have quiet:∀(i:Nat) (o:Oper) (v:Value) (hx:it.exec=true) (Ld:it.ix=i) (hs:it.Rl=true),(∀i,it≠ .rv i)->(∀i,it≠ .an i)->Jh P F n all Dk K Kz r (IE all i v (Hc all val (Dm pre) IS)) own an en->
        (∀val':Nat->Value,val' i=v->(∀j,j≠i->val' j=val j)->Kn P F n all Dk IS val' an en own L bf pre it)->
        ∃pre' post' val' own' an' en' pl',CI P F n all Dk K Kz GZ IS a0 ds pre' post' val' own' an' en' cur bf pl' L a w/\dT en' L post':=by
      intro i o v hx Ld hs pW gj XE Yz;have Gt:L.getD i false=false:=Ld▸hu hx;have hi':i∉Dm pre:=Ld▸hi hs
      let val':Nat->Value:=fun j=>if j=i then v else val j
      have v1:val' i=v:=by simp [val']
      have v2:∀j,j≠i->val' j=val j:=fun j hj=>by simp only [val'];rw [if_neg hj]
      have vL:∀j,L.getD j false=true->val' j=val j:=fun j hj=>v2 j fun e=>by rw [e,Gt] at hj;cases hj
      have vp:∀j∈Dm pre,val' j=val j:=fun j hj=>v2 j fun e=>hi' (e▸hj)
      refine ih (pre:=pre++ [it]) (val:=val') (own:=own) (an:=an) (en:=en) (pl:=pl) ⟨h.s1,h.s2,h.s3,h.s4,he,fun s hs=> ?_,?_,h.sat,fun p jt t hp=> ?_,hun,h.pr,h.pn,fun j=> ?_,h.cu,fun k x hk=>List.mem_append.2 (.inl (h.ei k x hk)),h.ed,fun j hj=>h.rq j ((List.mem_append.1 hj).resolve_right fun e=>pW j (List.mem_singleton.1 e).symm)⟩
      · rw [h.sl s hs,Z6 vL]
      · have e1:Dm (pre++ [it])=Dm pre++ [i]:=by rw [DW];simp [Dm,hs,Ld]
        rw [e1,Nx,v1,Ga vp];exact XE
      · rcases I2 hp with ⟨t',rfl⟩|⟨rfl,rfl, -⟩
        · refine(h.kn p jt t' rfl).congr (fun j hj=>vp j (by rw [DW];exact List.mem_append.2 (.inl hj))) (v2 _ fun e=> ?_) rfl (fun _ _ _=>⟨rfl,rfl⟩) ⟨[],by simp⟩;by_cases hjx:jt.exec=true
          · refine(El ho (p:=p++jt::t') (t:=r) (it:=it) (by rw [h.e]) hx).1 ?_;rw [Ld,<-e];exact DB Am hjx
          · cases jt with
            |rv k=>exact hi' (by rw [<-e];exact FV (it:= .rv k) Am rfl)
            |_=>exact absurd rfl hjx
        · exact Yz val' v1 v2
      · rw [h.pm j];refine⟨fun⟨g1,g2,g3⟩=>⟨List.mem_append.2 (.inl g1),g2,?_⟩,fun⟨g1,g2,g3⟩=>⟨?_,g2,List.mem_cons_of_mem _ g3⟩⟩
        · rcases List.mem_cons.1 g3 with g3|g3
          · exact absurd g3.symm (pW j)
          · exact g3
        · rcases List.mem_append.1 g1 with g1|g1
          · exact g1
          · exact absurd (List.mem_singleton.1 g1).symm (gj j)
    cases it with
    | q i=>
      obtain⟨o,v,h1,h2,h3⟩:=h.ch;refine quiet i o v rfl rfl rfl (fun _ e=>by cases e) (fun _ e=>by cases e) h3 fun val' v1 v2=>⟨o,own,h1,?_,fun _=>⟨[],by simp⟩⟩
      rw [v1,Ga fun j hj=>v2 j fun e=>hi rfl (e▸hj)];exact h2
    | f i=>
      obtain⟨o,v,h1,h2,h3⟩:=h.ch;refine quiet i o v rfl rfl rfl (fun _ e=>by cases e) (fun _ e=>by cases e) h3 fun val' v1 v2=>⟨o,h1,?_⟩
      rw [v1,Ga fun j hj=>v2 j fun e=>hi rfl (e▸hj)];exact h2
    | r i=>
      obtain⟨o,v,h1,h2,h3⟩:=h.ch;refine quiet i o v rfl rfl rfl (fun _ e=>by cases e) (fun _ e=>by cases e) h3 fun val' v1 v2=>⟨o,h1,?_⟩
      rw [v1,Ga fun j hj=>v2 j fun e=>hi rfl (e▸hj)];exact h2
    | an i=>
      obtain⟨o,vf,ob,h1,h2,h3,h4⟩:=h.ch;have Gt:L.getD i false=false:=hu rfl;have ha:∀j,j≠i->UX an i (vf,ob) j=an j:=fun j hj=>by simp only [UX];rw [if_neg hj]
      have OR:∀j∈pl,j≠i:=fun j hj e=>by have:=((h.pm j).1 hj).2.1;rw [e,Gt] at this;cases this
      refine ih (pre:=pre++ [.an i]) (val:=val) (own:=own) (an:=UX an i (vf,ob)) (en:=en) (pl:=pl) ⟨h.s1,h.s2,h.s3,h.s4,he,h.sl,?_,h.sat,fun p jt t hp=> ?_,hun,h.pr,h.pn,fun j=> ?_,fun j hj eJ Zt Wy=>h.cu j hj eJ Zt (by rw [ha j (OR j hj)] at Wy;exact Wy),fun k x hk=>List.mem_append.2 (.inl (h.ei k x hk)),h.ed,fun j hj=>h.rq j ((List.mem_append.1 hj).resolve_right fun e=>by cases List.mem_singleton.1 e)⟩
      · have e1:Dm (pre++ [.an i])=Dm pre:=by rw [DW];simp [Dm,It.Rl]
        rw [e1];exact h4
      · rcases I2 hp with ⟨t',rfl⟩|⟨rfl,rfl, -⟩
        · have gq:∀i2 j2,jt= .fi i2 j2->UX an i (vf,ob) j2=an j2/\en i2=en i2:=fun i2 j2 e2=>by
            subst e2;refine⟨ha j2 fun e3=> ?_,rfl⟩;subst e3;have h5:=(ho.c5 p i2 j2 (t'++ .an j2::r) (by rw [h.e];simp)).1;exact(El ho (p:=p++ .fi i2 j2::t') (t:=r) (it:= .an j2) (by rw [h.e]) rfl).1 (by rw [DR];exact List.mem_append.2 (.inl (DB (it:= .an j2) h5 rfl)))
          by_cases ej:jt.ix=i
          · by_cases hjx:jt.exec=true
            · exfalso;refine(El ho (p:=p++jt::t') (t:=r) (it:= .an i) (by rw [h.e]) rfl).1 ?_;rw [show(It.an i).ix=i from rfl,<-ej];exact DB Am hjx
            · cases jt with
              |rv k=>exact h.kn p (.rv k) t' rfl
              |_=>exact absurd rfl hjx
          · exact(h.kn p jt t' rfl).congr (fun _ _=>rfl) rfl (ha _ ej) gq ⟨[],by simp⟩
        · exact⟨o,vf,ob,h1,h2,h3,by simp [UX],fun hl=>by rw [Gt] at hl;cases hl⟩
      · rw [h.pm j];refine⟨fun⟨g1,g2,g3⟩=>⟨List.mem_append.2 (.inl g1),g2,?_⟩,fun⟨g1,g2,g3⟩=>⟨?_,g2,List.mem_cons_of_mem _ g3⟩⟩
        · rcases List.mem_cons.1 g3 with g3|g3
          · cases g3
          · exact g3
        · rcases List.mem_append.1 g1 with g1|g1
          · exact g1
          · have:=List.mem_singleton.1 g1;cases this;rw [Gt] at g2;cases g2
    | fi i j=>
      obtain⟨dd,kv,xv,h1,h2⟩:=h.ch;have Gt:L.getD i false=false:=hu rfl;have hni:i∉GU pre:=(El ho h.e rfl).1;have iK:en i=none:=by
        cases e:en i with
        |none=>rfl
        |some x=>exact(hni (DB (it:= .fi i x.1) (h.ei i x e) rfl)).elim
      have e2:∀k,k≠i->Rt en i (j,dd,kv,xv) k=en k:=fun k hk=>by simp only [Rt];rw [if_neg hk]
      have e3:Rt en i (j,dd,kv,xv) i=some (j,dd,kv,xv):=by simp [Rt]
      have O6:(all[i]?).bind (·.dst)=none:=by
        obtain⟨o,t,d,k,x,kt,et,vf,g1,g2,g3, -⟩:=h1.ex;rw [g1];exact g3
      have henv:∀l:List Nat,Hc all val (l++ [i]) IS=Hc all val l IS:=fun l=>by rw [Nx];simp only [IE,O6]
      obtain⟨o1,t1,d1,k1,x1,sV,te,sE,q1,q2,q3,q4,q5,q6,q7,q8,q9,qZ,qY,sP,sO,sN,sK,pK⟩:=h1.ex;have OR:∀l∈pl,Gb (Rt en i (j,dd,kv,xv)) (fun k=>L.getD k false) all.size l=Gb en (fun k=>L.getD k false) all.size l:=fun l _=>Ny fun k=>by
        by_cases ek:k=i
        · subst ek;simp only [Jg,Gt]
        · simp only [Jg,e2 k ek]
      refine ih (pre:=pre++ [.fi i j]) (val:=val) (own:=own) (an:=an) (en:=Rt en i (j,dd,kv,xv)) (pl:=pl) ⟨h.s1,h.s2,h.s3,h.s4,he,h.sl,?_,h.sat,fun p jt t hp=> ?_,hun,h.pr,h.pn,fun l=> ?_,fun l hl vf ob ha=>by rw [OR l hl];exact h.cu l hl vf ob ha,fun k x hk=> ?_,fun k l j' dk pP oY dl pO oX hk hl Ns=> ?_,fun l hl k x hk hx=> ?_⟩
      · have e1:Dm (pre++ [.fi i j])=Dm pre++ [i]:=by rw [DW];rfl
        rw [e1,henv];exact h2
      · rcases I2 hp with ⟨t',rfl⟩|⟨rfl,rfl, -⟩
        · refine(h.kn p jt t' rfl).congr (fun _ _=>rfl) rfl rfl (fun i2 j2 e4=>⟨rfl,e2 i2 fun e5=> ?_⟩) ⟨[],by simp⟩;subst e4;subst e5;exact hni (DB (it:= .fi i2 j2) Am rfl)
        · exact⟨dd,kv,xv,en,h1,e3⟩
      · rw [h.pm l];refine⟨fun⟨g1,g2,g3⟩=>⟨List.mem_append.2 (.inl g1),g2,?_⟩,fun⟨g1,g2,g3⟩=>⟨?_,g2,List.mem_cons_of_mem _ g3⟩⟩
        · rcases List.mem_cons.1 g3 with g3|g3
          · cases g3
          · exact g3
        · rcases List.mem_append.1 g1 with g1|g1
          · exact g1
          · cases List.mem_singleton.1 g1
      · by_cases ek:k=i
        · subst ek;rw [e3] at hk;cases hk;simp
        · rw [e2 k ek] at hk;exact List.mem_append.2 (.inl (h.ei k x hk))
      · by_cases ek:k=i
        · subst ek;rw [e3] at hk;cases hk
          rw [e2 l (Ne.symm Ns)] at hl
          exact(pK l dl pO oX hl).1
        · rw [e2 k ek] at hk
          by_cases el:l=i
          · subst el;rw [e3] at hl;cases hl
            exact(pK k dk pP oY hk).2
          · rw [e2 l el] at hl
            exact h.ed k l j' dk pP oY dl pO oX hk hl Ns
      · have hl': .rv l∈pre:=(List.mem_append.1 hl).resolve_right fun e=>by cases List.mem_singleton.1 e
        by_cases ek:k=i
        · subst ek;rw [e3] at hk;cases hk
          obtain⟨p5,p6,jI⟩:=List.append_of_mem hl';have KL:j=l:=hx;subst KL;exact((ho.c4 p5 j (p6++ .fi k j::r) (by rw [h.e,jI];simp)).2 k Am).elim
        · rw [e2 k ek] at hk;exact h.rq l hl' k x hk hx
    | rv i=>
      by_cases hW:L.getD i false=true/\∀k x,en k=some x->x.1=i->L.getD k false=true
      · obtain⟨hL,hW⟩:=hW;obtain⟨vf,ob,h1,h2⟩:=h.ch;have hc:=ho.c2 pre i r h.e;obtain⟨p3,p4,od⟩:=List.append_of_mem hc.2;obtain⟨o,sF,Zu,k1,k2,k3,k4,k5⟩:=h.kn p3 (.an i) p4 od;rw [h1] at k4;cases k4
        have hpi:i∈pl:=(h.pm i).2 ⟨hc.2,hL,List.mem_cons_self ..⟩;have hper:(IW cur bf pl).Perm (CV (bf i) (cur i)::IW cur bf (pl.erase i)):=by
          have:=(List.perm_cons_erase hpi).map (fun i=>CV (bf i) (cur i));simp only [List.map_cons] at this
          exact this
        have E7:Pb (Gb en (fun _=>true) all.size i) ob (cur i):=by
          have:=h.cu i hpi vf ob h1;rw [Ny (L':=fun _=>true) (en':=en)] at this
          · exact this
          · intro k;simp only [Jg];cases e:en k with
            |none=>cases L.getD k false <;>rfl
            | some x=>
              by_cases ex:x.1=i
              · rw [hW k x e ex]
              · obtain⟨j',dd,kv,xv⟩:=x;have:¬j'=i:=ex;cases L.getD k false <;>simp [this]
        refine ih (pre:=pre++ [.rv i]) (val:=val) (own:=CV (bf i) (cur i)::own) (an:=an) (en:=en) (pl:=pl.erase i) ⟨h.s1,h.s2,h.s3,h.s4,he,h.sl,?_,?_,fun p jt t hp=> ?_,hun,(fun k hk Wx=>by obtain⟨Y,hY⟩:=h.pr k hk Wx;exact⟨CV (bf i) (cur i)::Y,(hY.cons _).trans (List.perm_middle (a:=CV (bf i) (cur i)) (l₁:=Dk) (l₂:=Y)).symm⟩),h.pn.erase _,fun j=> ?_,fun j hj=>h.cu j (List.mem_of_mem_erase hj),fun k x hk=>List.mem_append.2 (.inl (h.ei k x hk)),h.ed,fun j hj k x hk hx=>by
          rcases List.mem_append.1 hj with hj|hj
          · exact h.rq j hj k x hk hx
          · cases List.mem_singleton.1 hj;exact hW k x hk hx⟩
        · have e1:Dm (pre++ [.rv i])=Dm pre++ [i]:=by rw [DW];rfl
          rw [e1,Nx,k5 hL];exact h2 (bf i) _ E7
        · refine h.sat.perm ?_;have:=(hper.append_left (F::own)).trans (List.perm_middle (a:=CV (bf i) (cur i)) (l₁:=F::own) (l₂:=IW cur bf (pl.erase i)));refine this.trans ?_;simpa using List.Perm.swap F (CV (bf i) (cur i)) (own++IW cur bf (pl.erase i))
        · rcases I2 hp with ⟨t',rfl⟩|⟨rfl,rfl, -⟩
          · exact(h.kn p jt t' rfl).congr (fun _ _=>rfl) rfl rfl (fun _ _ _=>⟨rfl,rfl⟩) ⟨[CV (bf i) (cur i)],by simpa using(List.perm_append_comm (l₁:= [CV (bf i) (cur i)]) (l₂:=own))⟩
          · exact hL
        · rw [List.Nodup.mem_erase_iff h.pn,h.pm j];constructor
          · rintro⟨g0,g1,g2,g3⟩;refine⟨List.mem_append.2 (.inl g1),g2,?_⟩;rcases List.mem_cons.1 g3 with g3|g3
            · cases g3;exact absurd rfl g0
            · exact g3
          · rintro⟨g1,g2,g3⟩;refine⟨fun e=> ?_,?_,g2,List.mem_cons_of_mem _ g3⟩
            · subst e;have:=ho.U2;rw [he,DW] at this
              refine(List.nodup_append.1 this).2.2 j ?_ j (FV (it:= .rv j) g3 rfl) rfl;exact FV (it:= .rv j) Am rfl
            · rcases List.mem_append.1 g1 with g1|g1
              · exact g1
              · cases List.mem_singleton.1 g1
      · refine⟨_,_,_,_,_,_,_,h,?_⟩;show L.getD i false=false∨_;cases hL:L.getD i false with
        |false=>exact .inl rfl
        | true=>
          right
          refine Classical.byContradiction fun Sx=>hW ⟨hL,fun k x hk hx=> ?_⟩
          cases hLk:L.getD k false with
          |true=>rfl
          |false=>exact(Sx ⟨k,x,hk,hx,hLk⟩).elim
    |h c m=>exact⟨_,_,_,_,_,_,_,h,trivial⟩
end
section
theorem Wc{all:Array Oper}(h:ZZ all=true){L:Array Bool}(Hs:L.size=all.size)(hr:Region.ready .any all L= []):∀i,i<all.size->L.getD i false=true:=by
  intro i;induction i using Nat.strongRecOn with
  | _ i ih=>
    intro hi;cases hL:L.getD i false with
    |true=>rfl
    | false=>
      exfalso;have ho:all[i]?=some all[i]:=Array.getElem?_eq_getElem hi;have:i∈Region.ready .any all L:=by
        unfold Region.ready;rw [List.mem_filter];refine⟨List.mem_range.2 hi,?_⟩;have hLt:L.getD i true=false:=by
          have E6:i<L.size:=by omega
          simp only [Array.getD,E6,dif_pos] at hL ⊢;exact hL
        simp only [hLt,Bool.not_false,Bool.true_and,ho,Option.map_some,Option.getD_some];rw [Array.all_eq_true'];intro e he;cases hb:Region.binds .any e with
        |false=>rfl
        | true=>
          have E6:e.on<i:=gD h ho he hb;simpa using ih e.on E6 Ab
      rw [hr] at this;cases this
theorem Xl{all:Array Oper}{L:Nat->Bool}{s j:Nat}:∀ {m:Nat},j<m->L j=true->(all[j]?).bind (·.dst)=some s->∃k,D5 all L s m=some k:=by
  intro m;induction m with
  |zero=>intro h;omega
  | succ m ih=>
    intro hj hL hd;simp only [D5];by_cases e:j=m
    · subst e;rw [hL,hd];simp
    · split
      · exact⟨m,rfl⟩
      · exact ih Ab hL hd
theorem Nw{d:TypeDesc}{k:Value}:∀ {l:List MapEntry} {i:Nat},(∀e∈l,Instr.sameNow d k e.key=some false)->Instr.findNow d k l i=some none
  | [],i,_=>rfl
  | e::l,i,h=>by
    simp only [Instr.findNow,h e (List.mem_cons_self ..)];exact Nw fun e' he=>h e' (List.mem_cons_of_mem _ he)
theorem Y8 {P : Program}{r:Option Nat}{F:CA}{n:Nat}{Q:DD}{env:Env}{own:List CA}{ds:List Deferred}{id:Nat}{ops:Array Oper}{GZ:List It}(Dk:List CA)(rD:∃Y,own.Perm (Dk++Y))
    (Ht:ZZ ops=true) (rH:P.follows .mixedOrders=true) (ZN:Yv ops GZ=true) (O6:∀(i d:Nat),(ops[i]?).bind (·.dst)=some d->d<n)
    (h:Jh P F n ops Dk (fun env own=>Q .normal env own ds) (fun ch own=>Q (.panic ch) [] own ds) GZ env own (fun _=>none) (fun _=>none)):DI P r F n (.region id ops true) Q env own ds:=by
  intro a0 w0 VE c8 Wt;refine wpIn_region_draw fun t=> ?_
  obtain⟨md,t',cT⟩:∃md t',Region.schedule (P.follows .mixedOrders) ops t=Region.linearise md ops t'/\md= .any:=⟨.any,t,by unfold Region.schedule;rw [rH];rfl,rfl⟩;obtain⟨cT,kN⟩:=cT;rw [cT];have ho:=Xt ZN
  let Inv:Array Bool->Act->World->Prop:=fun L a w=>∃pre post val own an en cur bf pl,CI P F n ops Dk (fun env own=>Q .normal env own ds) (fun ch own=>Q (.panic ch) [] own ds) GZ env a0 ds pre post val own an en cur bf pl L a w/\dT en L post
  have hend : ∀L a w,Inv L a w->(∀i,i<ops.size->L.getD i false=true)->H9 F n Q .normal a w:=by
    rintro L a w ⟨pre,post,val,own,an,en,cur,bf,pl,h,Gy⟩ Fp;have hpost:post= []:=by
      cases post with
      |nil=>rfl
      | cons it r=>
        exfalso;have E6:it.exec=true->False:=fun hx=>by
          have h1:=h.un it (List.mem_cons_self ..) hx;have hs:it.Rl=true∨it.Rl=false:=by cases it.Rl <;>simp
          have:it.ix<ops.size:=by
            have hm:it.ix∈GU GZ:=by rw [h.e];exact DB Am hx
            cases it with
            | an i=>
              by_cases hb:i<ops.size
              · exact hb
              · exfalso;cases Gy
            |q i=>exact ho.OM i (by rw [h.e];exact FV (it:= .q i) Am rfl)
            |f i=>exact ho.OM i (by rw [h.e];exact FV (it:= .f i) Am rfl)
            |r i=>exact ho.OM i (by rw [h.e];exact FV (it:= .r i) Am rfl)
            |rv i=>cases hx
            |h c i=>exact ho.OM i (by rw [h.e];exact FV (it:= .h c i) Am rfl)
            |fi i j=>exact ho.OM i (by rw [h.e];exact FV (it:= .fi i j) Am rfl)
          rw [Fp _ this] at h1;cases h1
        cases it with
        | rv i=>
          have:i<ops.size:=ho.OM i (by rw [h.e];exact FV (it:= .rv i) Am rfl);have Qp:L.getD i false=false∨∃k x,en k=some x/\x.1=i/\L.getD k false=false:=Gy;rcases Qp with Qp|⟨k,x,hk, -,Qp⟩
          · rw [Fp _ this] at Qp;cases Qp
          · have E6:k<ops.size:=ho.OM k (by rw [h.e];exact FV (it:= .fi k x.1) (List.mem_append.2 (.inl (h.ei k x hk))) rfl);rw [Fp _ E6] at Qp;cases Qp
        |_=>exact E6 rfl
    subst hpost;have ga:GZ=pre:=by rw [h.e,List.append_nil]
    have OR:pl= []:=by
      cases pl with
      |nil=>rfl
      |cons i l=>have:=((h.pm i).1 (List.mem_cons_self ..)).2.2;cases this
    have Vw:=h.sat;rw [OR] at Vw
    refine⟨by simp,_,_,Qw ho O6 VE (p:=GZ) (t:= []) (val:=val) Am h.s2 (fun s hs=> ?_),by simpa [IW] using Vw,?_⟩
    · rw [h.sl s hs];simp only [S7];rw [GH (L:=fun i=>L.getD i false) (L':=fun j=>(Dm GZ).contains j) fun j hj _=>by rw [Fp j hj];simpa using ho.W7 j hj]
    · rw [h.s3,ga];exact h.ch
  have key : ∀ fuel L a w,Inv L a w->fuel+J7 L ops.size=ops.size->wpAnyIn (Pv r) 0 P md ops (H9 F n Q) fuel L a w:=by
    intro fuel;induction fuel with
    | zero=>
      intro L a w hI hf;have Fp:=VZ ops.size (by omega:J7 L ops.size=ops.size);refine⟨?_,hend L a w hI Fp⟩;obtain⟨pre,post,val,own,an,en,cur,bf,pl,h,Gy⟩:=hI;unfold Region.ready;rw [List.filter_eq_nil_iff];intro i hi;have hi':=List.mem_range.1 hi;have hL:=Fp i hi';have hLt:L.getD i true=true:=by
        have E6:i<L.size:=by rw [h.s1];exact hi'
        simp only [Array.getD,E6,dif_pos] at hL ⊢;exact hL
      simp [hLt]
    | succ fuel ih=>
      intro L a w hI hf;refine⟨fun hr=>hend L a w hI (by obtain⟨pre,post,val,own,an,en,cur,bf,pl,h,Gy⟩:=hI;exact Wc Ht h.s1 (kN▸hr)),fun i hi=> ?_⟩;obtain⟨pre,post,val,own,an,en,cur,bf,pl,h,Gy⟩:=hI;unfold Region.ready at hi
      rw [List.mem_filter] at hi
      obtain⟨NQ,LW⟩:=hi;have NQ:=List.mem_range.1 NQ;have JM:i<L.size:=by rw [h.s1];exact NQ
      have JO:ops[i]?=some ops[i]:=Array.getElem?_eq_getElem NQ;simp only [JO,Option.map_some,Option.getD_some,Bool.and_eq_true,Bool.not_eq_true',Array.all_eq_true'] at LW
      obtain⟨lV,Kq⟩:=LW;have Gt:L.getD i false=false:=by simp only [Array.getD,JM,dif_pos] at lV ⊢;exact lV
      have hrd':∀e∈ops[i].after,Region.binds .any e=true->L.getD e.on false=true:=fun e he hb=>by
        have:=Kq e he;rw [S6 hb] at this;simpa using this
      have Lc:∀j,MK ops j i->L.getD j false=true:=fun j hj=>hj.ready (L:=fun j=>L.getD j false) h.s4 JO hrd'
      have hdown:∀j o,(L.setIfInBounds i true).getD j false=true->ops[j]?=some o->∀e∈o.after,Region.binds .any e=true->(L.setIfInBounds i true).getD e.on false=true:=by
        intro j o hj ho e he hb;rw [FX JM] at hj ⊢
        by_cases e':e.on=i
        · rw [if_pos e']
        · rw [if_neg e'];by_cases ej:j=i
          · subst ej;rw [JO] at ho;cases ho;exact hrd' e he hb
          · rw [if_neg ej] at hj;exact h.s4 j o hj ho e he hb
      have hcnt:fuel+J7 (L.setIfInBounds i true) ops.size=ops.size:=by rw [KA JM Gt,if_pos NQ];omega
      have hsz2:∀u,(a.put (ops[i]).dst u).tmps.size=n:=fun u=>by cases (ops[i]).dst <;>simp [Act.put,h.s2]
      have hdf2:∀u,(a.put (ops[i]).dst u).defers=ds:=fun u=>by cases (ops[i]).dst <;>simp [Act.put,h.s3]
      have hLo:∀j,j≠i->(L.setIfInBounds i true).getD j false=L.getD j false:=fun j hj=>by rw [FX JM,if_neg hj]
      have hLi:(L.setIfInBounds i true).getD i false=true:=by rw [FX JM,if_pos rfl]
      have hold:∀k,(L.setIfInBounds i true).getD k false=false->L.getD k false=false:=fun k hk=>by
        by_cases e:k=i
        · rw [e,hLi] at hk;cases hk
        · rwa [hLo k e] at hk
      have fin:∀ {pre' post' val' own' an' en' cur' bf' pl' a' w'},CI P F n ops Dk (fun env own=>Q .normal env own ds) (fun ch own=>Q (.panic ch) [] own ds) GZ env a0 ds pre' post' val' own' an' en' cur' bf' pl' (L.setIfInBounds i true) a' w'->wpAnyIn (Pv r) 0 P md ops (H9 F n Q) fuel (L.setIfInBounds i true) a' w':=fun hc=>by
        obtain⟨pre',post',val',own',an',en',pl',ZT,Qp⟩:=advance ho hc;exact ih _ _ _ ⟨pre',post',val',own',an',en',_,_,pl',ZT,Qp⟩ hcnt
      have hrq:∀j,.rv j∈pre->∀k x,en k=some x->x.1=j->(L.setIfInBounds i true).getD k false=true:=fun j hj k x hk hx=>by
        by_cases ek:k=i
        · subst ek;exact hLi
        · rw [hLo k ek];exact h.rq j hj k x hk hx
      have cu2:en i=none->∀l∈pl,∀vf ob,an l=some (vf,ob)->Pb (Gb en (fun k=>(L.setIfInBounds i true).getD k false) ops.size l) ob (cur l):=fun iK l hl vf ob ha=>by
        refine(h.cu l hl vf ob ha).perm ?_;have:=QF (en:=en) (j:=l) NQ JM Gt;rw [iK,List.append_nil] at this
        exact this.symm
      have hmem:=ho.mh i NQ;rw [h.e,DR] at hmem
      rcases List.mem_append.1 hmem with hmem|hmem
      · obtain ⟨p,it,t2,hp,hx,Ld⟩:=dy hmem;have hsplit:GZ=p++it::(t2++post):=by rw [h.e,hp];simp
        have hio':ops[it.ix]?=some ops[i]:=by rw [Ld];exact JO
        obtain⟨Z8,Nt,Hu⟩:=V4 Ht ho O6 VE h.s2 h.s4 h.sl hsplit hx hio' (by rw [Ld];exact Gt) (by rw [Ld];exact Lc);have Yz:=h.kn p it t2 hp;have iK:(∀i' j',it≠ .fi i' j')->en i=none:=fun jM=>by
          cases e:en i with
          |none=>rfl
          | some x=>
            exfalso;have ES:=h.ei i x e;have q1:=El ho hsplit hx;rw [hp] at ES
            rcases List.mem_append.1 ES with ES|ES
            · exact q1.1 (by rw [Ld];exact DB (it:= .fi i x.1) ES rfl)
            · rcases List.mem_cons.1 ES with ES|ES
              · exact jM _ _ ES.symm
              · exact q1.2 (by rw [DR,Ld];exact List.mem_append.2 (.inl (DB (it:= .fi i x.1) ES rfl)))
        have next :∀w' Nz,val i=val i->Sat (F::own++IW Nz bf pl) w'->(∀j,it≠ .an j)->(∀l∈pl,∀vf ob,an l=some (vf,ob)->Pb (Gb en (fun k=>(L.setIfInBounds i true).getD k false) ops.size l) ob (Nz l))->wpAnyIn (Pv r) 0 P md ops (H9 F n Q) fuel (L.setIfInBounds i true) (a.put (ops[i]).dst (val i)) w':=fun w' Nz _ hs' gj ox=>by
          refine fin (pre':=pre) (post':=post) (val':=val) (own':=own) (an':=an) (en':=en) (cur':=Nz) (bf':=bf) (pl':=pl) ⟨by simpa using h.s1,hsz2 _,hdf2 _,hdown,h.e,QO Ht h.s2 h.s4 h.sl JO JM h.s1 Gt val _ rfl (fun _ _=>rfl),h.ch,hs',fun p' jt t' aw=> ?_,fun x KL iy=> ?_,(fun k hk Wx=>h.pr k hk (hold k Wx)),h.pn,fun j=> ?_,ox,h.ei,h.ed,hrq⟩
          · have hk:=h.kn p' jt t' aw;cases jt with
            | q j=>
              obtain⟨o,KO,h1,h2,h3⟩:=hk;refine⟨o,KO,h1,h2,fun hl=>h3 ?_⟩;by_cases ej:j=i
              · subst ej;rw [hLi] at hl;cases hl
              · rwa [hLo j ej] at hl
            |f j=>exact hk
            |r j=>exact hk
            | an j=>
              obtain⟨o,vf,ob,h1,h2,h3,h4,h5⟩:=hk;refine⟨o,vf,ob,h1,h2,h3,h4,fun hl=>h5 ?_⟩;by_cases ej:j=i
              · exfalso;subst ej;have FF:GZ=p'++ .an j::(t'++post):=by rw [h.e,aw];simp
                have q1:=El ho FF rfl;have ES:it∈pre:=by rw [hp];simp
                rw [aw] at ES
                rcases List.mem_append.1 ES with ES|ES
                · exact q1.1 (by rw [show(It.an j).ix=it.ix from Ld.symm];exact DB ES hx)
                · rcases List.mem_cons.1 ES with ES|ES
                  · exact gj j ES
                  · exact q1.2 (by rw [DR,show(It.an j).ix=it.ix from Ld.symm];exact List.mem_append.2 (.inl (DB ES hx)))
              · rwa [hLo j ej] at hl
            | rv j=>
              show(L.setIfInBounds i true).getD j false=true;by_cases ej:j=i
              · subst ej;exact hLi
              · rw [hLo j ej];exact hk
            | h c j=>
              show(L.setIfInBounds i true).getD j false=true;by_cases ej:j=i
              · subst ej;exact hLi
              · rw [hLo j ej];exact hk
            |fi i2 j=>exact hk
          · rw [hLo]
            · exact h.un x KL iy
            · intro e;have q2:=(El ho hsplit hx).2;rw [Ld,<-e,DR] at q2
              exact q2 (List.mem_append.2 (.inr (DB KL iy)))
          · rw [h.pm j];by_cases ej:j=i
            · subst ej;rw [Gt,hLi];refine⟨fun g=>by simp at g,fun⟨g1,_,g3⟩=> ?_⟩;exfalso;obtain⟨q1,q2,hq⟩:=List.append_of_mem g1;have FF:GZ=q1++ .an j::(q2++post):=by rw [h.e,hq];simp
              have hn:=El ho FF rfl;have ES:it∈pre:=by rw [hp];simp
              rw [hq] at ES
              rcases List.mem_append.1 ES with ES|ES
              · exact hn.1 (by rw [show(It.an j).ix=it.ix from Ld.symm];exact DB ES hx)
              · rcases List.mem_cons.1 ES with ES|ES
                · exact gj j ES
                · exact hn.2 (by rw [DR,show(It.an j).ix=it.ix from Ld.symm];exact List.mem_append.2 (.inl (DB ES hx)))
            · rw [hLo j ej]
        have quiet:∀ {F1:CA} {own1 Y:List CA},Ky P F1 n ops own1 (Hc ops val (Dm p) env) ops[i] (val i)->Sat (F1::own1++Y) w->
            (∀w',Sat (F1::own1++Y) w'->Sat (F::own++IW cur bf pl) w')->(∀j,it≠ .an j)->(∀i' j',it≠ .fi i' j')->
            wpOpIn (Pv r) 0 P ops (H9 F n Q) i (wpAnyIn (Pv r) 0 P md ops (H9 F n Q) fuel (L.setIfInBounds i true)) a w:=by
          intro F1 own1 Y hc hs hk gj jM;have Hu:=fun s hs=>Hu s hs (fun i' j' e=>(jM i' j' e).elim)
          rcases hc.1 with ⟨hg,hvv⟩|⟨hg,hu,OR⟩
          · simp only [wpOpIn,JO,(F3 Hu).trans (Ee Nt hg),if_true];refine⟨fun f _=>by simp,?_⟩;rw [Ff,semAt_plain hvv.1,Kw Hu (LN Ht JO)];obtain⟨w',s',g1|⟨g1,g2⟩|⟨f,args,g1,g2⟩⟩:=hvv.2 Z8 w Y Nt hs
            · rw [g1];exact next w' cur rfl (hk w' s') gj (cu2 (iK jM))
            · rw [g1];have:=next w' cur rfl (hk w' s') gj (cu2 (iK jM));rw [g2] at this;exact this
            · rw [g1];refine⟨fun hx=>by simp at hx,(F0 _ g2).mono ?_⟩;rintro e MN ⟨rfl,s2⟩;exact next MN cur rfl (hk MN s2) gj (cu2 (iK jM))
          · simp only [wpOpIn,JO,(F3 Hu).trans (Ee Nt hg)];refine⟨fun f _=>by simp,?_⟩;have:=next w cur rfl (hk w hs) gj (cu2 (iK jM));rw [hu] at this;exact this
        cases it with
        | q j=>
          obtain rfl:j=i:=Ld;obtain⟨o,KO,h1,h2,h3⟩:=Yz;rw [JO] at h1;cases h1
          obtain⟨Y,hY⟩:=h3 Gt;have pp:(F::own++IW cur bf pl).Perm (F::KO++(Y++IW cur bf pl)):=by
            have:=(hY.append_right (IW cur bf pl)).cons F;simpa [List.append_assoc] using this
          exact quiet h2 (h.sat.perm pp) (fun w' s'=>s'.perm pp.symm) (fun _ e=>by cases e) (fun _ _ e=>by cases e)
        | f j=>
          obtain rfl:j=i:=Ld;obtain⟨o,h1,h2⟩:=Yz;rw [JO] at h1;cases h1
          have hemp:Sat (emp::(F::own++IW cur bf pl)) w:=⟨fun k hk=>by
            rcases List.mem_cons.1 hk with rfl|hk
            · intro b o e;cases e
            · exact h.sat.le k hk,List.pairwise_cons.2 ⟨fun _ _ _ _ _ e _=>(by cases e),h.sat.dj⟩⟩
          exact quiet (Y:=F::own++IW cur bf pl) h2 (by simpa using hemp) (fun w' s'=>s'.tail) (fun _ e=>by cases e) (fun _ _ e=>by cases e)
        | r j=>
          obtain rfl:j=i:=Ld;obtain⟨o,h1,h2⟩:=Yz;rw [JO] at h1;cases h1
          obtain⟨Y,hY⟩:=h.pr j (by simpa using NQ) Gt;have pp:(F::own++IW cur bf pl).Perm (F::Dk++(Y++IW cur bf pl)):=by
            have:=(hY.append_right (IW cur bf pl)).cons F;simpa [List.append_assoc] using this
          exact quiet h2 (h.sat.perm pp) (fun w' s'=>s'.perm pp.symm) (fun _ e=>by cases e) (fun _ _ e=>by cases e)
        |rv j=>cases hx
        | h c j=>
          obtain rfl:j=i:=Ld;rw [show L.getD j false=true from Yz] at Gt;cases Gt
        | fi i2 j=>
          obtain rfl:i2=i:=Ld;obtain⟨dd,kv,xv,iO,gp,c7⟩:=Yz;obtain⟨o,t,d,k,x,kt,et,vf,g1,g2,g3,g4,g5,g6,g7,g8,g9,g10,g11,g12,g13,g14,g15, -⟩:=gp.ex;rw [JO] at g1;cases g1
          obtain⟨se,sd⟩:=ho.c5 p i2 j (t2++post) hsplit;have hLj:L.getD j false=true:=Lc j sd;have hjlt:j<ops.size:=by
            cases e:ops[j]? with
            |none=>rw [e] at g5;cases g5
            |some _=>exact(Array.getElem?_eq_some_iff.1 e).1
          have hanpre: .an j∈pre:=by rw [hp];exact List.mem_append.2 (.inl se)
          have hrv: .rv j∈post:=by
            have h1:=ho.W7 j hjlt;obtain⟨p1,TT,p2,MB,hs',KL⟩:=JW h1;have excl:TT.exec=true->(∀k,TT≠ .an k)->False:=fun pT oh=>by
              obtain⟨q1,q2,fZ⟩:=List.append_of_mem hanpre;have hn:=El ho (p:=q1) (t:=q2++post) (it:= .an j) (by rw [h.e,fZ];simp) rfl;have ES:(p1++TT::p2)=(q1++ .an j::(q2++post)):=by rw [<-MB,h.e,fZ];simp
              have hmem:TT∈q1++ .an j::(q2++post):=ES▸List.mem_append.2 (.inr (List.mem_cons_self ..));rcases List.mem_append.1 hmem with hm|hm
              · exact hn.1 (by have:=DB hm pT;rw [KL] at this;exact this)
              · rcases List.mem_cons.1 hm with hm|hm
                · exact oh j hm
                · exact hn.2 (by have:=DB hm pT;rw [KL] at this;exact this)
            have hrvits:TT= .rv j:=by
              cases TT with
              |rv k=>rw [show k=j from KL]
              |an k=>cases hs'
              |_=>exact(excl rfl fun _ e=>by cases e).elim
            have ZN: .rv j∈GZ:=by rw [MB,hrvits];simp
            rw [h.e] at ZN
            rcases List.mem_append.1 ZN with hm|hm
            · have:=h.rq j hm i2 _ c7 rfl;rw [Gt] at this;cases this
            · exact hm
          have hjpl:j∈pl:=(h.pm j).2 ⟨hanpre,hLj,hrv⟩;have hval:val j= .map (some (bf j)):=by
            obtain⟨q1,q2,fZ⟩:=List.append_of_mem hanpre;obtain⟨o3,sB,sQ,k1,k2,k3,k4,k5⟩:=h.kn q1 (.an j) q2 fZ;rw [g14] at k4;cases k4
            rw [k5 hLj,g15]
          obtain⟨es,Lo,ow,rN⟩:=h.cu j hjpl vf _ g14;have hes':(es.toList.map fun e=>(e.key,e.val)).Perm (Gb en (fun k=>L.getD k false) ops.size j):=by simpa using rN
          have hper:(F::own++IW cur bf pl).Perm (CV (bf j) (.map es Lo)::(F::own++IW cur bf (pl.erase j))):=by
            have h8:=(List.perm_cons_erase hjpl).map (fun i=>CV (bf i) (cur i));simp only [List.map_cons,ow] at h8
            exact(h8.append_left (F::own)).trans (List.perm_middle (a:=CV (bf j) (.map es Lo)) (l₁:=F::own) (l₂:=IW cur bf (pl.erase j)))
          have s1:=h.sat.perm hper;have hb:w.heap[bf j]?=some (.map es Lo):=s1.at (List.mem_cons_self ..) (Dq _ _);have hslot:a.tmps[d]?=some (.map (some (bf j))):=by
            rw [h.sl d (O6 j d g5)];obtain⟨k8,p7⟩:=Xl (all:=ops) (L:=fun i=>L.getD i false) (s:=d) hjlt hLj g5;simp only [S7,p7];rw [g6 k8 (LI p7).2.1,hval]
          have hev:∀ {y:Operand} {v:Value},y∈ [k,x]->y≠ .tmp d->ev (Hc ops val (Dm p) env) y=some v->a.eval y=v:=fun{y v} hy Ns he=>by
            rw [<-Nt.eval he];cases y with
            | tmp s=>
              have hs8:s∈(ops[i2]).looksAt ops:=by
                unfold Oper.looksAt;refine List.mem_append.2 (.inl ?_);rw [List.mem_filterMap];refine⟨.tmp s,?_,rfl⟩;rw [g2];simp only [Op.operands];rcases List.mem_cons.1 hy with rfl|hy
                · simp
                · have:=List.mem_singleton.1 hy;subst this;simp
              have:=Hu s hs8 fun i' j' e=>by
                cases e
                rw [g5];intro e;cases e;exact Ns rfl
              simp only [Act.eval,Array.getD_eq_getD_getElem?,this]
            |_=>rfl
          have hem:a.eval (.tmp d)= .map (some (bf j)):=by simp only [Act.eval,Array.getD_eq_getD_getElem?,hslot];rfl
          have hek:=hev Am g7 g9;have hex:=hev Am g8 g10;have hfind:Instr.findNow dd kv es.toList 0=some none:=by
            refine Nw fun e he=> ?_
            have hm:(e.key,e.val)∈Gb en (fun k=>L.getD k false) ops.size j:=hes'.mem_iff.1 (List.mem_map.2 ⟨e,he,rfl⟩);rw [IX,List.mem_filterMap] at hm
            obtain⟨k9, -,hk9⟩:=hm;simp only [Jg] at hk9
            split at hk9
            · rename_i j' dl ao ib hL9 he9
              split at hk9
              · rename_i ej
                subst ej;cases hk9;exact h.ed i2 k9 j' dd kv xv dl _ _ c7 he9 fun e2=>by subst e2;rw [Gt] at hL9;cases hL9
              · cases hk9
            · cases hk9
          let w2:World:={w with heap:=w.heap.setIfInBounds (bf j) (.map (es.push {key:=kv,val:=xv,born:=Lo}) (Lo+1))}
          have E6:=(Array.getElem?_eq_some_iff.1 hb).1;have FE:(execOp a.eval ops[i2]).run P w= .ok .skip w2:=by
            simp [execOp,g2,hem,hek,hex,Instr.mapUpdate,Di g11,getObj,setObj,Sem.run,hb,g13,Instr.findKey,Di g12,hfind,w2]
          have hwant:Region.wanted ops[i2] (yielded ops a.tmps)=true:=by unfold Region.wanted;rw [g4]
          simp only [wpOpIn,JO,hwant,if_true];refine⟨fun f _=>by simp,?_⟩;rw [Ff,semAt_plain (by rw [g2];rfl),FE,Oper.uponIn_skip]
          let Nz:Nat->Obj:=fun l=>if l=j then .map (es.push {key:=kv,val:=xv,born:=Lo}) (Lo+1) else cur l
          have u1:Nz j= .map (es.push {key:=kv,val:=xv,born:=Lo}) (Lo+1):=by simp [Nz]
          have u2:∀l,l≠j->Nz l=cur l:=fun l hl=>by simp only [Nz];rw [if_neg hl]
          have s2:Sat (CV (bf j) (.map (es.push {key:=kv,val:=xv,born:=Lo}) (Lo+1))::(F::own++IW cur bf (pl.erase j))) w2:=
            s1.put (by simp [w2,E6]) rfl rfl (fun l hl=>by simp only [w2];rw [Array.getElem?_setIfInBounds_ne (Ne.symm hl)]) (fun _=>rfl)
          have hsat2:Sat (F::own++IW Nz bf pl) w2:=by
            refine s2.perm ?_;have h8:=(List.perm_cons_erase hjpl).map (fun i=>CV (bf i) (Nz i));simp only [List.map_cons,u1] at h8
            have h9:IW Nz bf (pl.erase j)=IW cur bf (pl.erase j):=R5 fun l hl=>⟨u2 l fun e=>by subst e;exact(List.Nodup.not_mem_erase h.pn) hl,rfl⟩
            have h10:(pl.erase j).map (fun i=>CV (bf i) (Nz i))=IW cur bf (pl.erase j):=h9;rw [h10] at h8
            exact((h8.append_left (F::own)).trans (List.perm_middle (a:=CV (bf j) (.map (es.push {key:=kv,val:=xv,born:=Lo}) (Lo+1))) (l₁:=F::own) (l₂:=IW cur bf (pl.erase j)))).symm
          have hgo:=next w2 Nz rfl hsat2 (fun _ e=>by cases e) fun l hl eJ Zt Wy=>by
            have hset:=QF (en:=en) (j:=l) NQ JM Gt;rw [c7] at hset
            by_cases el:l=j
            · subst el;rw [g14] at Wy;cases Wy
              rw [u1];refine⟨_,_,rfl,?_⟩;simp only [if_true] at hset
              have:(es.push {key:=kv,val:=xv,born:=Lo}).toList.map (fun e=>(e.key,e.val))=es.toList.map (fun e=>(e.key,e.val))++ [(kv,xv)]:=by simp
              rw [this];simpa using(hes'.append_right [(kv,xv)]).trans hset.symm
            · rw [u2 l el];have Ns:¬j=l:=fun e=>el e.symm
              simp only [Ns,if_false,List.append_nil] at hset
              exact(h.cu l hl eJ Zt Wy).perm hset.symm
          rw [g3] at hgo ⊢
          exact hgo
        | an j=>
          obtain rfl:j=i:=Ld;obtain⟨o,vf,ob,h1,h2,h3,h4,h5⟩:=Yz;rw [JO] at h1;cases h1
          have Hu:=fun s hs=>Hu s hs (fun i' j' e=>by cases e)
          simp only [wpOpIn,JO,(F3 Hu).trans (Ee Nt h2),if_true];refine⟨fun f _=>by simp,?_⟩;rw [Ff,semAt_plain h3.1,Kw Hu (LN Ht JO),h3.2.2 Z8 w Nt];show wpAnyIn (Pv r) 0 P md ops (H9 F n Q) fuel (L.setIfInBounds j true) (a.put (ops[j]).dst (vf w.heap.size)) _
          let val':Nat->Value:=fun k=>if k=j then vf w.heap.size else val k
          let bf':Nat->Nat:=fun k=>if k=j then w.heap.size else bf k
          let cur':Nat->Obj:=fun k=>if k=j then ob else cur k
          have u1:cur' j=ob:=by simp [cur']
          have u2:∀k,k≠j->cur' k=cur k:=fun k hk=>by simp only [cur'];rw [if_neg hk]
          have v1:val' j=vf w.heap.size:=by simp [val']
          have v2:∀k,k≠j->val' k=val k:=fun k hk=>by simp only [val'];rw [if_neg hk]
          have b1:bf' j=w.heap.size:=by simp [bf']
          have b2:∀k,k≠j->bf' k=bf k:=fun k hk=>by simp only [bf'];rw [if_neg hk]
          have hjo:j∉Dm pre:=fun hj=>by
            obtain⟨p1,TT,p2,MB,hs',KL⟩:=JW hj;have:=h.kn p1 TT p2 MB;cases TT with
            |rv k=>obtain rfl:k=j:=KL;rw [show L.getD k false=true from this] at Gt;cases Gt
            |h c k=>obtain rfl:k=j:=KL;rw [show L.getD k false=true from this] at Gt;cases Gt
            |an k=>cases hs'
            | fi k l=>
              obtain rfl:k=j:=KL;have ES:It.fi k l∈pre:=by rw [MB];simp
              have hn:=El ho hsplit rfl;rw [hp] at ES
              rcases List.mem_append.1 ES with ES|ES
              · exact hn.1 (DB (it:= .fi k l) ES rfl)
              · rcases List.mem_cons.1 ES with ES|ES
                · cases ES
                · exact hn.2 (by rw [DR];exact List.mem_append.2 (.inl (DB (it:= .fi k l) ES rfl)))
            | q k=>
              obtain rfl:k=j:=KL;have ES:It.q k∈pre:=by rw [MB];simp
              have hn:=El ho hsplit rfl;rw [hp] at ES
              rcases List.mem_append.1 ES with ES|ES
              · exact hn.1 (DB (it:= .q k) ES rfl)
              · rcases List.mem_cons.1 ES with ES|ES
                · cases ES
                · exact hn.2 (by rw [DR];exact List.mem_append.2 (.inl (DB (it:= .q k) ES rfl)))
            | f k=>
              obtain rfl:k=j:=KL;have ES:It.f k∈pre:=by rw [MB];simp
              have hn:=El ho hsplit rfl;rw [hp] at ES
              rcases List.mem_append.1 ES with ES|ES
              · exact hn.1 (DB (it:= .f k) ES rfl)
              · rcases List.mem_cons.1 ES with ES|ES
                · cases ES
                · exact hn.2 (by rw [DR];exact List.mem_append.2 (.inl (DB (it:= .f k) ES rfl)))
            | r k=>
              obtain rfl:k=j:=KL;have ES:It.r k∈pre:=by rw [MB];simp
              have hn:=El ho hsplit rfl;rw [hp] at ES
              rcases List.mem_append.1 ES with ES|ES
              · exact hn.1 (DB (it:= .r k) ES rfl)
              · rcases List.mem_cons.1 ES with ES|ES
                · cases ES
                · exact hn.2 (by rw [DR];exact List.mem_append.2 (.inl (DB (it:= .r k) ES rfl)))
          have jQ:j∉pl:=fun hj=>by have:=((h.pm j).1 hj).2.1;rw [Gt] at this;cases this
          have hrvpost: .rv j∈post:=by
            have h1:=ho.W7 j NQ;rw [h.e,DW] at h1
            rcases List.mem_append.1 h1 with h1|h1
            · exact absurd h1 hjo
            · obtain⟨p1,TT,p2,MB,hs',KL⟩:=JW h1;cases TT with
              |rv k=>obtain rfl:k=j:=KL;rw [MB];simp
              |an k=>cases hs'
              | fi k l=>
                exfalso;obtain rfl:k=j:=KL;exact(El ho hsplit rfl).2 (by rw [DR];exact List.mem_append.2 (.inr (DB (it:= .fi k l) (by rw [MB];simp) rfl)))
              | q k=>
                exfalso;obtain rfl:k=j:=KL;exact(El ho hsplit rfl).2 (by rw [DR];exact List.mem_append.2 (.inr (DB (it:= .q k) (by rw [MB];simp) rfl)))
              | f k=>
                exfalso;obtain rfl:k=j:=KL;exact(El ho hsplit rfl).2 (by rw [DR];exact List.mem_append.2 (.inr (DB (it:= .f k) (by rw [MB];simp) rfl)))
              | r k=>
                exfalso;obtain rfl:k=j:=KL;exact(El ho hsplit rfl).2 (by rw [DR];exact List.mem_append.2 (.inr (DB (it:= .r k) (by rw [MB];simp) rfl)))
              | h c k=>
                exfalso;obtain rfl:k=j:=KL;exact(El ho hsplit rfl).2 (by rw [DR];exact List.mem_append.2 (.inr (DB (it:= .h c k) (by rw [MB];simp) rfl)))
          have vL:∀k,L.getD k false=true->val' k=val k:=fun k hk=>v2 k fun e=>by rw [e,Gt] at hk;cases hk
          have vp:∀k∈Dm pre,val' k=val k:=fun k hk=>v2 k fun e=>hjo (e▸hk)
          have henj:=iK (fun _ _ e=>by cases e);refine fin (pre':=pre) (post':=post) (val':=val') (own':=own) (an':=an) (en':=en) (cur':=cur') (bf':=bf') (pl':=j::pl) ⟨by simpa using h.s1,hsz2 _,hdf2 _,hdown,h.e,QO Ht h.s2 h.s4 h.sl JO JM h.s1 Gt val' _ v1 vL,?_,?_,fun p' jt t' aw=> ?_,fun x KL iy=> ?_,(fun k hk Wx=>h.pr k hk (hold k Wx)),List.nodup_cons.2 ⟨jQ,h.pn⟩,fun k=> ?_,fun l hl eJ Zt Wy=> ?_,h.ei,h.ed,hrq⟩
          · rw [Ga vp];exact h.ch
          · have e1:IW cur' bf' (j::pl)=CV w.heap.size ob::IW cur bf pl:=by
              have:=R5 (cur:=cur) (cur':=cur') (bf:=bf) (bf':=bf') (pl:=pl) fun k hk=>⟨u2 k fun e=>jQ (e▸hk),b2 k fun e=>jQ (e▸hk)⟩
              simp only [IW,List.map_cons,u1,b1] at this ⊢
              rw [this]
            rw [e1];have:=EN h.sat ob h3.2.1;exact this.perm (List.perm_middle (a:=CV w.heap.size ob) (l₁:=F::own) (l₂:=IW cur bf pl)).symm
          · have hk:=h.kn p' jt t' aw;have hpo:∀k∈Dm p',val' k=val k:=fun k hk=>vp k (by rw [aw,DW];exact List.mem_append.2 (.inl hk))
            have he':Hc ops val' (Dm p') env=Hc ops val (Dm p') env:=Ga hpo;have Ns:jt.Rl=true->jt.ix≠j:=fun hs e=>hjo (e▸FV (by rw [aw];simp) hs)
            cases jt with
            | q k=>
              obtain⟨o,KO,g1,g2,g3⟩:=hk;exact⟨o,KO,g1,by rw [he',v2 k (Ns rfl)];exact g2,fun hl=>g3 (by rwa [hLo k (Ns rfl)] at hl)⟩
            | f k=>
              obtain⟨o,g1,g2⟩:=hk;exact⟨o,g1,by rw [he',v2 k (Ns rfl)];exact g2⟩
            | r k=>
              obtain⟨o,g1,g2⟩:=hk;exact⟨o,g1,by rw [he',v2 k (Ns rfl)];exact g2⟩
            | an k=>
              obtain⟨o,eJ,Zt,g1,g2,g3,g4,g5⟩:=hk;refine⟨o,eJ,Zt,g1,by rw [he'];exact g2,by rw [he'];exact g3,g4,fun hl=> ?_⟩;by_cases ek:k=j
              · subst ek;rw [h4] at g4;cases g4;rw [v1,b1]
              · rw [v2 k ek,b2 k ek];exact g5 (by rwa [hLo k ek] at hl)
            |rv k=>show(L.setIfInBounds j true).getD k false=true;rw [hLo k (Ns rfl)];exact hk
            |h c k=>show(L.setIfInBounds j true).getD k false=true;rw [hLo k (Ns rfl)];exact hk
            | fi k l=>
              obtain⟨dd,kv,xv,iO,g1,g2⟩:=hk;exact⟨dd,kv,xv,iO,by rw [he'];exact g1,g2⟩
          · rw [hLo]
            · exact h.un x KL iy
            · intro e;have q2:=(El ho hsplit hx).2;rw [show(It.an j).ix=j from rfl,<-e,DR] at q2
              exact q2 (List.mem_append.2 (.inr (DB KL iy)))
          · by_cases ek:k=j
            · subst ek;exact⟨fun _=>⟨by rw [hp];simp,hLi,hrvpost⟩,fun _=>List.mem_cons_self ..⟩
            · rw [hLo k ek,List.mem_cons,h.pm k];exact⟨fun hh=>hh.resolve_left ek,.inr⟩
          · by_cases el:l=j
            · subst el;rw [h4] at Wy;cases Wy
              rw [u1,XN fun k=> ?_]
              · cases ob with
                |map es0 c0=>exact⟨es0,c0,rfl,by simp⟩
                |_=>rfl
              · simp only [Jg];cases e:en k with
                |none=>cases (L.setIfInBounds l true).getD k false <;>rfl
                | some x=>
                  obtain⟨l',dd,kv,xv⟩:=x;by_cases ex:l'=l
                  · subst ex;have Wx:k≠l':=fun e2=>by rw [e2,henj] at e;cases e
                    rw [hLo k Wx];cases hLk:L.getD k false with
                    |false=>rfl
                    | true=>
                      exfalso;obtain⟨p5,p6,jI⟩:=List.append_of_mem (h.ei k _ e);have h5:=(ho.c5 p5 k l' (p6++post) (by rw [h.e,jI];simp)).2;have:=h5.listed (L:=fun j=>L.getD j false) h.s4 hLk;rw [Gt] at this;cases this
                  · cases (L.setIfInBounds l true).getD k false <;>simp [ex]
            · rw [u2 l el];exact cu2 henj l ((List.mem_cons.1 hl).resolve_left el) eJ Zt Wy
      ·
        cases post with
        |nil=>cases hmem
        | cons it rest=>
          have hwait:∀m,(∀x∈GU rest,MK ops m x)->L.getD m false=false->i∈GU rest->False:=fun m hm nq nj=>by
            have:=Lc m (hm i nj);rw [nq] at this;cases this
          cases it with
          |q _=>cases Gy
          |f _=>cases Gy
          |r _=>cases Gy
          |an _=>cases Gy
          |fi _ _=>cases Gy
          | rv m=>
            have nj:i∈GU rest:=by simpa [GU,It.exec] using hmem
            rcases(show L.getD m false=false∨∃k x,en k=some x/\x.1=m/\L.getD k false=false from Gy) with hst2|⟨k,x,hk,rfl,hst2⟩
            · exact(hwait m (ho.c2 pre m rest h.e).1 hst2 nj).elim
            · exact(hwait k ((ho.c4 pre x.1 rest h.e).1 k (h.ei k x hk)) hst2 nj).elim
          | h c m =>
            have nq:L.getD m false=false:=h.un (.h c m) (List.mem_cons_self ..) rfl;have oq:i=m:=by
              have e1:GU (.h c m::rest)=m::GU rest:=rfl;rw [e1] at hmem
              rcases List.mem_cons.1 hmem with hm|hm
              · exact hm
              · exact(hwait m (ho.c1 pre c m rest h.e) nq hm).elim
            subst oq;obtain⟨Z8,Nt,Hu⟩:=V4 Ht ho O6 VE h.s2 h.s4 h.sl h.e rfl (by exact JO) (by exact Gt) (by exact Lc);have Hu:=fun s hs=>Hu s hs (fun i' j' e=>by cases e)
            obtain⟨o,IN,F6,R,Z,k1,k2,rf,k5,k7,k6,k8⟩:=h.ch;rw [JO] at k1;cases k1
            have pp:(F::own++IW cur bf pl).Perm (IN++(F6++(F::IW cur bf pl))):=by
              have e1:(F::own++IW cur bf pl).Perm (own++(F::IW cur bf pl)):=(List.perm_middle (a:=F) (l₁:=own) (l₂:=IW cur bf pl)).symm;refine e1.trans ?_;have:=k2.append_right (F::IW cur bf pl);simpa [List.append_assoc] using this
            have cont:∀v own' w',R v own'->Sat (own'++(F6++(F::IW cur bf pl))) w'->wpAnyIn (Pv r) 0 P md ops (H9 F n Q) fuel (L.setIfInBounds i true) (a.put (ops[i]).dst v) w':= ?_;have zont:∀ch own' w',Z ch own'->Sat (own'++(F6++(F::IW cur bf pl))) w'->H9 F n Q (.panic ch) a w':=fun ch own' w' hZ s2=>
              ⟨by simp,[],own'++F6,⟨h.s2,fun i v hi=>by cases hi⟩,(s2.perm (show(own'++(F6++(F::IW cur bf pl))).Perm (F::(own'++F6)++IW cur bf pl) by rw [<-List.append_assoc];exact List.perm_middle (a:=F) (l₁:=own'++F6) (l₂:=IW cur bf pl))).sub (List.sublist_append_left _ _),by rw [h.s3];exact k8 ch own' hZ⟩
            · rcases rf with ⟨k3,k4⟩|⟨k3, -,k4⟩
              · exact gf (X:=F6++(F::IW cur bf pl)) k4 JO ((F3 Hu).trans (Ee Nt k3)) Nt (Kw Hu (LN Ht JO)) (h.sat.perm pp) cont zont
              · simp only [wpOpIn,JO,(F3 Hu).trans (Ee Nt k3)];exact⟨fun f _=>by simp,cont undef IN w k4 (h.sat.perm pp)⟩
            intro v own' w' hR s2
            let val':Nat->Value:=fun k=>if k=i then v else val k
            have v1:val' i=v:=by simp [val']
            have v2:∀k,k≠i->val' k=val k:=fun k hk=>by simp only [val'];rw [if_neg hk]
            have vL:∀k,L.getD k false=true->val' k=val k:=fun k hk=>v2 k fun e=>by rw [e,Gt] at hk;cases hk
            have hjo:i∉Dm pre:=N5 ho h.e rfl;have vp:∀k∈Dm pre,val' k=val k:=fun k hk=>v2 k fun e=>hjo (e▸hk)
            have hnx:=El ho h.e rfl;have he2:GZ=(pre++ [.h c i])++rest:=by rw [h.e];simp
            have c7:en i=none:=by
              cases e:en i with
              |none=>rfl
              |some x=>exact(hnx.1 (DB (it:= .fi i x.1) (h.ei i x e) rfl)).elim
            refine fin (pre':=pre++ [.h c i]) (post':=rest) (val':=val') (own':=own'++F6) (an':=an) (en':=en) (cur':=cur) (bf':=bf) (pl':=pl) ⟨by simpa using h.s1,hsz2 _,hdf2 _,hdown,he2,QO Ht h.s2 h.s4 h.sl JO JM h.s1 Gt val' _ v1 vL,?_,?_,fun p' jt t' aw=> ?_,fun x KL iy=> ?_,?_,h.pn,fun k=> ?_,cu2 c7,fun k x hk=>List.mem_append.2 (.inl (h.ei k x hk)),h.ed,fun j hj=>hrq j ((List.mem_append.1 hj).resolve_right fun e=>by cases List.mem_singleton.1 e)⟩
            · have e1:Dm (pre++ [.h c i])=Dm pre++ [i]:=by rw [DW];rfl
              rw [e1,Nx,v1,Ga vp];exact k6 v own' hR
            · refine s2.perm ?_;have e1:(own'++(F6++(F::IW cur bf pl))).Perm (F::(own'++F6)++IW cur bf pl):=by
                rw [<-List.append_assoc];exact List.perm_middle (a:=F) (l₁:=own'++F6) (l₂:=IW cur bf pl)
              exact e1
            · rcases I2 aw with ⟨t2,rfl⟩|⟨rfl,rfl, -⟩
              · have hk :=h.kn p' jt t2 rfl;have Ns:jt.exec=true->jt.ix≠i:=fun hx e=>hnx.1 (by rw [show(It.h c i).ix=jt.ix from e.symm];exact DB Am hx)
                have hpo:∀k∈Dm p',val' k=val k:=fun k hk=>vp k (by rw [DW];exact List.mem_append.2 (.inl hk))
                have he':Hc ops val' (Dm p') env=Hc ops val (Dm p') env:=Ga hpo;cases jt with
                | q k =>
                  obtain⟨o,KO,g1,g2,g3⟩:=hk;refine⟨o,KO,g1,by rw [he',v2 k (Ns rfl)];exact g2,fun hl=> ?_⟩;rw [hLo k (Ns rfl)] at hl
                  cases c with
                  | true=>
                    have:=Lc k (ho.c3 _ i rest h.e k Am);rw [hl] at this;cases this
                  | false=>
                    obtain⟨Y,hY⟩:=g3 hl;obtain⟨N,hN⟩:=k5 rfl v own' hR;refine⟨Y++N,?_⟩;have q1:(own'++F6).Perm (own++N):=by
                      refine(hN.append_right F6).trans ?_;have:((IN++N)++F6).Perm ((IN++F6)++N):=by
                        rw [List.append_assoc,List.append_assoc];exact(List.perm_append_comm (l₁:=N) (l₂:=F6)).append_left IN
                      exact this.trans (k2.symm.append_right N)
                    refine q1.trans ?_;rw [<-List.append_assoc];exact hY.append_right N
                | f k=>
                  obtain⟨o,g1,g2⟩:=hk;exact⟨o,g1,by rw [he',v2 k (Ns rfl)];exact g2⟩
                | r k=>
                  obtain⟨o,g1,g2⟩:=hk;exact⟨o,g1,by rw [he',v2 k (Ns rfl)];exact g2⟩
                | an k=>
                  obtain⟨o,eJ,Zt,g1,g2,g3,g4,g5⟩:=hk;exact⟨o,eJ,Zt,g1,by rw [he'];exact g2,by rw [he'];exact g3,g4,fun hl=>by
                    rw [v2 k (Ns rfl)];exact g5 (by rwa [hLo k (Ns rfl)] at hl)⟩
                | rv k=>
                  show(L.setIfInBounds i true).getD k false=true;by_cases ek:k=i
                  · subst ek;exact hLi
                  · rw [hLo k ek];exact hk
                |h c' k=>show(L.setIfInBounds i true).getD k false=true;rw [hLo k (Ns rfl)];exact hk
                | fi k l=>
                  obtain⟨dd,kv,xv,iO,g1,g2⟩:=hk;exact⟨dd,kv,xv,iO,by rw [he'];exact g1,g2⟩
              · exact hLi
            · rw [hLo]
              · exact h.un x (List.mem_cons_of_mem _ KL) iy
              · intro e;exact hnx.2 (by rw [show(It.h c i).ix=x.ix from e.symm];exact DB KL iy)
            · cases c with
              | true=>
                intro k hk Wx;rcases k7 rfl with ⟨Y,hY⟩|hlast
                case inr=>
                  exfalso;rcases Xm hlast k hk with rfl|hp
                  · rw [hLi] at Wx;cases Wx
                  · have:=Lc k hp;rw [hold k Wx] at this;cases this
                exact⟨Y++own',(List.perm_append_comm (l₁:=own') (l₂:=F6)).trans (by rw [<-List.append_assoc];exact hY.append_right own')⟩
              | false=>
                obtain⟨N,hN⟩:=k5 rfl v own' hR;intro k hk Wx;obtain⟨Y,hY⟩:=h.pr k hk (hold k Wx);have q1:(own'++F6).Perm (own++N):=by
                  refine(hN.append_right F6).trans ?_;have:((IN++N)++F6).Perm ((IN++F6)++N):=by
                    rw [List.append_assoc,List.append_assoc];exact(List.perm_append_comm (l₁:=N) (l₂:=F6)).append_left IN
                  exact this.trans (k2.symm.append_right N)
                exact⟨Y++N,q1.trans (by rw [<-List.append_assoc];exact hY.append_right N)⟩
            · rw [h.pm k];constructor
              · rintro⟨g1,g2,g3⟩;refine⟨List.mem_append.2 (.inl g1),?_,?_⟩
                · rw [hLo k fun e=>by rw [e,Gt] at g2;cases g2];exact g2
                · rcases List.mem_cons.1 g3 with g3|g3
                  · cases g3
                  · exact g3
              · rintro⟨g1,g2,g3⟩;have ma: .an k∈pre:=by
                  rcases List.mem_append.1 g1 with g1|g1
                  · exact g1
                  · cases List.mem_singleton.1 g1
                have hk:k≠i:=fun e=>hnx.1 (by rw [show(It.h c i).ix=(It.an k).ix from e.symm];exact DB ma rfl)
                exact⟨ma,by rwa [hLo k hk] at g2,List.mem_cons_of_mem _ g3⟩
  have hrep:∀j,(Array.replicate ops.size false).getD j false=false:=fun j=>by
    rw [Array.getD_eq_getD_getElem?,Array.getElem?_replicate];split <;>rfl
  have h0 :CI P F n ops Dk (fun env own=>Q .normal env own ds) (fun ch own=>Q (.panic ch) [] own ds) GZ env a0 ds [] GZ (fun _=>undef) own (fun _=>none) (fun _=>none) (fun _=> .map #[] 0) (fun _=>0) [] (Array.replicate ops.size false) a0 {w0 with drawn:=w0.drawn+1}:=by
    refine⟨by simp,VE.size,c8,fun i o hi=> ?_,rfl,fun s hs=> ?_,h,?_,fun p it t hp=> ?_,fun x _ _=>hrep _,fun _ _ _=>rD,List.nodup_nil,fun i=> ?_,fun l hl=>(by cases hl),fun k x hk=>(by cases hk),fun k l j dk kv xv dl ao ib hk=>(by cases hk),fun j hj=>(by cases hj)⟩
    · rw [hrep] at hi;cases hi
    · have hz:∀k,D5 ops (fun j=>(Array.replicate ops.size false).getD j false) s k=none:=by
        intro k;induction k with
        |zero=>rfl
        | succ k ih=>
          simp only [hrep] at ih
          simp only [D5,hrep,Bool.false_and,Bool.false_eq_true,if_false];exact ih
      simp only [S7,hz]
    · exact(Wt.heap (w':={w0 with drawn:=w0.drawn+1}) rfl rfl rfl).perm (by simp [IW])
    · simp at hp
    · simp
  obtain⟨pre',post',val',own',an',en',pl',ZT,Qp⟩:=advance ho h0;refine wpAnyIn_sound ops.size t' (Array.replicate ops.size false) a0 _ (key ops.size _ a0 _ ⟨pre',post',val',own',an',en',_,_,pl',ZT,Qp⟩ ?_);have:∀k,J7 (Array.replicate ops.size false) k=0:=by
    intro k;unfold J7;rw [List.length_eq_zero_iff,List.filter_eq_nil_iff];intro i _;simp [hrep]
  rw [this];omega
end
end Go.SL
