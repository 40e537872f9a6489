
import Derived.Test.YtcnmnmjmpocepaaGreatDoorU01
import Derived.WalkKit
import Derived.Laws.Rows
import Derived.Laws.Tables
set_option linter.unusedVariables false
set_option linter.unusedSimpArgs false
set_option linter.unusedSectionVars false
set_option maxRecDepth 100000
set_option maxHeartbeats 16000000
section
namespace Go.SL
def T(P:Program)(f:FuncId)(args:List Value)(hs:List B6)(Q:Ending->List B6->Prop):Prop:=
  ∀w X,Sat (hs++X) w->Calls P f args.toArray w fun e w'=>∃own,Sat (own++X) w'/\Q e own
def C7(P:Program)(f:FuncId)(args:List Value)(hs:List B6)(v:Value):Prop:=T P f args hs fun e own=>e= .returned v/\own=hs
theorem T.mono{P:Program}{f:FuncId}{args:List Value}{hs:List B6}{Q Q':Ending->List B6->Prop}(h:T P f args hs Q)(hq:∀e own,Q e own->Q' e own):T P f args hs Q':=
  fun w X s=>(h w X s).mono fun _ _ ⟨own,h1,h2⟩=>⟨own,h1,hq _ _ h2⟩
class Ks (own:List B6) (h:B6) (rest:outParam (List B6)):Prop where
  perm:own.Perm (h::rest)
instance Ks.head{h:B6}{r:List B6}:Ks (h::r) h r:=⟨List.Perm.refl _⟩
instance Ks.tail{h k:B6}{r r':List B6} [t:Ks r h r']:Ks (k::r) h (k::r'):=⟨(t.perm.cons k).trans (List.Perm.swap _ _ _)⟩
class C1 (own:List B6) (hs:List B6) (rest:outParam (List B6)):Prop where
  perm:own.Perm (hs++rest)
instance C1.nil{own:List B6}:C1 own [] own:=⟨List.Perm.refl _⟩
instance C1.cons{own:List B6}{h:B6}{hs r r':List B6} [t:Ks own h r] [u:C1 r hs r']:C1 own (h::hs) r':=
  ⟨t.perm.trans (u.perm.cons h)⟩
class J8 (h:B6) (b:Nat) (o:outParam Obj):Prop where
  eq:h (.b b)=some (.o o)
instance J8.Co{b:Nat}{o:Obj}:J8 (Co b o) b o:=⟨CT b o⟩
class At (own:List B6) (b:Nat) (o:outParam Obj):Prop where
  mem:∃h∈own,h (.b b)=some (.o o)
instance At.head{h:B6}{r:List B6}{b:Nat}{o:Obj} [t:J8 h b o]:At (h::r) b o:=⟨h,List.mem_cons_self ..,t.eq⟩
instance (priority:=low) At.tail{h:B6}{r:List B6}{b:Nat}{o:Obj} [t:At r b o]:At (h::r) b o:=let ⟨k,hk,e⟩:=t.mem;⟨k,List.mem_cons_of_mem _ hk,e⟩
theorem At.get{own:List B6}{b:Nat}{o:Obj}(t:At own b o){X:List B6}{w:World}(s:Sat (own++X) w):w.heap[b]?=some o:=
  let ⟨_,hm,e⟩:=t.mem;s.at (List.mem_append.2 (.inl hm)) e
class Tt (own:List B6) (b:Nat) (o:outParam Obj) (o':Obj) (own':outParam (List B6)):Prop where
  rest:∃r,own.Perm (SL.Co b o::r)/\own'.Perm (SL.Co b o'::r)
instance Tt.head{b:Nat}{o o':Obj}{r:List B6}:Tt (SL.Co b o::r) b o o' (SL.Co b o'::r):=⟨r,List.Perm.refl _,List.Perm.refl _⟩
instance (priority:=low) Tt.tail{k:B6}{b:Nat}{o o':Obj}{r r':List B6} [t:Tt r b o o' r']:Tt (k::r) b o o' (k::r'):=
  let ⟨l,h1,h2⟩:=t.rest;⟨k::l,(h1.cons k).trans (List.Perm.swap _ _ _),(h2.cons k).trans (List.Perm.swap _ _ _)⟩
def Hj(P:Program)(rs:List ResultVar)(own:List B6)(env:Env)(n:Nat)(v:Value):Prop:=
  ∀(fn:Func) (a:Act) w X,fn.results.toList=rs->Has n env a->Sat (own++X) w->(results fn a.tmps).run P w= .ok v w
def NN(tmps:Array Value):ResultVar->Sem Value
  | .tmp t=>pure (tmps.getD t undef)
  | .cell a t=>do loadVar t (<-asAddr (tmps.getD a undef))
def Ri(P:Program)(own:List B6)(env:Env)(n:Nat)(x:ResultVar)(v:Value):Prop:=
  ∀(a:Act) w X,Has n env a->Sat (own++X) w->(NN a.tmps x).run P w= .ok v w
theorem B7{P:Program}{own:List B6}{env:Env}{n t:Nat}{v:Value}(h:look env t=some v):Ri P own env n (.tmp t) v:=fun a w X ha _=>by
  have:a.tmps.getD t undef=v:=by rw [Array.getD_eq_getD_getElem?,ha.get t v h];rfl
  simp [NN,this]
theorem IJ(fn:Func)(tmps:Array Value):results fn tmps=(do
    let vs <-fn.results.mapM (NN tmps)
    pure (if h:vs.size=1 then vs[0] else .tuple vs)):=by
  unfold results
  congr 1
theorem CU{P:Program}{own:List B6}{env:Env}{n:Nat}:Hj P [] own env n (.tuple #[]):=fun fn a w X hr _ _=>by
  have hf:fn.results= #[]:=Array.ext' (by simpa using hr);rw [IJ,hf];simp
theorem Ce{P:Program}{own:List B6}{env:Env}{n:Nat}{x:ResultVar}{v:Value}(h:Ri P own env n x v):Hj P [x] own env n v:=fun fn a w X hr ha s=>by
  have hf:fn.results= #[x]:=Array.ext' (by simpa using hr);rw [IJ,hf];simp [h a w X ha s]
theorem Ct{P:Program}{own:List B6}{env:Env}{n:Nat}{x y:ResultVar}{v u:Value}(h:Ri P own env n x v)(h2:Ri P own env n y u):Hj P [x,y] own env n (.tuple #[v,u]):=fun fn a w X hr ha s=>by
  have hf:fn.results= #[x,y]:=Array.ext' (by simpa using hr);rw [IJ,hf];simp [h a w X ha s,h2 a w X ha s]
theorem MI{P:Program}{own:List B6}{env:Env}{n:Nat}{x y z:ResultVar}{v u t:Value}(h:Ri P own env n x v)(h2:Ri P own env n y u)(h3:Ri P own env n z t):Hj P [x,y,z] own env n (.tuple #[v,u,t]):=fun fn a w X hr ha s=>by
  have hf:fn.results= #[x,y,z]:=Array.ext' (by simpa using hr);rw [IJ,hf];simp [h a w X ha s,h2 a w X ha s,h3 a w X ha s]
def params(args:List Value):Nat->Env
  | k=>match args with
    | []=> []
    |v::r=>(k,v)::params r (k+1)
theorem Jt(args:List Value):∀k i v,look (params args k) i=some v->k≤i/\args[i - k]?=some v:=by
  induction args with
  |nil=>intro k i v h;cases h
  | cons a r ih=>
    intro k i v h;simp only [params] at h
    by_cases e:k=i
    · subst e;rw [EE] at h;cases h;simp
    · rw [Gx _ _ e] at h
      obtain⟨h1,h2⟩:=ih _ _ _ h;refine⟨by omega,?_⟩;have:i - k=(i - (k+1))+1:=by omega
      rw [this];simpa using h2
def mark(D:Nat):Deferred:={target:= .collected D,args:= #[]}
class Marks (ds:List Deferred) (own:List B6) (own':outParam (List B6)):Prop where
  out:∀ {P:Program} {fn:Func} {tmps:Array Value} {R:Ending->World->Prop} {u:FrameMode} {w:World} {X:List B6},u≠ .run->Sat (own++X) w->(∀w',Sat (own'++X) w'->LeavesInM Fence.wide 0 P fn tmps R [] u w')->LeavesInM Fence.wide 0 P fn tmps R ds u w
instance Marks.nil{own:List B6}:Marks [] own own:=⟨fun _ s h=>h _ s⟩
theorem RJ{P:Program}{hs:List B6}{w:World}{D:Nat}(s:Sat (Co D (.deferred (some []))::hs) w):
    ∃w',(Instr.takeDeferred D).run P w= .ok [] w'/\Sat hs w':=by
  have hb:w.heap[D]?=some (.deferred (some [])):=s.at (List.mem_cons_self ..) (CT _ _);refine⟨{w with heap:=w.heap.setIfInBounds D (.deferred none)},?_,?_⟩
  · simp [Instr.takeDeferred,getObj,setObj,Sem.run,hb]
  · have:Sat (Co D (.deferred none)::hs) {w with heap:=w.heap.setIfInBounds D (.deferred none)}:=by
      have Em:=(Array.getElem?_eq_some_iff.1 hb).1;exact s.put (by simp [Em]) rfl rfl (fun k hk=>by simp only [];rw [Array.getElem?_setIfInBounds_ne (Ne.symm hk)]) (fun _=>rfl)
    exact this.tail
instance Marks.cons{D:Nat}{ds:List Deferred}{own r own':List B6} [t:Ks own (Co D (.deferred (some []))) r] [u:Marks ds r own']:Marks (mark D::ds) own own':=
  ⟨fun{P fn tmps R m w X} hm s h=>by
    obtain⟨w',h1,h2⟩:=RJ (P:=P) (s.perm (t.perm.append_right X));exact⟨hm,.inl ⟨D,w',rfl,h1,u.out hm h2 h⟩⟩⟩
def Kr(P:Program)(fn:Func)(n:Nat)(Q:Ending->List B6->Prop):C4
  | .normal,env,own,ds| .ret,env,own,ds=>∃v own1 own',Marks ds own own1/\Hj P fn.results.toList own1 env n v/\(∀F w,Sat (F::own1) w->Sat (F::own') w)/\Q (.returned v) own'
  | .panic chain,_,own,ds=>∃own1 own',Marks ds own own1/\(∀F w,Sat (F::own1) w->Sat (F::own') w)/\Q (.panicked chain) own'
  |_,_,_,_=>False
theorem L9{hs X:List B6}{w:World}(s:Sat (hs++X) w):Sat (CB X::hs) w:=(s.perm List.perm_append_comm).CB
theorem HU{hs X:List B6}{w:World}(d:X.Pairwise DM)(s:Sat (CB X::hs) w):Sat (hs++X) w:=(s.Hl d).perm List.perm_append_comm
theorem NJ{hs X:List B6}{w:World}(s:Sat (hs++X) w):X.Pairwise DM:=(s.sub (List.sublist_append_right _ _)).dj
theorem Ch{P:Program}{f:FuncId}{fn:Func}{c:Code}{args:List Value}{hs:List B6}{Q:Ending->List B6->Prop}(hf:P.funcs[f]?=some fn)(hb:fn.body=some c)
    (hn:args.length≤fn.ntmps) (h:∀F,Db P none F fn.ntmps c (Kr P fn fn.ntmps Q) (params args 0) hs []):T P f args hs Q:=by
  intro w X s;have hX:=NJ s;refine(callsIn_wide (n:=0)).1 (callsIn_of_wp_marks hf hb trivial ?_);have ha:Has fn.ntmps (params args 0) {tmps:=args.toArray++Array.replicate (fn.ntmps - args.toArray.size) undef,defers:= []}:=by
    refine⟨by simp;omega,fun i v hi=> ?_⟩;obtain⟨-,h2⟩:=Jt args 0 i v hi;simp only [Nat.sub_zero] at h2
    have Em:i<args.length:=(List.getElem?_eq_some_iff.1 h2).1;rw [Array.getElem?_append_left (by simpa using Em)];simpa using h2
  refine wpIn_mono (h (CB X) _ w ha rfl (L9 s)) fun e a w' ⟨he,env,own,h1,h2,h3⟩=> ?_
  have h2':Sat (own++ [CB X]) w':=h2.perm (List.perm_append_comm (l₁:= [CB X]) (l₂:=own));have ret:(∃v own1 own',Marks a.defers own own1/\Hj P fn.results.toList own1 env fn.ntmps v/\(∀F w,Sat (F::own1) w->Sat (F::own') w)/\Q (.returned v) own')->
      LeavesInM Fence.wide 0 P fn a.tmps (fun e w'=>∃own,Sat (own++X) w'/\Q e own) a.defers .returning w':=by
    rintro⟨v,own1,own',hm,hr,hw,hq⟩;refine hm.out Ak h2' fun w2 s2=> ?_
    refine⟨v,hr fn a w2 [CB X] rfl h1 s2,own',HU hX (hw _ _ (s2.perm (List.perm_append_comm (l₁:=own1) (l₂:= [CB X])))),hq⟩
  cases e with
  |normal=>exact ret h3
  |ret=>exact ret h3
  | panic chain=>
    obtain⟨own1,own',hm,hw,hq⟩:=h3;refine hm.out Ak h2' fun w2 s2=> ?_
    exact⟨own',HU hX (hw _ _ (s2.perm (List.perm_append_comm (l₁:=own1) (l₂:= [CB X])))),hq⟩
  |exit _=>exact h3.elim
  |goto _=>exact h3.elim
  |outgrown=>exact absurd rfl he
class Enters (P:Program) (f:FuncId):Prop where
  run:∀args w,(callFunc f args).run P w= .ok (.enter f args) w
def MU(env:Env):List Operand->Option (List Value)
  | []=>some []
  | x ::r=>match ev env x with
    | some v=>match MU env r with
      |some vs=>some (v::vs)
      |none=>none
    |none=>none
theorem JC{n:Nat}{env:Env}{a:Act}(h:Has n env a):∀ {xs:List Operand} {vs:List Value},MU env xs=some vs->xs.map a.eval=vs:=by
  intro xs;induction xs with
  |nil=>intro vs e;cases e;rfl
  | cons x r ih=>
    intro vs e;simp only [MU] at e
    cases h1:ev env x with
    |none=>rw [h1] at e;cases e
    | some v=>
      rw [h1] at e
      cases h2:MU env r with
      |none=>rw [h2] at e;cases e
      | some Xb=>
        rw [h2] at e;cases e
        simp [h.eval h1,ih h2]
theorem Li{P:Program}{n:Nat}{env:Env}{a:Act}{o:Oper}{c:Call}{x:Operand}{f:FuncId}{first captured:Array Value}{vs:List Value} [he:Enters P f](ha:Has n env a)
    (ho:o.op= .call c) (hc:c.callee= .value x) (hx:ev env x=some (.func (.func f) first captured)) (IV:MU env c.args.toList=some vs) (w:World):
    (execOp a.eval o).run P w= .ok (.enter f (first++vs.toArray++captured)) w:=by
  have h1:c.args.map a.eval=vs.toArray:=Array.ext' (by simpa using JC ha IV);simp only [execOp,ho,resolve,hc,ha.eval hx,h1,Deferred.ofValue];exact he.run _ w
def UQ:List Value->Option (List Value)->Option (List Value)
  | [],b=>b
  |v::r,b=>match UQ r b with|some l=>some (v::l)|none=>none
def JK(a b c:List Value):Option (List Value):=UQ a (UQ b (UQ c (some [])))
theorem Qi:∀(a x:List Value),UQ a (some x)=some (a++x):=by
  intro a;induction a with
  |nil=>intro x;rfl
  |cons v r ih=>intro x;simp [UQ,ih]
theorem Nq{a b c l:List Value}(h:JK a b c=some l):a++b++c=l:=by
  simp only [JK,Qi,List.append_nil,Option.some.injEq] at h
  rw [<-h,List.append_assoc]
theorem Ca{P:Program}{own rest hs:List B6}{n:Nat}{env:Env}{o:Oper}{c:Call}{x:Operand}{f:FuncId}{first captured:Array Value}{vs all:List Value}{v:Value} [Enters P f]
    [t:C1 own hs rest] (ho:o.op= .call c) (hc:c.callee= .value x) (hx:ev env x=some (.func (.func f) first captured)) (IV:MU env c.args.toList=some vs)
    (YF:JK first.toList vs captured.toList=some all) (h:C7 P f all hs v):Dc P own n o env v:=by
  have Et:=Nq YF;refine⟨by rw [ho];rfl,fun a w X ha hs'=> ?_⟩;have hp:(own++X).Perm (hs++(rest++X)):=by rw [<-List.append_assoc];exact t.perm.append_right X
  refine⟨w,hs',.inr (.inr ⟨f,_,Li ha ho hc hx IV w,?_⟩)⟩;have e:first++vs.toArray++captured=all.toArray:=by rw [<-Et];simp
  rw [e];refine(h w (rest++X) (hs'.perm hp)).mono ?_;rintro e w' ⟨own',s2,rfl,rfl⟩;exact⟨rfl,s2.perm hp.symm⟩
section
variable {P:Program} {r:Option Nat} {F:B6} {n:Nat} {Q:C4} {env:Env} {own rest hs:List B6} {ds:List Deferred} {all:Array Oper} {l:List Nat} {i:Nat} {o:Oper}
theorem ZB{c:Call}{x:Operand}{f:FuncId}{first captured:Array Value}{vs EL:List Value}{R:Ending->List B6->Prop} [Enters P f] [t:C1 own hs rest]{d:Nat}
    (hi:all[i]?=some o) (hd:o.dst=some d) (hn:d<n) (hg:Cy all env o=some true)
    (ho:o.op= .call c) (hc:c.callee= .value x) (hx:ev env x=some (.func (.func f) first captured)) (IV:MU env c.args.toList=some vs)
    (Et:first.toList++vs++captured.toList=EL) (h:T P f EL hs R)
    (hr:∀e own',R e own'->(∃v,e= .returned v/\SO false P r F n all l Q ((d,v)::env) (own'++rest) ds)∨(∃ch,e= .panicked ch/\Q (.panic ch) env (own'++rest) ds)):
    SO false P r F n all (i::l) Q env own ds:=by
  intro a w ha MO hs';rw [wpOpsIn_cons];simp only [wpOpIn,hi,DH ha hg,if_true];refine⟨fun f _=>by simp,?_⟩;rw [Eo,semAt_plain (by rw [ho];rfl),Li ha ho hc hx IV w];have e:first++vs.toArray++captured=EL.toArray:=by rw [<-Et];simp
  rw [e];refine⟨fun hx=>by simp at hx,(E8 _ (h w (rest++ [F]) ?_)).mono ?_⟩
  · exact hs'.perm ((List.perm_append_comm (l₁:= [F]) (l₂:=own)).trans (by rw [<-List.append_assoc];exact t.perm.append_right [F]))
  · rintro e w' ⟨own',s2,hR⟩;have s3:Sat (F::(own'++rest)) w':=s2.perm (by rw [<-List.append_assoc];exact List.perm_append_comm (l₁:=own'++rest) (l₂:= [F]));rcases hr e own' hR with ⟨v,rfl,hq⟩|⟨ch,rfl,hq⟩
    · rw [hd];exact hq _ w' (ha.put v hn) MO s3
    · exact GR.mk Ak ha MO s3 hq
end
end Go.SL
end
section
namespace Go.SL
class Ty (P:Program) (t:TypeId) (d:outParam TypeDesc) (z:outParam Value) (i:outParam TypeInfo):Prop where
  u:P.underlying t=some d
  z:∀w,(zeroValue t).run P w= .ok z w
  i:P.info? t=some i
def My:TypeDesc->Bool
  | .struct _| .array _ _=>true
  |_=>false
section
variable {P:Program}
theorem CL{t:TypeId}{d:TypeDesc}(h:P.underlying t=some d)(w:World):(underlying t).run P w= .ok d w:=by simp [underlying,h]
theorem HE{t:TypeId}{i:TypeInfo}(h:P.info? t=some i)(w:World):(typeInfo t).run P w= .ok i w:=by simp [typeInfo,h]
theorem DO{t:TypeId}{i:TypeInfo}(h:P.info? t=some i)(w:World):(sizeOf t).run P w= .ok i.size w:=by simp [sizeOf,HE h]
theorem Nb{t:TypeId}{d:TypeDesc}(h:P.underlying t=some d)(w:World):(isAgg t).run P w= .ok (My d) w:=by
  simp only [isAgg,Sem.run_bind,CL h,Result.andThen];cases d <;>rfl
end
theorem DX(b o k:Nat):Addr.add ⟨b,o,none⟩ k=⟨b,o+k,none⟩:=by
  unfold Addr.add;split
  · rename_i e;rw [e];rfl
  · rfl
class He (P:Program) (t:TypeId) (k:Nat) (off:outParam Nat):Prop where
  run:∀a w,(Instr.fieldAt t (.pointer (some a)) k).run P w= .ok (.pointer (some (a.add off))) w
theorem Da{P:Program}{t:TypeId}{k off:Nat}{fs:Array Field}{f:Field}{i:TypeInfo}(h1:P.underlying t=some (.struct fs))(h2:fs[k]?=some f)(h3:P.info? f.type=some i)(h4:Nat.blt 0 i.size=true)(h5:f.offset=off):He P t k off:=
  ⟨fun a w=>by
    subst h5;have hz:i.size≠0:=by have:=Nat.le_of_ble_eq_true h4;omega
    simp [Instr.fieldAt,CL h1,h2,Instr.sureAddr,fieldPlace,DO h3,hz]⟩
def nth{α:Type}:List α->Nat->Option α
  | [],_=>none
  |x::_,0=>some x
  |_::r,k+1=>nth r k
theorem NY{α:Type}:∀ {l:List α} {k:Nat},nth l k=l[k]?:=by
  intro l;induction l with
  |nil=>intro k;rfl
  | cons x r ih=>intro k;cases k with
    |zero=>rfl
    |succ k=>simp [nth,ih]
def gZ{α:Type}:List α->Nat->α->Option (List α)
  | [],_,_=>none
  |_::r,0,v=>some (v::r)
  | x::r,k+1,v=>match gZ r k v with
    |some r'=>some (x::r')
    |none=>none
def Pv{α:Type}:List α->Nat->Option (List α)
  |_,0=>some []
  | [],_+1=>none
  | x::r,k+1=>match Pv r k with
    |some r'=>some (x::r')
    |none=>none
theorem Rv{α:Type}:∀ {l l':List α} {k:Nat},Pv l k=some l'->l'=l.take k/\k≤l.length:=by
  intro l;induction l with
  | nil=>intro l' k h;cases k with
    |zero=>cases h;simp
    |succ k=>cases h
  | cons x r ih=>intro l' k h;cases k with
    |zero=>cases h;simp
    | succ k=>
      simp only [Pv] at h
      cases e:Pv r k with
      |none=>rw [e] at h;cases h
      |some r'=>rw [e] at h;cases h;obtain⟨h1,h2⟩:=ih e;simp [h1,h2]
def VB{α:Type}:List α->Nat->Option (List α)
  |l,0=>some l
  | [],_+1=>none
  |_::r,k+1=>VB r k
theorem S6{α:Type}:∀ {l l':List α} {k:Nat},VB l k=some l'->l'=l.drop k/\k≤l.length:=by
  intro l;induction l with
  | nil=>intro l' k h;cases k with
    |zero=>cases h;simp
    |succ k=>cases h
  | cons x r ih=>intro l' k h;cases k with
    |zero=>cases h;simp
    |succ k=>obtain⟨h1,h2⟩:=ih h;simp [h1,h2]
def D9:Value->Option (List Value)
  | .agg ⟨l⟩=>some l
  |v=>some [v]
theorem EB{v:Value}{l:List Value}(h:D9 v=some l):v.cells=l.toArray:=by
  unfold D9 at h
  split at h
  · cases h;rfl
  · cases h;rename_i hv;cases v <;>first|rfl|(exfalso;rename_i a;exact hv a.toList rfl)
section
variable {P:Program} {own:List B6} {n:Nat} {env:Env} {o:Oper}
theorem De{v:Value}(hp:Ek o.op=true)(h:∀a w,Has n env a->(execOp a.eval o).run P w= .ok (.value v) w):Dc P own n o env v:=
  ⟨hp,fun a w _ ha s=>⟨w,s,.inl (h a w ha)⟩⟩
theorem CS{x:Operand}{v:Value}(ho:o.op= .move x)(h:ev env x=some v):Dc P own n o env v:=
  De (by rw [ho];rfl) fun a w ha=>by simp [execOp,ho,ha.eval h]
theorem CG{x:Operand}{v:Value}(ho:o.op= .assign x)(h:ev env x=some v):Dc P own n o env v:=
  De (by rw [ho];rfl) fun a w ha=>by simp [execOp,ho,ha.eval h]
theorem Ds{c x y:Operand}{v:Value}(ho:o.op= .pick c x y)(hc:ev env c=some (.bool true))(h:ev env x=some v):Dc P own n o env v:=
  De (by rw [ho];rfl) fun a w ha=>by simp [execOp,ho,ha.eval h,ha.eval hc,asBool]
theorem DK{c x y:Operand}{v:Value}(ho:o.op= .pick c x y)(hc:ev env c=some (.bool false))(h:ev env y=some v):Dc P own n o env v:=
  De (by rw [ho];rfl) fun a w ha=>by simp [execOp,ho,ha.eval h,ha.eval hc,asBool]
theorem DU{x:Operand}{t:TypeId}(ho:o.op= .unOp .not t x)(h:ev env x=some (.bool true)):Dc P own n o env (.bool false):=
  De (by rw [ho];rfl) fun a w ha=>by simp [execOp,ho,ha.eval h,Op.unary]
theorem El{x:Operand}{t:TypeId}(ho:o.op= .unOp .not t x)(h:ev env x=some (.bool false)):Dc P own n o env (.bool true):=
  De (by rw [ho];rfl) fun a w ha=>by simp [execOp,ho,ha.eval h,Op.unary]
theorem Ng{x:Operand}{b:Bool}{t:TypeId}(ho:o.op= .unOp .not t x)(h:ev env x=some (.bool b)):Dc P own n o env (.bool (!b)):=
  De (by rw [ho];rfl) fun a w ha=>by simp [execOp,ho,ha.eval h,Op.unary]
theorem Ex{x:Operand}{l:List Value}{k:Nat}{v:Value}(ho:o.op= .extract x k)(h:ev env x=some (.tuple ⟨l⟩))(hk:nth l k=some v):Dc P own n o env v:=
  De (by rw [ho];rfl) fun a w ha=>by
    rw [NY] at hk
    have:(⟨l⟩:Array Value)[k]?=some v:=by simpa using hk
    simp [execOp,ho,ha.eval h,Instr.extract,this]
theorem DR{fn:Fn}{xs ys:Array Operand}{vs us:List Value}(ho:o.op= .makeFunc fn xs ys)(h1:MU env xs.toList=some vs)(h2:MU env ys.toList=some us):
    Dc P own n o env (.func fn ⟨vs⟩ ⟨us⟩):=
  De (by rw [ho];rfl) fun a w ha=>by
    have e1:xs.map a.eval=⟨vs⟩:=Array.ext' (by simpa using JC ha h1);have e2:ys.map a.eval=⟨us⟩:=Array.ext' (by simpa using JC ha h2);simp [execOp,ho,Instr.makeFunc,e1,e2]
theorem FV{op:BinOp}{t u:TypeId}{x y:Operand}{k:IntKind}{a b:Int}{v:Value}(ho:o.op= .binOp op t x y u)(hx:ev env x=some (.int k a))(hy:ev env y=some (.int k b))
    (h:∀w,(binOp op t (.int k a) (.int k b)).run P w= .ok v w):Dc P own n o env v:=
  De (by rw [ho];rfl) fun c w ha=>by
    have hg:∀w,(eqGuard op t x y (.int k a) (.int k b)).run P w= .ok () w:=fun w=>by
      unfold eqGuard;cases op <;>simp
    simp only [execOp,ho,ha.eval hx,ha.eval hy];simp [hg,h]
theorem QH{t u:TypeId}{x y:Operand}{k:IntKind}{a b:Int}(ho:o.op= .binOp .add t x y u)(hx:ev env x=some (.int k a))(hy:ev env y=some (.int k b)):Dc P own n o env (.int k (k.wrap (a+b))):=
  FV ho hx hy fun w=>by simp [binOp,Op.intArith]
theorem C8{x:Int}(h1: -9223372036854775808≤x)(h2:x≤9223372036854775807):IntKind.i64.wrap x=x:=by
  simp only [IntKind.wrap,IntKind.bits,IntKind.signed,Bool.true_and]
  split
  · rename_i h;simp at h;omega
  · rename_i h;simp at h;omega
theorem GN{t u:TypeId}{x y:Operand}{a b:Int}(ho:o.op= .binOp .add t x y u)(hx:ev env x=some (.int .i64 a))(hy:ev env y=some (.int .i64 b))(h1: -9223372036854775808≤a+b)(h2:a+b≤9223372036854775807):Dc P own n o env (.int .i64 (a+b)):=
  FV ho hx hy fun w=>by simp [binOp,Op.intArith,C8 h1 h2]
theorem JS{t u:TypeId}{x y:Operand}{a b:Int}(ho:o.op= .binOp .sub t x y u)(hx:ev env x=some (.int .i64 a))(hy:ev env y=some (.int .i64 b))(h1: -9223372036854775808≤a - b)(h2:a - b≤9223372036854775807):Dc P own n o env (.int .i64 (a - b)):=
  FV ho hx hy fun w=>by simp [binOp,Op.intArith,C8 h1 h2]
theorem EM{t u:TypeId}{x y:Operand}{k:IntKind}{a b:Int}(ho:o.op= .binOp .mul t x y u)(hx:ev env x=some (.int k a))(hy:ev env y=some (.int k b)):Dc P own n o env (.int k (k.wrap (a*b))):=
  FV ho hx hy fun w=>by simp [binOp,Op.intArith]
theorem QG{t u:TypeId}{x y:Operand}{k:IntKind}{a b:Int}(ho:o.op= .binOp .quo t x y u)(hx:ev env x=some (.int k a))(hy:ev env y=some (.int k b))(h0:b≠0):Dc P own n o env (.int k (k.wrap (a.tdiv b))):=
  FV ho hx hy fun w=>by simp [binOp,Op.intDiv,h0]
theorem Ho{t u:TypeId}{x y:Operand}{k:IntKind}{a b:Int}(ho:o.op= .binOp .rem t x y u)(hx:ev env x=some (.int k a))(hy:ev env y=some (.int k b))(h0:b≠0):Dc P own n o env (.int k (a.tmod b)):=
  FV ho hx hy fun w=>by simp [binOp,Op.intDiv,h0]
theorem HY{t u:TypeId}{x y:Operand}{k:IntKind}{a b:Int}(ho:o.op= .binOp .lss t x y u)(hx:ev env x=some (.int k a))(hy:ev env y=some (.int k b)):Dc P own n o env (.bool (decide (a<b))):=
  FV ho hx hy fun w=>by simp [binOp,Op.intCmp]
theorem Ni{t u:TypeId}{x y:Operand}{k:IntKind}{a b:Int}(ho:o.op= .binOp .leq t x y u)(hx:ev env x=some (.int k a))(hy:ev env y=some (.int k b)):Dc P own n o env (.bool (decide (a≤b))):=
  FV ho hx hy fun w=>by simp [binOp,Op.intCmp]
theorem Lp{t u:TypeId}{x y:Operand}{k:IntKind}{a b:Int}(ho:o.op= .binOp .gtr t x y u)(hx:ev env x=some (.int k a))(hy:ev env y=some (.int k b)):Dc P own n o env (.bool (decide (b<a))):=
  FV ho hx hy fun w=>by simp [binOp,Op.intCmp]
theorem Lq{t u:TypeId}{x y:Operand}{k:IntKind}{a b:Int}(ho:o.op= .binOp .geq t x y u)(hx:ev env x=some (.int k a))(hy:ev env y=some (.int k b)):Dc P own n o env (.bool (decide (b≤a))):=
  FV ho hx hy fun w=>by simp [binOp,Op.intCmp]
theorem Lr{t u:TypeId}{x y:Operand}{k:IntKind}{a b:Int}(ho:o.op= .binOp .eql t x y u)(hx:ev env x=some (.int k a))(hy:ev env y=some (.int k b)):Dc P own n o env (.bool (decide (a=b))):=
  FV ho hx hy fun w=>by
    have:(a ==b)=decide (a=b):=by cases h:decide (a=b) <;>simp_all
    simp [binOp,Op.intCmp,this]
theorem Lo{t u:TypeId}{x y:Operand}{k:IntKind}{a b:Int}(ho:o.op= .binOp .neq t x y u)(hx:ev env x=some (.int k a))(hy:ev env y=some (.int k b)):Dc P own n o env (.bool (decide (a≠b))):=
  FV ho hx hy fun w=>by
    have:(a !=b)=decide (a≠b):=by by_cases h:a=b <;>simp [h,bne]
    simp [binOp,Op.intCmp,this]
def OI(op:BinOp)(k:IntKind)(a b:Int):Int:=
  let x:=BitVec.ofInt k.bits a
  let y:=BitVec.ofInt k.bits b
  k.wrap ((match op with| .and=>x &&& y| .or=>x |||y| .xor=>x ^^^y|_=>x &&& ~~~y).toNat:Nat)
theorem Ls{op:BinOp}{t u:TypeId}{x y:Operand}{k:IntKind}{a b:Int}(ho:o.op= .binOp op t x y u)(hx:ev env x=some (.int k a))(hy:ev env y=some (.int k b))
    (Yu:op= .and∨op= .or∨op= .xor∨op= .andNot):Dc P own n o env (.int k (OI op k a b)):=
  FV ho hx hy fun w=>by rcases Yu with rfl|rfl|rfl|rfl <;>simp [binOp,Op.intBits,OI]
def shl(k:IntKind)(a b:Int):Int:=k.wrap (a*2^(min b.toNat k.bits))
def shr(k:IntKind)(a b:Int):Int:=a.fdiv (2^(min b.toNat k.bits))
theorem Nf{t u:TypeId}{x y:Operand}{k k':IntKind}{a b:Int}(ho:o.op= .binOp .shl t x y u)(hx:ev env x=some (.int k a))(hy:ev env y=some (.int k' b))(h0:0≤b):Dc P own n o env (.int k (shl k a b)):=
  De (by rw [ho];rfl) fun c w ha=>by
    have:¬b<0:=by omega
    simp [execOp,ho,ha.eval hx,ha.eval hy,eqGuard,binOp,Op.shift,this,shl]
theorem QF{t u:TypeId}{x y:Operand}{k k':IntKind}{a b:Int}(ho:o.op= .binOp .shr t x y u)(hx:ev env x=some (.int k a))(hy:ev env y=some (.int k' b))(h0:0≤b):Dc P own n o env (.int k (shr k a b)):=
  De (by rw [ho];rfl) fun c w ha=>by
    have:¬b<0:=by omega
    simp [execOp,ho,ha.eval hx,ha.eval hy,eqGuard,binOp,Op.shift,this,shr]
theorem CO{s t:TypeId}{ks kt:IntKind}{x:Operand}{a:Int}{z zt:Value}{i j:TypeInfo} [h1:Ty P s (.int ks) z i] [h2:Ty P t (.int kt) zt j](ho:o.op= .convert s t x)(hx:ev env x=some (.int ks a)):Dc P own n o env (.int kt (kt.wrap a)):=
  De (by rw [ho];rfl) fun c w ha=>by
    simp [execOp,ho,ha.eval hx,convert,CL h1.u,CL h2.u,Conv.intToInt]
theorem Dc.to{v v':Value}(h:Dc P own n o env v)(e:v=v'):Dc P own n o env v':=e▸h
theorem Vh{t:TypeId}{e:TypeId}{z:Value}{i:TypeInfo}{c:Call}{x:Operand}{base:Option Addr}{len cap:Nat} [h1:Ty P t (.slice e) z i](ho:o.op= .call c)(hc:c.callee= .builtin .len)(Il:c.args= #[x])(E5:c.argTypes= #[t])
    (hx:ev env x=some (.slice base len cap)):Dc P own n o env (.int .i64 len):=
  De (by rw [ho];rfl) fun a w ha=>by
    simp [execOp,ho,resolve,hc,Il,E5,invoke,builtin,Builtin.len_,ha.eval hx,CL h1.u,goInt]
theorem Nh{c:Call}{x y:Operand}{k:IntKind}{a b:Int}(ho:o.op= .call c)(hc:c.callee= .builtin .min)(Il:c.args= #[x,y])
    (hx:ev env x=some (.int k a)) (hy:ev env y=some (.int k b)):Dc P own n o env (.int k (min a b)):=
  De (by rw [ho];rfl) fun d w ha=>by
    have:(if b<a then b else a)=min a b:=by rw [Int.min_def];split <;>split <;>omega
    simp [execOp,ho,resolve,hc,Il,invoke,builtin,Builtin.min_,Builtin.min2,ha.eval hx,ha.eval hy,this]
theorem CV{t:TypeId}{x:Operand}{k:Nat}{off fo:Nat}{b:Nat} [h1:He P t k fo](ho:o.op= .fieldAddr t x k)(hx:ev env x=some (.pointer (some ⟨b,off,none⟩))):
    Dc P own n o env (.pointer (some ⟨b,off+fo,none⟩)):=
  De (by rw [ho];rfl) fun a w ha=>by
    have:=h1.run ⟨b,off,none⟩ w;rw [DX] at this
    simp [execOp,ho,ha.eval hx,this]
end
end Go.SL
end
section
namespace Go.SL
theorem Gf{w:World}{b k:Nat}{arr:Array Value}{t:TypeId}{fz:Nat×Nat}(h:w.heap[b]?=some (.cells arr t fz)):w.cell? ⟨b,k,none⟩=arr[k]?:=by
  simp [World.cell?,h]
theorem setRow_other(w:World)(g k:Nat)(cs:Array Value)(h:k≠g):(w.setRow g cs).heap[k]?=w.heap[k]?:=by
  unfold World.setRow;simp only [Array.getElem?_modify];rw [if_neg (fun e=>h e.symm)]
def Fe{α:Type}:List α->Nat->List α->Option (List α)
  |l,0,[]=>some l
  | [],0,_::_=>none
  | _::l,0,v::vs=>match Fe l 0 vs with
    |some r=>some (v::r)
    |none=>none
  | [],_+1,_=>none
  | x::l,k+1,vs=>match Fe l k vs with
    |some r=>some (x::r)
    |none=>none
theorem Ky{α:Type}:∀ {l r:List α} {k:Nat} {vs:List α},Fe l k vs=some r->r=l.take k++vs++l.drop (k+vs.length)/\k+vs.length≤l.length:=by
  intro l;induction l with
  | nil=>
    intro r k vs h;cases k with
    | zero=>cases vs with
      |nil=>cases h;simp
      |cons v vs=>cases h
    |succ k=>cases h
  | cons x l ih=>
    intro r k vs h;cases k with
    | zero=>cases vs with
      |nil=>cases h;simp
      | cons v vs=>
        simp only [Fe] at h
        cases e:Fe l 0 vs with
        |none=>rw [e] at h;cases h
        |some r'=>rw [e] at h;cases h;obtain⟨h1,h2⟩:=ih e;simp at h1 h2;subst h1;simp [h2]
    | succ k=>
      simp only [Fe] at h
      cases e:Fe l k vs with
      |none=>rw [e] at h;cases h
      | some r'=>
        rw [e] at h;cases h;obtain⟨h1,h2⟩:=ih e;subst h1
        have:k+1+vs.length=(k+vs.length)+1:=by omega
        simp [this,h2]
section
variable {P:Program} {own:List B6} {n:Nat} {env:Env} {o:Oper}
theorem Lh{t:TypeId}{d:TypeDesc}{z:Value}{i:TypeInfo} [ty:Ty P t d z i](ha:My d=false){w:World}{a:Addr}{v:Value}(h:w.cell? a=some v):(loadVar t a).run P w= .ok v w:=by
  simp [loadVar,Nb ty.u,ha,h]
theorem Lg{t:TypeId}{d:TypeDesc}{z:Value}{i:TypeInfo} [ty:Ty P t d z i](ha:My d=true){w:World}{a:Addr}{vs:List Value}(hl:vs.length=i.size)(h:∀j v,vs[j]?=some v->w.cell? (a.add j)=some v):
    (loadVar t a).run P w= .ok (.agg ⟨vs⟩) w:=by
  have:=run_loadCells_list (P:=P) w a vs h;simp [loadVar,Nb ty.u,ha,DO ty.i,<-hl,this]
theorem DI{t T:TypeId}{d:TypeDesc}{z v:Value}{i:TypeInfo}{x:Operand}{b off:Nat}{cs:List Value}{fz:Nat×Nat} [ty:Ty P t d z i](ho:o.op= .load t x)(ha:My d=false)(hx:ev env x=some (.pointer (some ⟨b,off,none⟩)))
    [m:At own b (.cells ⟨cs⟩ T fz)] (hv:nth cs off=some v):Dc P own n o env v:=
  ⟨by rw [ho];rfl,fun a w X hA s=>⟨w,s,.inl (by
    rw [NY] at hv
    have:w.cell? ⟨b,off,none⟩=some v:=by rw [Gf (m.get s)];simpa using hv
    simp [execOp,ho,hA.eval hx,Instr.loadAt,Instr.sureAddr,Lh (P:=P) (t:=t) ha this])⟩⟩
theorem D5{t T:TypeId}{d:TypeDesc}{z:Value}{i:TypeInfo}{x:Operand}{b off:Nat}{cs ds vs:List Value}{fz:Nat×Nat} [ty:Ty P t d z i](ho:o.op= .load t x)(ha:My d=true)(hx:ev env x=some (.pointer (some ⟨b,off,none⟩)))
    [m:At own b (.cells ⟨cs⟩ T fz)] (hd:VB cs off=some ds) (hv:Pv ds i.size=some vs):Dc P own n o env (.agg ⟨vs⟩):=
  ⟨by rw [ho];rfl,fun a w X hA s=>⟨w,s,.inl (by
    obtain⟨rfl,h1⟩:=S6 hd;obtain⟨rfl,h2⟩:=Rv hv;have hl:((cs.drop off).take i.size).length=i.size:=by simp at h2 ⊢;omega
    have hc:∀j v,((cs.drop off).take i.size)[j]?=some v->w.cell? ((⟨b,off,none⟩:Addr).add j)=some v:=fun j v hj=>by
      rw [DX,Gf (m.get s)];rw [List.getElem?_take] at hj
      split at hj
      · rw [List.getElem?_drop] at hj;simpa using hj
      · cases hj
    simp [execOp,ho,hA.eval hx,Instr.loadAt,Instr.sureAddr,Lg (P:=P) (t:=t) ha hl hc])⟩⟩
def JI(place:Nat->Option (Nat×Nat)):List Value->List (Nat×Value)->Option (List Value)
  |cs,[]=>some cs
  | cs,(i,v)::r=>match place i,D9 v with
    | some (off,sz),some vs=>match Nat.beq vs.length sz,Fe cs off vs with
      |true,some cs'=>JI place cs' r
      |_,_=>none
    |_,_=>none
theorem Q2(off:Nat):∀(vs:List Value) (j:Nat) (cs:Array Value),off+j+vs.length≤cs.size->
    (vs.zipIdx j).foldl (fun cs (p:Value×Nat)=>cs.setIfInBounds (off+p.2) p.1) cs=(cs.toList.take (off+j)++vs++cs.toList.drop (off+j+vs.length)).toArray:=by
  intro vs;induction vs with
  |nil=>intro j cs h;simp
  | cons v r ih=>
    intro j cs h;simp only [List.length_cons] at h
    rw [List.zipIdx_cons,List.foldl_cons,ih (j+1) _ Aq]
    congr 1
    have e:=list_seg_step cs.toList (off+j) v r Aq;simpa [Array.toList_setIfInBounds,Nat.add_assoc] using e
theorem fill_eq{place:Nat->Option (Nat×Nat)}:∀ {ps:List (Nat×Value)} {cs cs':List Value},JI place cs ps=some cs'->Instr.fill place ⟨cs⟩ ps=some ⟨cs'⟩:=by
  intro ps;induction ps with
  |nil=>intro cs cs' h;cases h;rfl
  | cons p r ih=>
    obtain⟨i,v⟩:=p;intro cs cs' h;simp only [JI] at h
    cases h1:place i with
    |none=>rw [h1] at h;cases h
    | some q=>
      obtain⟨off,sz⟩:=q;cases h2:D9 v with
      |none=>rw [h1,h2] at h;cases h
      | some vs=>
        rw [h1,h2] at h
        simp only at h
        cases h3:Nat.beq vs.length sz with
        |false=>rw [h3] at h;cases h
        | true=>
          cases h4:Fe cs off vs with
          |none=>rw [h3,h4] at h;cases h
          | some cs2=>
            rw [h3,h4] at h
            simp only at h
            obtain⟨g1,g2⟩:=Ky h4;have hc:=EB h2;have GH:v.cells.size=sz:=by rw [hc];simpa using Nat.eq_of_beq_eq_true h3
            have hsz':sz=vs.length:=(Nat.eq_of_beq_eq_true h3).symm;have dQ:¬(off+vs.length>(⟨cs⟩:Array Value).size):=by
              have:(⟨cs⟩:Array Value).size=cs.length:=rfl;omega
            have hif:(decide (v.cells.size≠sz) ||decide (off+v.cells.size>(⟨cs⟩:Array Value).size))=false:=by
              have h7:v.cells.size=vs.length:=by rw [GH,hsz']
              simp only [h7];simp [hsz'];simpa using g2
            simp only [Instr.fill,h1];have YB:¬(v.cells.size≠sz ||off+v.cells.size>(⟨cs⟩:Array Value).size)=true:=by
              intro hh;have:=hif;simp only [ne_eq,gt_iff_lt] at hh this
              simp_all
            rw [if_neg YB];have hf:v.cells.zipIdx.foldl (fun cs (p:Value×Nat)=>cs.setIfInBounds (off+p.2) p.1) (⟨cs⟩:Array Value)=⟨cs2⟩:=by
              rw [hc];have:=Q2 off vs 0 ⟨cs⟩ (by simpa using g2);rw [<-Array.foldl_toList];simp only [Array.toList_zipIdx];simp only [Nat.add_zero] at this
              rw [show(vs.toArray.toList.zipIdx)=vs.zipIdx 0 from rfl];rw [this,g1]
            have:=ih h;rw [<-hf] at this
            exact this
class Ps (P:Program) (t:TypeId) (place:outParam (Nat->Option (Nat×Nat))) (zs:outParam (List Value)):Prop where
  run:∀ps cs w,Instr.fill place ⟨zs⟩ ps.toList=some cs->(Instr.build t ps).run P w= .ok (.agg cs) w
def Q6(env:Env):List (Nat×Operand)->Option (List (Nat×Value))
  | []=>some []
  | (i,x)::r=>match ev env x with
    | some v=>match Q6 env r with
      |some vs=>some ((i,v)::vs)
      |none=>none
    |none=>none
theorem Ms{a:Act}(h:Has n env a):∀ {xs:List (Nat×Operand)} {vs:List (Nat×Value)},Q6 env xs=some vs->(xs.map fun p=>(p.1,a.eval p.2))=vs:=by
  intro xs;induction xs with
  |nil=>intro vs e;cases e;rfl
  | cons x r ih=>
    obtain⟨i,x⟩:=x;intro vs e;simp only [Q6] at e
    cases h1:ev env x with
    |none=>rw [h1] at e;cases e
    | some v=>
      rw [h1] at e
      cases h2:Q6 env r with
      |none=>rw [h2] at e;cases e
      | some Xb=>
        rw [h2] at e;cases e
        simp [h.eval h1,ih h2]
theorem GM{t:TypeId}{ps:Array (Nat×Operand)}{place:Nat->Option (Nat×Nat)}{zs cs:List Value}{qs:List (Nat×Value)} [ty:Ps P t place zs](ho:o.op= .build t ps)(hp:Q6 env ps.toList=some qs)(hb:JI place zs qs=some cs):
    Dc P own n o env (.agg ⟨cs⟩):=
  De (by rw [ho];rfl) fun a w ha=>by
    have e1:(ps.map fun(p:Nat×Operand)=>(p.1,a.eval p.2))=(⟨qs⟩:Array (Nat×Value)):=Array.ext' (by simpa using Ms ha hp);have:=ty.run ⟨qs⟩ ⟨cs⟩ w (fill_eq hb);simp only [execOp,ho];rw [show(ps.map fun(x:Nat×Operand)=>match x with|(i,x)=>(i,a.eval x))=(⟨qs⟩:Array (Nat×Value)) from e1];simp [this]
theorem TO{t:TypeId}{fs:Array Field}{zs:List Value}{pl:List (Nat×Nat)}(h1:P.underlying t=some (.struct fs))(h2:∀w,(zeroValue t).run P w= .ok (.agg ⟨zs⟩) w)
    (h3:∀w,(fs.mapM fun f=>do pure (f.offset,<-sizeOf f.type):Sem (Array (Nat×Nat))).run P w= .ok ⟨pl⟩ w):Ps P t (fun i=>nth pl i) zs:=
  ⟨fun ps cs w hf=>by
    have he:(fun i=>nth pl i)=fun i=>pl[i]?:=funext fun i=>by rw [NY]
    rw [he] at hf
    have hz:(Value.agg ⟨zs⟩).cells=⟨zs⟩:=rfl;simp at h3
    simp [Instr.build,CL h1,h2,h3,hz,hf]⟩
theorem run_places:∀(fs:List Field) (pl:List (Nat×Nat)) (w:World),(fs.map fun f=>(P.info? f.type).map fun i=>(f.offset,i.size))=pl.map some->
    (fs.mapM fun f=>do pure (f.offset,<-sizeOf f.type):Sem (List (Nat×Nat))).run P w= .ok pl w:=by
  intro fs;induction fs with
  | nil=>intro pl w h;cases pl with
    |nil=>rfl
    |cons p r=>cases h
  | cons f r ih=>
    intro pl w h;cases pl with
    |nil=>cases h
    | cons p pl=>
      simp only [List.map_cons,List.cons.injEq] at h
      cases hi:P.info? f.type with
      |none=>rw [hi] at h;cases h.1
      | some i=>
        rw [hi] at h
        have hp:(f.offset,i.size)=p:=by have:=h.1;simpa using this
        simp only [List.mapM_cons,Sem.run_bind,DO hi,Result.andThen,Sem.run_pure,ih pl w h.2];rw [hp]
theorem Dl{t:TypeId}{fs:Array Field}{zs:List Value}{pl:List (Nat×Nat)}(h1:P.underlying t=some (.struct fs))(h2:∀w,(zeroValue t).run P w= .ok (.agg ⟨zs⟩) w)
    (h3:(fs.toList.map fun f=>(P.info? f.type).map fun i=>(f.offset,i.size))=pl.map some):Ps P t (fun i=>nth pl i) zs:=
  TO (pl:=pl) h1 h2 fun w=>by
    rw [Array.mapM_eq_mapM_toList];have:=run_places (P:=P) fs.toList pl w h3;simp only [Sem.run_map,this,Result.andThen]
instance dK{t e:TypeId}{k:Nat}{zs:List Value}{i j:TypeInfo}{d:TypeDesc}{z:Value} [h1:Ty P t (.array k e) (.agg ⟨zs⟩) i] [h2:Ty P e d z j]:Ps P t (fun i=>some (i*j.size,j.size)) zs:=
  ⟨fun ps cs w hf=>by
    have hz:(Value.agg ⟨zs⟩).cells=⟨zs⟩:=rfl;simp [Instr.build,CL h1.u,h1.z,DO h2.i,hz,hf]⟩
end
section
variable {P:Program} {r:Option Nat} {F:B6} {n:Nat} {Q:C4} {env:Env} {own:List B6} {ds:List Deferred} {all:Array Oper} {l:List Nat} {i:Nat} {o:Oper}
theorem XB{d:Nat}{ob:Obj}(hi:all[i]?=some o)(hd:o.dst=some d)(hn:d<n)(hg:Cy all env o=some true)(hp:Ek o.op=true)(hz:∀off,Ou ob off=false)(val:Nat->Value)
    (E0:∀a w,Has n env a->Sat (F::own) w->(execOp a.eval o).run P w= .ok (.value (val w.heap.size)) {w with heap:=w.heap.push ob})
    (h:∀b,SO false P r F n all l Q ((d,val b)::env) (Co b ob::own) ds):SO false P r F n all (i::l) Q env own ds:=by
  intro a w ha MO hs;rw [wpOpsIn_cons];simp only [wpOpIn,hi,DH ha hg,if_true];refine⟨fun f _=>by simp,?_⟩;rw [Eo,semAt_plain hp,E0 a w ha hs,Oper.uponIn_value,hd];exact h w.heap.size _ _ (ha.put _ hn) MO ((D4 hs ob hz).swap)
theorem XC{d:Nat}{t:TypeId}{de:TypeDesc}{z:Value}{ti:TypeInfo}{cs:List Value} [ty:Ty P t de z ti](hi:all[i]?=some o)(hd:o.dst=some d)(hn:d<n)(hg:Cy all env o=some true)(ho:o.op= .alloc t)(hz:D9 z=some cs)
    (h:∀b,SO false P r F n all l Q ((d,.pointer (some ⟨b,0,none⟩))::env) (Co b (.cells ⟨cs⟩ t (0,0))::own) ds):SO false P r F n all (i::l) Q env own ds:=
  XB hi hd hn hg (by rw [ho];rfl) (fun _=>by simp [Ou]) (fun b=> .pointer (some ⟨b,0,none⟩)) (fun a w _ _=>by
    simp [execOp,ho,Instr.alloc,ty.z,newVar,newRow,EB hz]) h
theorem b8{d:Nat}{t:TypeId}{x:Operand}{v:Value}{cs:List Value}(hi:all[i]?=some o)(hd:o.dst=some d)(hn:d<n)(hg:Cy all env o=some true)(ho:o.op= .box t x)(hx:ev env x=some v)(hz:D9 v=some cs)
    (h:∀b,SO false P r F n all l Q ((d,.pointer (some ⟨b,0,none⟩))::env) (Co b (.cells ⟨cs⟩ t (0,0))::own) ds):SO false P r F n all (i::l) Q env own ds:=
  XB hi hd hn hg (by rw [ho];rfl) (fun _=>by simp [Ou]) (fun b=> .pointer (some ⟨b,0,none⟩)) (fun a w ha _=>by
    simp [execOp,ho,Instr.box,ha.eval hx,newVar,newRow,EB hz]) h
theorem XA{t T:TypeId}{x y:Operand}{b off:Nat}{v:Value}{cs vs cs':List Value}{own':List B6}{d:TypeDesc}{z:Value}{ti:TypeInfo} [ty:Ty P t d z ti]
    (hi:all[i]?=some o) (hd:o.dst=none) (hg:Cy all env o=some true) (ho:o.op= .store t x y) (hx:ev env x=some (.pointer (some ⟨b,off,none⟩))) (hy:ev env y=some v)
    (hv:D9 v=some vs) (GH:vs.length=ti.size) (h1:vs.all (·.oneCell')=true) [m:At own b (.cells ⟨cs⟩ T (0,0))] (hc:Fe cs off vs=some cs') [pb:Tt own b (.cells ⟨cs⟩ T (0,0)) (.cells ⟨cs'⟩ T (0,0)) own']
    (h:SO false P r F n all l Q env own' ds):SO false P r F n all (i::l) Q env own ds:=by
  intro a w ha MO hs;rw [wpOpsIn_cons];simp only [wpOpIn,hi,DH ha hg,if_true];refine⟨fun f _=>by simp,?_⟩;obtain⟨g1,g2⟩:=Ky hc;have hb:w.heap[b]?=some (.cells ⟨cs⟩ T (0,0)):=At.get (own:=own) (X:= []) m (by simpa using hs.tail);have FB:=run_storeCells_at P b off T vs 0 ⟨cs⟩ w hb (by simpa using g2) (by simpa using h1);have Kc:((⟨cs⟩:Array Value).toList.take (off+0)++vs++(⟨cs⟩:Array Value).toList.drop (off+0+vs.length)).toArray=⟨cs'⟩:=by rw [g1];rfl
  rw [Kc] at FB
  have YC:=EB hv;have E0:(execOp a.eval o).run P w= .ok .skip (w.setRow b ⟨cs'⟩):=by
    simp [execOp,ho,Instr.storeAt,ha.eval hx,ha.eval hy,Instr.sureAddr,storeVar,DO ty.i,YC,GH,FB]
  rw [Eo,semAt_plain (by rw [ho];rfl),E0,Oper.uponIn_skip,hd];obtain⟨rest,p1,p2⟩:=pb.rest;refine h _ _ ha MO ?_;have s1:Sat (Co b (.cells ⟨cs⟩ T (0,0))::(rest++ [F])) w:=hs.perm ((List.perm_append_comm (l₁:= [F]) (l₂:=own)).trans (p1.append_right [F]));have s2:=s1.put (setRow_heap w b _ ⟨cs'⟩ T (0,0) hb) As As (fun k hk=>setRow_other w b k _ hk) (fun _=>rfl);exact s2.perm (((p2.append_right [F]).symm).trans (List.perm_append_comm (l₁:=own') (l₂:= [F])))
end
theorem Fu{P:Program}{own:List B6}{env:Env}{n a:Nat}{t T:TypeId}{d:TypeDesc}{z v:Value}{i:TypeInfo}{b off:Nat}{cs:List Value}{fz:Nat×Nat} [ty:Ty P t d z i](ha:My d=false)
    (hx:look env a=some (.pointer (some ⟨b,off,none⟩))) [m:At own b (.cells ⟨cs⟩ T fz)] (hv:nth cs off=some v):Ri P own env n (.cell a t) v:=fun A w X hA s=>by
  rw [NY] at hv
  have h1:w.cell? ⟨b,off,none⟩=some v:=by rw [Gf (m.get s)];simpa using hv
  have h2:A.tmps.getD a undef= .pointer (some ⟨b,off,none⟩):=by rw [Array.getD_eq_getD_getElem?,hA.get _ _ hx];rfl
  simp [NN,h2,asAddr,Lh (P:=P) (t:=t) ha h1]
theorem Cv{P:Program}{own:List B6}{env:Env}{n a:Nat}{t T:TypeId}{d:TypeDesc}{z:Value}{i:TypeInfo}{b off:Nat}{cs ds vs:List Value}{fz:Nat×Nat} [ty:Ty P t d z i](ha:My d=true)
    (hx:look env a=some (.pointer (some ⟨b,off,none⟩))) [m:At own b (.cells ⟨cs⟩ T fz)] (hd:VB cs off=some ds) (hv:Pv ds i.size=some vs):Ri P own env n (.cell a t) (.agg ⟨vs⟩):=fun A w X hA s=>by
  obtain⟨rfl,h1⟩:=S6 hd;obtain⟨rfl,h2⟩:=Rv hv;have hl:((cs.drop off).take i.size).length=i.size:=by simp at h2 ⊢;omega
  have hc:∀j v,((cs.drop off).take i.size)[j]?=some v->w.cell? ((⟨b,off,none⟩:Addr).add j)=some v:=fun j v hj=>by
    rw [DX,Gf (m.get s)];rw [List.getElem?_take] at hj
    split at hj
    · rw [List.getElem?_drop] at hj;simpa using hj
    · cases hj
  have h3:A.tmps.getD a undef= .pointer (some ⟨b,off,none⟩):=by rw [Array.getD_eq_getD_getElem?,hA.get _ _ hx];rfl
  simp [NN,h3,asAddr,Lg (P:=P) (t:=t) ha hl hc]
end Go.SL
end
